/- Own words: arrays of bytes side by side. -/
import Derived.Test.YtaeahloenahelaaDoorSxV
import Derived.Stop.BytesEq
set_option linter.unusedVariables false
set_option linter.unusedSimpArgs false
namespace Go.Sx
open Go.RowKit
variable {P : Program} {n : Nat} {S : List Nat} {w0 w : World} {ss : List (Nat × Value)} {l : List It} {o : Oper} {a : Act}
theorem u8_cell : u8 = Extern.Stop.cell := rfl
theorem y_hneq {t t' e : TypeId} {x y : Operand} {m : Nat} {p q : List UInt8} (ho : o.op = .binOp .neq t x y t') (hm : P.eqGuardType P.depth t = false) (ht : P.underlying t = some (.array m e)) (he : P.underlying e = some (.int .u8)) (hz : sizeB P e = some 1)
    (hx : evO ss x = some (.agg (p.map u8).toArray)) (hy : evO ss y = some (.agg (q.map u8).toArray)) (hp : p.length = m) (hq : q.length = m) : Yld P n S w0 ss l o (.bool (decide (p ≠ q))) := by
  intro a w F _
  have h0 := run_equalIn_bytes w 9998 t e m ht he (fun w => run_sizeOf' hz) p q hp hq
  have h1 : (binOp .neq t (.agg (p.map u8).toArray) (.agg (q.map u8).toArray)).run P w = .ok (.bool (decide (p ≠ q))) w := by
    rw [run_neq_struct, u8_cell, h0]
    simp [lbeq]
  have hg := fun op (x y : Operand) xs ys => run_eqGuard_agg (P := P) (w := w) op t x y xs ys hm
  simp [execOp, ho, F.ev hx, F.ev hy, hg, h1]
end Go.Sx
