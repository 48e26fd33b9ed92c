/- Own words for walks: small helps. -/
import Derived.Test.YtaeahloenahelaaDoorSxF
set_option linter.unusedVariables false
set_option linter.unusedSimpArgs false
namespace Go.Sx
open Go.RowKit

theorem fi {ss : List (Nat × Value)} {t : Nat} {k : IntKind} {x y : Int} (h : find ss t = some (.int k x)) (e : x = y) : find ss t = some (.int k y) := by rw [h, e]
theorem fs {ss : List (Nat × Value)} {t : Nat} {x y : List UInt8} (h : find ss t = some (str x)) (e : x = y) : find ss t = some (str y) := by rw [h, e]
theorem fv {ss : List (Nat × Value)} {t : Nat} {x y : Value} (h : find ss t = some x) (e : x = y) : find ss t = some y := by rw [h, e]
theorem ib {b : Nat} {E : TypeId} {cs ds : List Value} {l : List It} (e : cs = ds) : It.blk b E cs :: l = It.blk b E ds :: l := by rw [e]
theorem ib2 {b : Nat} {E : TypeId} {cs ds : List Value} {l l' : List It} (e : cs = ds) (h : l = l') : It.blk b E cs :: l = It.blk b E ds :: l' := by rw [e, h]
theorem ir {e size : Nat} {v : Value} {n n' : Nat} {xs ys : List Value} {l : List It} (h1 : n = n') (h2 : xs = ys) : It.row e size v n xs :: l = It.row e size v n' ys :: l := by rw [h1, h2]
theorem ir2 {e size : Nat} {v : Value} {n n' : Nat} {xs ys : List Value} {l l' : List It} (h1 : n = n') (h2 : xs = ys) (h : l = l') : It.row e size v n xs :: l = It.row e size v n' ys :: l' := by rw [h1, h2, h]
theorem wu8_nat (x : Nat) : IntKind.u8.wrap (x : Int) = ((UInt8.ofNat x).toNat : Int) := by
  rw [wu8_mod, UInt8.toNat_ofNat']
  omega
theorem wu8_eq {y : Int} {x : Nat} (h : y = (x : Int)) : IntKind.u8.wrap y = ((UInt8.ofNat x).toNat : Int) := by rw [h, wu8_nat]
theorem map_get {α : Type} (f : α → Value) (L : List α) (i : Nat) (d : α) (h : i < L.length) : (L.map f)[i]? = some (f (L.getD i d)) := by
  simp [List.getElem?_eq_getElem h, List.getD_eq_getElem?_getD]

section
variable {S : List Nat} {w0 : World} {l : List It}
/-- The tail of an array in a block. -/
theorem rd_slA {b : Nat} {E : TypeId} {cs ds : List Value} {len q k : Nat} (hm : It.blk b E cs ∈ l) (hlen : cs.length = len) (hk : k = q) (hd : cs.drop q = ds) : ∀ w, Sep S w0 w l → Rd w (if len = k then some ⟨b, 0, none⟩ else (some (⟨b, 0, none⟩ : Addr)).map (·.add (k * 1))) ds := fun w hs => by
  subst hk
  rw [Nat.mul_one]
  have h := Rd.blk (hs.all _ hm) 0 cs.length
  simp only [List.drop_zero, List.take_length] at h
  have h2 := h.drop k (len = k) (fun e => by omega)
  rw [← hd]
  exact h2
end
end Go.Sx
namespace Go.Sx
theorem Sep.addNil {S : List Nat} {w0 w : World} {l : List It} (h : Sep S w0 w l) (e size : Nat) : Sep S w0 w (It.row e size (.slice none 0 0) 0 [] :: l) :=
  h.add (Frm.refl _ _) (Row.nil _ _ _) (by simp [It.row, Value.ownBlock])
/-- An item said anew. -/
theorem Sep.conv {S : List Nat} {w0 w : World} {l l' : List It} {i i' : It} (h : Sep S w0 w l) (u : Upd l i i' l') (hP : i.P w → i'.P w) (hfp : ∀ b ∈ i'.fp, b ∈ i.fp) : Sep S w0 w l' := by
  have hm : i ∈ l := by
    obtain ⟨r, h1, _⟩ := u.perm
    exact h1.symm.subset (by simp)
  exact h.upd u (Frm.refl _ _) (hP (h.all _ hm)) (fun b hb => .inl (hfp b hb))
theorem St.conv {n : Nat} {S : List Nat} {w0 : World} {ss : List (Nat × Value)} {l l' : List It} {a : Act} {w : World} {i i' : It} (h : St n S w0 ss l a w) (u : Upd l i i' l') (hP : i.P w → i'.P w) (hfp : ∀ b ∈ i'.fp, b ∈ i.fp) : St n S w0 ss l' a w := ⟨h.fr, h.sep.conv u hP hfp⟩
/-- A literal slice may grow. -/
theorem St.asRow {n : Nat} {S : List Nat} {w0 : World} {ss : List (Nat × Value)} {l l' : List It} {a : Act} {w : World} {b E size m : Nat} {cs : List Value} (h : St n S w0 ss l a w) (u : Upd l (It.blk b E cs) (It.row E size (.slice (some ⟨b, 0, none⟩) m m) m cs) l') (hl : cs.length = m * size) (hm : m ≤ maxLen) : St n S w0 ss l' a w :=
  h.conv u (fun hp => row_of_blk hp hl hm) (by intro b' hb'; simpa [It.row, It.blk, It.obj, Value.ownBlock] using hb')
theorem St.nilRow {n : Nat} {S : List Nat} {w0 : World} {ss : List (Nat × Value)} {l : List It} {a : Act} {w : World} (h : St n S w0 ss l a w) (e size : Nat) : St n S w0 ss (It.row e size (.slice none 0 0) 0 [] :: l) a w := ⟨h.fr, h.sep.addNil e size⟩
theorem Rd.ofSep {S : List Nat} {w0 w : World} {l : List It} {A : Option Addr} {cs : List Value} (h : ∀ w, Sep S w0 w l → Rd w A cs) (hs : Sep S w0 w l) : Rd w A cs := h w hs
theorem row_shape {S : List Nat} {w0 w : World} {l : List It} {e size n : Nat} {v : Value} {xs : List Value} (hs : Sep S w0 w l) (hm : It.row e size v n xs ∈ l) : ∃ A c, v = .slice A n c ∧ Rd w A xs ∧ n ≤ maxLen := Row.rd (hs.all _ hm)
end Go.Sx
