/- Part of a proof about given Go functions: contracts of functions, or plain laws. -/
import Derived.Test.YtbdkgmkaakoigaaS6
import Derived.Test.YtbdkgmkaakoigaaS5
import Derived.Test.YtbdkgmkaakoigaaProg
import Derived.Test.YtbdkgmkaakoigaaS7
set_option linter.unusedVariables false
set_option linter.unusedSimpArgs false
namespace Go.Proofs.Ytbdkgmkaakoigaa.P_EqT
open Go.Sx Go.RowKit

theorem z_agg34 : aggB Try.prog 34 = some true := by kernel_rfl
theorem z_size34 : sizeB Try.prog 34 = some 32 := by kernel_rfl
theorem q_len_c2b32 {a0 a1 : Value} {t2 : List UInt8} (h2 : t2.length = 32) : (a0 :: a1 :: t2.map u8).length = 34 := (len_c (n := 33) (len_c (n := 32) (len_e (k := 32) h2)))
theorem q_ld_c2b32_2_32 {a0 a1 : Value} {t2 : List UInt8} (h2 : t2.length = 32) : ((a0 :: a1 :: t2.map u8).drop 2).take 32 = t2.map u8 := (ld_c (o := 1) (ld_c (o := 0) (ld_a (len_e (k := 32) h2))))
theorem z_size5 : sizeB Try.prog 5 = some 1 := by kernel_rfl
theorem z_agg3 : aggB Try.prog 3 = some false := by kernel_rfl
theorem q_ix_c2b32_1 {a0 a1 : Value} {t2 : List UInt8} : (a0 :: a1 :: t2.map u8)[1]? = some a1 := (ix_c (o := 0) ix_0)
theorem q_ix_c2b32_0 {a0 a1 : Value} {t2 : List UInt8} : (a0 :: a1 :: t2.map u8)[0]? = some a0 := ix_0
theorem q_len_c8b32b32 {a0 a1 a2 a3 a4 a5 a6 a7 : Value} {t8 t9 : List UInt8} (h8 : t8.length = 32) (h9 : t9.length = 32) : (a0 :: a1 :: a2 :: a3 :: a4 :: a5 :: a6 :: a7 :: (t8.map u8 ++ (t9.map u8))).length = 72 := (len_c (n := 71) (len_c (n := 70) (len_c (n := 69) (len_c (n := 68) (len_c (n := 67) (len_c (n := 66) (len_c (n := 65) (len_c (n := 64) (len_b (k := 32) (n := 32) h8 (len_e (k := 32) h9))))))))))
theorem q_ld_c8b32b32_40_32 {a0 a1 a2 a3 a4 a5 a6 a7 : Value} {t8 t9 : List UInt8} (h8 : t8.length = 32) (h9 : t9.length = 32) : ((a0 :: a1 :: a2 :: a3 :: a4 :: a5 :: a6 :: a7 :: (t8.map u8 ++ (t9.map u8))).drop 40).take 32 = t9.map u8 := (ld_c (o := 39) (ld_c (o := 38) (ld_c (o := 37) (ld_c (o := 36) (ld_c (o := 35) (ld_c (o := 34) (ld_c (o := 33) (ld_c (o := 32) (ld_b (k := 32) (o := 0) h8 rfl (ld_a (len_e (k := 32) h9)))))))))))
theorem q_ld_c8b32b32_8_32 {a0 a1 a2 a3 a4 a5 a6 a7 : Value} {t8 t9 : List UInt8} (h8 : t8.length = 32) : ((a0 :: a1 :: a2 :: a3 :: a4 :: a5 :: a6 :: a7 :: (t8.map u8 ++ (t9.map u8))).drop 8).take 32 = t8.map u8 := (ld_c (o := 7) (ld_c (o := 6) (ld_c (o := 5) (ld_c (o := 4) (ld_c (o := 3) (ld_c (o := 2) (ld_c (o := 1) (ld_c (o := 0) (ld_h h8)))))))))
theorem q_ix_c8b32b32_7 {a0 a1 a2 a3 a4 a5 a6 a7 : Value} {t8 t9 : List UInt8} : (a0 :: a1 :: a2 :: a3 :: a4 :: a5 :: a6 :: a7 :: (t8.map u8 ++ (t9.map u8)))[7]? = some a7 := (ix_c (o := 6) (ix_c (o := 5) (ix_c (o := 4) (ix_c (o := 3) (ix_c (o := 2) (ix_c (o := 1) (ix_c (o := 0) ix_0)))))))
theorem q_ix_c8b32b32_6 {a0 a1 a2 a3 a4 a5 a6 a7 : Value} {t8 t9 : List UInt8} : (a0 :: a1 :: a2 :: a3 :: a4 :: a5 :: a6 :: a7 :: (t8.map u8 ++ (t9.map u8)))[6]? = some a6 := (ix_c (o := 5) (ix_c (o := 4) (ix_c (o := 3) (ix_c (o := 2) (ix_c (o := 1) (ix_c (o := 0) ix_0))))))
theorem z_agg4 : aggB Try.prog 4 = some false := by kernel_rfl
theorem q_ix_c8b32b32_5 {a0 a1 a2 a3 a4 a5 a6 a7 : Value} {t8 t9 : List UInt8} : (a0 :: a1 :: a2 :: a3 :: a4 :: a5 :: a6 :: a7 :: (t8.map u8 ++ (t9.map u8)))[5]? = some a5 := (ix_c (o := 4) (ix_c (o := 3) (ix_c (o := 2) (ix_c (o := 1) (ix_c (o := 0) ix_0)))))
theorem z_agg9 : aggB Try.prog 9 = some false := by kernel_rfl
theorem q_ix_c8b32b32_4 {a0 a1 a2 a3 a4 a5 a6 a7 : Value} {t8 t9 : List UInt8} : (a0 :: a1 :: a2 :: a3 :: a4 :: a5 :: a6 :: a7 :: (t8.map u8 ++ (t9.map u8)))[4]? = some a4 := (ix_c (o := 3) (ix_c (o := 2) (ix_c (o := 1) (ix_c (o := 0) ix_0))))
theorem q_ix_c8b32b32_3 {a0 a1 a2 a3 a4 a5 a6 a7 : Value} {t8 t9 : List UInt8} : (a0 :: a1 :: a2 :: a3 :: a4 :: a5 :: a6 :: a7 :: (t8.map u8 ++ (t9.map u8)))[3]? = some a3 := (ix_c (o := 2) (ix_c (o := 1) (ix_c (o := 0) ix_0)))
theorem q_ix_c8b32b32_2 {a0 a1 a2 a3 a4 a5 a6 a7 : Value} {t8 t9 : List UInt8} : (a0 :: a1 :: a2 :: a3 :: a4 :: a5 :: a6 :: a7 :: (t8.map u8 ++ (t9.map u8)))[2]? = some a2 := (ix_c (o := 1) (ix_c (o := 0) ix_0))
theorem q_ix_c8b32b32_1 {a0 a1 a2 a3 a4 a5 a6 a7 : Value} {t8 t9 : List UInt8} : (a0 :: a1 :: a2 :: a3 :: a4 :: a5 :: a6 :: a7 :: (t8.map u8 ++ (t9.map u8)))[1]? = some a1 := (ix_c (o := 0) ix_0)
theorem q_ix_c8b32b32_0 {a0 a1 a2 a3 a4 a5 a6 a7 : Value} {t8 t9 : List UInt8} : (a0 :: a1 :: a2 :: a3 :: a4 :: a5 :: a6 :: a7 :: (t8.map u8 ++ (t9.map u8)))[0]? = some a0 := ix_0
theorem q_ix_c8b32b32c4_75 {a0 a1 a2 a3 a4 a5 a6 a7 a10 a11 a12 a13 : Value} {t8 t9 : List UInt8} (h8 : t8.length = 32) (h9 : t9.length = 32) : (a0 :: a1 :: a2 :: a3 :: a4 :: a5 :: a6 :: a7 :: (t8.map u8 ++ ((t9.map u8 ++ (a10 :: a11 :: a12 :: a13 :: [])))))[75]? = some a13 := (ix_c (o := 74) (ix_c (o := 73) (ix_c (o := 72) (ix_c (o := 71) (ix_c (o := 70) (ix_c (o := 69) (ix_c (o := 68) (ix_c (o := 67) (ix_b (k := 32) (o := 35) h8 rfl (ix_b (k := 32) (o := 3) h9 rfl (ix_c (o := 2) (ix_c (o := 1) (ix_c (o := 0) ix_0)))))))))))))
theorem q_ix_c8b32b32c4_74 {a0 a1 a2 a3 a4 a5 a6 a7 a10 a11 a12 a13 : Value} {t8 t9 : List UInt8} (h8 : t8.length = 32) (h9 : t9.length = 32) : (a0 :: a1 :: a2 :: a3 :: a4 :: a5 :: a6 :: a7 :: (t8.map u8 ++ ((t9.map u8 ++ (a10 :: a11 :: a12 :: a13 :: [])))))[74]? = some a12 := (ix_c (o := 73) (ix_c (o := 72) (ix_c (o := 71) (ix_c (o := 70) (ix_c (o := 69) (ix_c (o := 68) (ix_c (o := 67) (ix_c (o := 66) (ix_b (k := 32) (o := 34) h8 rfl (ix_b (k := 32) (o := 2) h9 rfl (ix_c (o := 1) (ix_c (o := 0) ix_0))))))))))))
theorem q_ix_c8b32b32c4_73 {a0 a1 a2 a3 a4 a5 a6 a7 a10 a11 a12 a13 : Value} {t8 t9 : List UInt8} (h8 : t8.length = 32) (h9 : t9.length = 32) : (a0 :: a1 :: a2 :: a3 :: a4 :: a5 :: a6 :: a7 :: (t8.map u8 ++ ((t9.map u8 ++ (a10 :: a11 :: a12 :: a13 :: [])))))[73]? = some a11 := (ix_c (o := 72) (ix_c (o := 71) (ix_c (o := 70) (ix_c (o := 69) (ix_c (o := 68) (ix_c (o := 67) (ix_c (o := 66) (ix_c (o := 65) (ix_b (k := 32) (o := 33) h8 rfl (ix_b (k := 32) (o := 1) h9 rfl (ix_c (o := 0) ix_0)))))))))))
theorem q_ix_c8b32b32c4_72 {a0 a1 a2 a3 a4 a5 a6 a7 a10 a11 a12 a13 : Value} {t8 t9 : List UInt8} (h8 : t8.length = 32) (h9 : t9.length = 32) : (a0 :: a1 :: a2 :: a3 :: a4 :: a5 :: a6 :: a7 :: (t8.map u8 ++ ((t9.map u8 ++ (a10 :: a11 :: a12 :: a13 :: [])))))[72]? = some a10 := (ix_c (o := 71) (ix_c (o := 70) (ix_c (o := 69) (ix_c (o := 68) (ix_c (o := 67) (ix_c (o := 66) (ix_c (o := 65) (ix_c (o := 64) (ix_b (k := 32) (o := 32) h8 rfl (ix_b (k := 32) (o := 0) h9 rfl ix_0))))))))))
theorem z_agg36 : aggB Try.prog 36 = some true := by kernel_rfl
theorem z_size36 : sizeB Try.prog 36 = some 72 := by kernel_rfl
theorem q_len_c8b32b32c4 {a0 a1 a2 a3 a4 a5 a6 a7 a10 a11 a12 a13 : Value} {t8 t9 : List UInt8} (h8 : t8.length = 32) (h9 : t9.length = 32) : (a0 :: a1 :: a2 :: a3 :: a4 :: a5 :: a6 :: a7 :: (t8.map u8 ++ ((t9.map u8 ++ (a10 :: a11 :: a12 :: a13 :: []))))).length = 76 := (len_c (n := 75) (len_c (n := 74) (len_c (n := 73) (len_c (n := 72) (len_c (n := 71) (len_c (n := 70) (len_c (n := 69) (len_c (n := 68) (len_b (k := 32) (n := 36) h8 (len_b (k := 32) (n := 4) h9 (len_c (n := 3) (len_c (n := 2) (len_c (n := 1) (len_c (n := 0) len_n))))))))))))))
theorem q_ld_c8b32b32c4_0_72 {a0 a1 a2 a3 a4 a5 a6 a7 a10 a11 a12 a13 : Value} {t8 t9 : List UInt8} (h8 : t8.length = 32) (h9 : t9.length = 32) : ((a0 :: a1 :: a2 :: a3 :: a4 :: a5 :: a6 :: a7 :: (t8.map u8 ++ ((t9.map u8 ++ (a10 :: a11 :: a12 :: a13 :: []))))).drop 0).take 72 = a0 :: a1 :: a2 :: a3 :: a4 :: a5 :: a6 :: a7 :: (t8.map u8 ++ (t9.map u8)) := (ld_s (ld_s (ld_s (ld_s (ld_s (ld_s (ld_s (ld_s (ld_t (k := 32) (n := 32) h8 rfl (ld_h h9))))))))))
theorem eqr_Ln (x y : Txs.Ln) (hx_hand : x.hand.length = 32) (hy_hand : y.hand.length = 32) : EqR Try.prog 10000 73 (.agg (Txs.Ln.cells x).toArray) (.agg (Txs.Ln.cells y).toArray) (decide (x = y)) := by
  have h : EqR Try.prog 10000 73 (.agg (Txs.Ln.cells x).toArray) (.agg (Txs.Ln.cells y).toArray) (decide (x.round = y.round) && (decide (x.turn = y.turn) && (decide (x.hand = y.hand) && true))) := eqr_struct Try.underlying73 (by kernel_rfl) (eqf_c (by decide) (pa_1 z_agg3 q_ix_c2b32_0) (pa_1 z_agg3 q_ix_c2b32_0) (eqr_int Try.underlying3) (eqf_c (by decide) (pa_1 z_agg3 q_ix_c2b32_1) (pa_1 z_agg3 q_ix_c2b32_1) (eqr_int Try.underlying3) (eqf_c (by decide) (pa_a z_agg34 z_size34 (q_len_c2b32 (by assumption)) (by decide) (q_ld_c2b32_2_32 (by assumption))) (pa_a z_agg34 z_size34 (q_len_c2b32 (by assumption)) (by decide) (q_ld_c2b32_2_32 (by assumption))) (eqr_bytes Try.underlying34 Try.underlying5 z_size5 hx_hand hy_hand) eqf_n)))
  have e : decide (x = y) = (decide (x.round = y.round) && (decide (x.turn = y.turn) && (decide (x.hand = y.hand) && true))) := by
    rw [Bool.eq_iff_iff]
    cases x
    cases y
    simp
  rw [e]
  exact h
theorem eqr_Tx9 (x y : Txs.Tx) (hx_hand : x.hand.length = 32) (hy_hand : y.hand.length = 32) (hx_tag : x.tag.length = 32) (hy_tag : y.tag.length = 32) : EqR Try.prog 9999 36 (.agg (Txs.Tx.cells x).toArray) (.agg (Txs.Tx.cells y).toArray) (decide (x = y)) := by
  have h : EqR Try.prog 9999 36 (.agg (Txs.Tx.cells x).toArray) (.agg (Txs.Tx.cells y).toArray) (decide (x.src = y.src) && (decide (x.nonce = y.nonce) && (decide (x.fee = y.fee) && (decide (x.dst = y.dst) && (decide (x.data = y.data) && (decide (x.lane = y.lane) && (decide (x.round = y.round) && (decide (x.turn = y.turn) && (decide (x.hand = y.hand) && (decide (x.tag = y.tag) && true)))))))))) := eqr_struct Try.underlying36 (by kernel_rfl) (eqf_c (by decide) (pa_1 z_agg3 q_ix_c8b32b32_0) (pa_1 z_agg3 q_ix_c8b32b32_0) (eqr_int Try.underlying3) (eqf_c (by decide) (pa_1 z_agg3 q_ix_c8b32b32_1) (pa_1 z_agg3 q_ix_c8b32b32_1) (eqr_int Try.underlying3) (eqf_c (by decide) (pa_1 z_agg3 q_ix_c8b32b32_2) (pa_1 z_agg3 q_ix_c8b32b32_2) (eqr_int Try.underlying3) (eqf_c (by decide) (pa_1 z_agg3 q_ix_c8b32b32_3) (pa_1 z_agg3 q_ix_c8b32b32_3) (eqr_int Try.underlying3) (eqf_c (by decide) (pa_1 z_agg9 q_ix_c8b32b32_4) (pa_1 z_agg9 q_ix_c8b32b32_4) (eqr_str Try.underlying9) (eqf_c (by decide) (pa_1 z_agg4 q_ix_c8b32b32_5) (pa_1 z_agg4 q_ix_c8b32b32_5) (eqr_bool Try.underlying4) (eqf_c (by decide) (pa_1 z_agg3 q_ix_c8b32b32_6) (pa_1 z_agg3 q_ix_c8b32b32_6) (eqr_int Try.underlying3) (eqf_c (by decide) (pa_1 z_agg3 q_ix_c8b32b32_7) (pa_1 z_agg3 q_ix_c8b32b32_7) (eqr_int Try.underlying3) (eqf_c (by decide) (pa_a z_agg34 z_size34 (q_len_c8b32b32 (by assumption) (by assumption)) (by decide) (q_ld_c8b32b32_8_32 (by assumption))) (pa_a z_agg34 z_size34 (q_len_c8b32b32 (by assumption) (by assumption)) (by decide) (q_ld_c8b32b32_8_32 (by assumption))) (eqr_bytes Try.underlying34 Try.underlying5 z_size5 hx_hand hy_hand) (eqf_c (by decide) (pa_a z_agg34 z_size34 (q_len_c8b32b32 (by assumption) (by assumption)) (by decide) (q_ld_c8b32b32_40_32 (by assumption) (by assumption))) (pa_a z_agg34 z_size34 (q_len_c8b32b32 (by assumption) (by assumption)) (by decide) (q_ld_c8b32b32_40_32 (by assumption) (by assumption))) (eqr_bytes Try.underlying34 Try.underlying5 z_size5 hx_tag hy_tag) eqf_n))))))))))
  have e : decide (x = y) = (decide (x.src = y.src) && (decide (x.nonce = y.nonce) && (decide (x.fee = y.fee) && (decide (x.dst = y.dst) && (decide (x.data = y.data) && (decide (x.lane = y.lane) && (decide (x.round = y.round) && (decide (x.turn = y.turn) && (decide (x.hand = y.hand) && (decide (x.tag = y.tag) && true)))))))))) := by
    rw [Bool.eq_iff_iff]
    cases x
    cases y
    simp
  rw [e]
  exact h
theorem eqr_Wait (x y : Pool.Wait) (hx_tx_hand : x.tx.hand.length = 32) (hy_tx_hand : y.tx.hand.length = 32) (hx_tx_tag : x.tx.tag.length = 32) (hy_tx_tag : y.tx.tag.length = 32) : EqR Try.prog 10000 38 (.agg (Pool.Wait.cells x).toArray) (.agg (Pool.Wait.cells y).toArray) (decide (x = y)) := by
  have h : EqR Try.prog 10000 38 (.agg (Pool.Wait.cells x).toArray) (.agg (Pool.Wait.cells y).toArray) (decide (x.tx = y.tx) && (decide (x.index = y.index) && (decide (x.till = y.till) && (decide (x.time = y.time) && (decide (x.place = y.place) && true))))) := eqr_struct Try.underlying38 (by kernel_rfl) (eqf_c (by decide) (pa_a z_agg36 z_size36 (q_len_c8b32b32c4 (by assumption) (by assumption)) (by decide) (q_ld_c8b32b32c4_0_72 (by assumption) (by assumption))) (pa_a z_agg36 z_size36 (q_len_c8b32b32c4 (by assumption) (by assumption)) (by decide) (q_ld_c8b32b32c4_0_72 (by assumption) (by assumption))) (eqr_Tx9 x.tx y.tx hx_tx_hand hy_tx_hand hx_tx_tag hy_tx_tag) (eqf_c (by decide) (pa_1 z_agg3 (q_ix_c8b32b32c4_72 (by assumption) (by assumption))) (pa_1 z_agg3 (q_ix_c8b32b32c4_72 (by assumption) (by assumption))) (eqr_int Try.underlying3) (eqf_c (by decide) (pa_1 z_agg3 (q_ix_c8b32b32c4_73 (by assumption) (by assumption))) (pa_1 z_agg3 (q_ix_c8b32b32c4_73 (by assumption) (by assumption))) (eqr_int Try.underlying3) (eqf_c (by decide) (pa_1 z_agg3 (q_ix_c8b32b32c4_74 (by assumption) (by assumption))) (pa_1 z_agg3 (q_ix_c8b32b32c4_74 (by assumption) (by assumption))) (eqr_int Try.underlying3) (eqf_c (by decide) (pa_1 z_agg3 (q_ix_c8b32b32c4_75 (by assumption) (by assumption))) (pa_1 z_agg3 (q_ix_c8b32b32c4_75 (by assumption) (by assumption))) (eqr_int Try.underlying3) eqf_n)))))
  have e : decide (x = y) = (decide (x.tx = y.tx) && (decide (x.index = y.index) && (decide (x.till = y.till) && (decide (x.time = y.time) && (decide (x.place = y.place) && true))))) := by
    rw [Bool.eq_iff_iff]
    cases x
    cases y
    simp
  rw [e]
  exact h

end Go.Proofs.Ytbdkgmkaakoigaa.P_EqT

set_option linter.unusedVariables false
set_option linter.unusedSimpArgs false
namespace Go.Proofs.Ytbdkgmkaakoigaa.P_R1
open Go.Sx Go.RowKit Go.Proofs.Ytbdkgmkaakoigaa.P_EqT

theorem z_size38 : sizeB Try.prog 38 = some 76 := by kernel_rfl
theorem z_field38_1 : fieldB Try.prog 38 1 = some 72 := by kernel_rfl
theorem z_agg3 : aggB Try.prog 3 = some false := by kernel_rfl
theorem z_agg38 : aggB Try.prog 38 = some true := by kernel_rfl
theorem z_zero38 : zeroL Try.prog 38 = some ([.int .i64 0, .int .i64 0, .int .i64 0, .int .i64 0, .string ⟨#[]⟩, .bool false, .int .i64 0, .int .i64 0, .int .u8 0, .int .u8 0, .int .u8 0, .int .u8 0, .int .u8 0, .int .u8 0, .int .u8 0, .int .u8 0, .int .u8 0, .int .u8 0, .int .u8 0, .int .u8 0, .int .u8 0, .int .u8 0, .int .u8 0, .int .u8 0, .int .u8 0, .int .u8 0, .int .u8 0, .int .u8 0, .int .u8 0, .int .u8 0, .int .u8 0, .int .u8 0, .int .u8 0, .int .u8 0, .int .u8 0, .int .u8 0, .int .u8 0, .int .u8 0, .int .u8 0, .int .u8 0, .int .u8 0, .int .u8 0, .int .u8 0, .int .u8 0, .int .u8 0, .int .u8 0, .int .u8 0, .int .u8 0, .int .u8 0, .int .u8 0, .int .u8 0, .int .u8 0, .int .u8 0, .int .u8 0, .int .u8 0, .int .u8 0, .int .u8 0, .int .u8 0, .int .u8 0, .int .u8 0, .int .u8 0, .int .u8 0, .int .u8 0, .int .u8 0, .int .u8 0, .int .u8 0, .int .u8 0, .int .u8 0, .int .u8 0, .int .u8 0, .int .u8 0, .int .u8 0, .int .i64 0, .int .i64 0, .int .i64 0, .int .i64 0]) := by kernel_rfl
theorem z_slice30 : sliceB Try.prog 30 = some (38, 76, 168) := by kernel_rfl
theorem z_notint30 : notIntB Try.prog 30 = true := by kernel_rfl
theorem z_field38_3 : fieldB Try.prog 38 3 = some 74 := by kernel_rfl
theorem q_ix_c8b32b32c4_74 {a0 a1 a2 a3 a4 a5 a6 a7 a10 a11 a12 a13 : Value} {t8 t9 : List UInt8} (h8 : t8.length = 32) (h9 : t9.length = 32) : (a0 :: a1 :: a2 :: a3 :: a4 :: a5 :: a6 :: a7 :: (t8.map u8 ++ ((t9.map u8 ++ (a10 :: a11 :: a12 :: a13 :: [])))))[74]? = some a12 := (ix_c (o := 73) (ix_c (o := 72) (ix_c (o := 71) (ix_c (o := 70) (ix_c (o := 69) (ix_c (o := 68) (ix_c (o := 67) (ix_c (o := 66) (ix_b (k := 32) (o := 34) h8 rfl (ix_b (k := 32) (o := 2) h9 rfl (ix_c (o := 1) (ix_c (o := 0) ix_0))))))))))))
theorem z_field38_4 : fieldB Try.prog 38 4 = some 75 := by kernel_rfl
theorem q_ix_c8b32b32c4_75 {a0 a1 a2 a3 a4 a5 a6 a7 a10 a11 a12 a13 : Value} {t8 t9 : List UInt8} (h8 : t8.length = 32) (h9 : t9.length = 32) : (a0 :: a1 :: a2 :: a3 :: a4 :: a5 :: a6 :: a7 :: (t8.map u8 ++ ((t9.map u8 ++ (a10 :: a11 :: a12 :: a13 :: [])))))[75]? = some a13 := (ix_c (o := 74) (ix_c (o := 73) (ix_c (o := 72) (ix_c (o := 71) (ix_c (o := 70) (ix_c (o := 69) (ix_c (o := 68) (ix_c (o := 67) (ix_b (k := 32) (o := 35) h8 rfl (ix_b (k := 32) (o := 3) h9 rfl (ix_c (o := 2) (ix_c (o := 1) (ix_c (o := 0) ix_0)))))))))))))
theorem z_agg30 : aggB Try.prog 30 = some false := by kernel_rfl
theorem q_ix_c2_1 {a0 a1 : Value} : (a0 :: a1 :: [])[1]? = some a1 := (ix_c (o := 0) ix_0)
theorem z_field38_2 : fieldB Try.prog 38 2 = some 73 := by kernel_rfl
theorem z_size30 : sizeB Try.prog 30 = some 1 := by kernel_rfl
theorem q_len_c2 {a0 a1 : Value} : (a0 :: a1 :: []).length = 2 := (len_c (n := 1) (len_c (n := 0) len_n))
theorem q_set_c2_1 {a0 a1 : Value} {v : Value} : (a0 :: a1 :: []).set 1 v = a0 :: v :: [] := (set_c (o := 0) set_0)

set_option maxRecDepth 100000 in
set_option maxHeartbeats 1000000 in
theorem xsame (L : List Pool.Wait) (hL : Pool.Wfs L) (A B : Option Addr) (c e : Nat) (hlen : L.length ≤ 1000) {w : World} (hR : Rd w A (Pool.wc L)) (hR2 : Rd w B (Pool.wc L)) : Calls Try.prog 12 #[.slice A L.length c, .slice B L.length e] w (Gives (.bool true) [] w) := by
  have lz32 : (List.replicate 32 (0 : UInt8)).length = 32 := List.length_replicate
  refine enterL (args := [.slice A L.length c, .slice B L.length e]) Try.func12 rfl rfl (l := []) (Sep.refl _) ?_
  intro a0 H0
  refine wp_seq ?_
  refine reg ?_
  refine plain (y_assign rfl rfl) rfl rfl rfl H0 ?_
  clear H0; intro a1 H1
  refine fin ?_
  refine then_n ?_
  refine wp_seq ?_
  refine wp_seq ?_
  refine reg ?_
  refine plain (y_move rfl rfl) rfl rfl rfl H1 ?_
  clear H1; intro a2 H2
  refine plain (y_len rfl Try.underlying30 rfl) rfl rfl rfl H2 ?_
  clear H2; intro a3 H3
  refine plain (y_move rfl rfl) rfl rfl rfl H3 ?_
  clear H3; intro a4 H4
  refine plain (y_len rfl Try.underlying30 rfl) rfl rfl rfl H4 ?_
  clear H4; intro a5 H5
  refine plain (y_neq rfl rfl rfl) rfl rfl rfl H5 ?_
  clear H5; intro a6 H6
  refine fin ?_
  refine then_n ?_
  refine cnd H6 rfl (fun hc7 => ?_) (fun hc7 => ?_) -- cond 1
  · (try simp only [decide_eq_true_eq, decide_eq_false_iff_not, Bool.not_eq_true', Bool.not_eq_false', Bool.and_eq_true, Bool.not_eq_true, Bool.not_eq_false] at hc7); (exfalso; first | exact hc7 rfl | exact hc7 trivial | simp at hc7)
  · skip
    try simp only [decide_eq_true_eq, decide_eq_false_iff_not, Bool.not_eq_true', Bool.not_eq_false', Bool.and_eq_true, Bool.not_eq_true, Bool.not_eq_false] at hc7
    refine wp_skip ?_
    refine then_n ?_
    refine wp_seq ?_
    refine wp_seq ?_
    refine reg ?_
    refine plain (y_assign rfl rfl) rfl rfl rfl H6 ?_
    clear H6; intro a8 H8
    refine fin ?_
    refine then_n ?_
    refine wp_block ?_
    refine loop (ι := Nat) (fun k => [(0, .slice A L.length c), (1, .slice B L.length e), (5, .int .i64 (k : Int))]) (fun k => []) (fun k => k ≤ L.length) (fun k => L.length - k) (0) (Nat.zero_le _) (H8.weak ⟨rfl, rfl, rfl, trivial⟩ rfl) ?_
    clear H8; intro k a9 wx9 hok9 H9
    have hok := hok9
    refine wp_seq ?_
    refine wp_seq ?_
    refine reg ?_
    refine plain (y_move rfl rfl) rfl rfl rfl H9 ?_
    clear H9; intro a10 H10
    refine plain (y_move rfl rfl) rfl rfl rfl H10 ?_
    clear H10; intro a11 H11
    refine plain (y_len rfl Try.underlying30 rfl) rfl rfl rfl H11 ?_
    clear H11; intro a12 H12
    refine plain (y_lss rfl rfl rfl) rfl rfl rfl H12 ?_
    clear H12; intro a13 H13
    refine fin ?_
    refine then_n ?_
    refine cnd H13 rfl (fun hc14 => ?_) (fun hc14 => ?_) -- cond 2
    · skip
      try simp only [decide_eq_true_eq, decide_eq_false_iff_not, Bool.not_eq_true', Bool.not_eq_false', Bool.and_eq_true, Bool.not_eq_true, Bool.not_eq_false] at hc14
      refine wp_skip ?_
      refine then_n ?_
      refine wp_seq ?_
      refine wp_block ?_
      refine wp_seq ?_
      have hkl : k < L.length := by omega
      have hwk := hL.at_ hkl
      have whd := hwk.tx.hand
      have wtg := hwk.tx.tag
      refine qreg (by kernel_rfl) (by kernel_rfl) H13 ?_
      have F15 := H13.fr
      clear H13
      refine qplain (y_move rfl rfl) rfl rfl rfl F15 ?_
      clear F15; intro a16 H16
      refine qplain (y_move rfl rfl) rfl rfl rfl H16 ?_
      clear H16; intro a17 H17
      refine qplain (y_ixR rfl Try.underlying30 z_size38 rfl rfl (by omega) (by omega) (rd_old hR (by simp)) (by rw [Pool.wc_len hL]; omega)) rfl rfl rfl H17 ?_
      clear H17; intro a18 H18
      refine qplain (y_loadAS rfl z_agg38 z_size38 rfl (rd_old hR (by simp)) (show _ = Pool.Wait.cells (L.getD k Pool.Wait.zero) from Pool.wc_take hL k hkl) hwk.len (by decide)) rfl rfl rfl H18 ?_
      clear H18; intro a19 H19
      refine qplain (y_move rfl rfl) rfl rfl rfl H19 ?_
      clear H19; intro a20 H20
      refine qplain (y_move rfl rfl) rfl rfl rfl H20 ?_
      clear H20; intro a21 H21
      refine qplain (y_ixR rfl Try.underlying30 z_size38 rfl rfl (by omega) (by omega) (rd_old hR2 (by simp)) (by rw [Pool.wc_len hL]; omega)) rfl rfl rfl H21 ?_
      clear H21; intro a22 H22
      refine qplain (y_loadAS rfl z_agg38 z_size38 rfl (rd_old hR2 (by simp)) (show _ = Pool.Wait.cells (L.getD k Pool.Wait.zero) from Pool.wc_take hL k hkl) hwk.len (by decide)) rfl rfl rfl H22 ?_
      clear H22; intro a23 H23
      refine qplain (y_tneq rfl (by kernel_rfl) rfl rfl (eqr_Wait (L.getD k Pool.Wait.zero) (L.getD k Pool.Wait.zero) whd whd wtg wtg)) rfl rfl rfl H23 ?_
      clear H23; intro a24 H24
      refine qfin H24 ?_
      clear H24; intro wx25 H25
      refine then_n ?_
      refine cnd H25 rfl (fun hc26 => ?_) (fun hc26 => ?_) -- cond 3
      · (try simp only [decide_eq_true_eq, decide_eq_false_iff_not, Bool.not_eq_true', Bool.not_eq_false', Bool.and_eq_true, Bool.not_eq_true, Bool.not_eq_false] at hc26); (exfalso; first | exact hc26 rfl | exact hc26 trivial | simp at hc26)
      · skip
        try simp only [decide_eq_true_eq, decide_eq_false_iff_not, Bool.not_eq_true', Bool.not_eq_false', Bool.and_eq_true, Bool.not_eq_true, Bool.not_eq_false] at hc26
        refine wp_skip ?_
        refine inb_n ?_
        refine then_n ?_
        refine reg ?_
        refine plain (y_move rfl rfl) rfl rfl rfl H25 ?_
        clear H25; intro a27 H27
        refine plain (y_add rfl rfl rfl (by first | exact w64 (by omega) (by omega) | rfl)) rfl rfl rfl H27 ?_
        clear H27; intro a28 H28
        refine plain (y_assign rfl rfl) rfl rfl rfl H28 ?_
        clear H28; intro a29 H29
        refine fin ?_
        refine then_n ?_
        refine ⟨k + 1, by omega, by omega, H29.weak ⟨rfl, rfl, fi rfl (by omega), trivial⟩ rfl⟩
    · skip
      try simp only [decide_eq_true_eq, decide_eq_false_iff_not, Bool.not_eq_true', Bool.not_eq_false', Bool.and_eq_true, Bool.not_eq_true, Bool.not_eq_false] at hc14
      refine wp_exit ?_
      refine then_x ?_
      refine then_x ?_
      refine inb_hit ?_
      refine then_n ?_
      refine wp_seq ?_
      refine reg ?_
      refine plain (y_assign rfl rfl) rfl rfl rfl H13 ?_
      clear H13; intro a30 H30
      refine fin ?_
      refine then_n ?_
      refine wp_ret ?_
      -- return 1
      refine ret1 rfl H30 rfl ?_
      exact ⟨_, [], rfl, ⟨rfl, rfl⟩, H30.sep.sub (List.nil_sublist _)⟩
set_option maxRecDepth 100000 in
set_option maxHeartbeats 1000000 in
theorem xless (a b : Pool.Wait) (wa : Pool.Wait.Wf a) (wb : Pool.Wait.Wf b) (w : World) : Calls Try.prog 21 #[.agg (Pool.Wait.cells a).toArray, .agg (Pool.Wait.cells b).toArray] w (Gives (.bool (decide (Pool.less a b))) [] w) := by
  have w1 := wa.tx.hand
  have w2 := wa.tx.tag
  have w3 := wb.tx.hand
  have w4 := wb.tx.tag
  have lz32 : (List.replicate 32 (0 : UInt8)).length = 32 := List.length_replicate
  have lz0 := wa.tx.hand
  have lz1 := wa.tx.tag
  have lz2 := wb.tx.hand
  have lz3 := wb.tx.tag
  refine enterL (args := [.agg (Pool.Wait.cells a).toArray, .agg (Pool.Wait.cells b).toArray]) Try.func21 rfl rfl (l := []) (Sep.refl _) ?_
  intro a0 H0
  refine wp_seq ?_
  refine reg ?_
  refine st_box rfl rfl (agg_cells _) rfl rfl rfl H0 ?_
  clear H0; intro b1 a1 wx1 H1
  refine st_box rfl rfl (agg_cells _) rfl rfl rfl H1 ?_
  clear H1; intro b2 a2 wx2 H2
  refine plain (y_assign rfl rfl) rfl rfl rfl H2 ?_
  clear H2; intro a3 H3
  refine fin ?_
  refine then_n ?_
  refine wp_seq ?_
  refine wp_seq ?_
  refine reg ?_
  refine plain (y_fieldB rfl z_field38_3 rfl (by first | (simp only [Nat.zero_add, Nat.add_zero, Nat.reduceAdd]; rfl) | rfl)) rfl rfl rfl H3 ?_
  clear H3; intro a4 H4
  refine plain (y_loadB rfl z_agg3 rfl (by repeat (first | exact Mh | apply Mt)) (q_ix_c8b32b32c4_74 (by assumption) (by assumption))) rfl rfl rfl H4 ?_
  clear H4; intro a5 H5
  refine plain (y_fieldB rfl z_field38_3 rfl (by first | (simp only [Nat.zero_add, Nat.add_zero, Nat.reduceAdd]; rfl) | rfl)) rfl rfl rfl H5 ?_
  clear H5; intro a6 H6
  refine plain (y_loadB rfl z_agg3 rfl (by repeat (first | exact Mh | apply Mt)) (q_ix_c8b32b32c4_74 (by assumption) (by assumption))) rfl rfl rfl H6 ?_
  clear H6; intro a7 H7
  refine plain (y_neq rfl rfl rfl) rfl rfl rfl H7 ?_
  clear H7; intro a8 H8
  refine fin ?_
  refine then_n ?_
  refine cnd H8 rfl (fun hc9 => ?_) (fun hc9 => ?_) -- cond 1
  · skip
    try simp only [decide_eq_true_eq, decide_eq_false_iff_not, Bool.not_eq_true', Bool.not_eq_false', Bool.and_eq_true, Bool.not_eq_true, Bool.not_eq_false] at hc9
    refine wp_seq ?_
    refine reg ?_
    refine plain (y_fieldB rfl z_field38_3 rfl (by first | (simp only [Nat.zero_add, Nat.add_zero, Nat.reduceAdd]; rfl) | rfl)) rfl rfl rfl H8 ?_
    clear H8; intro a10 H10
    refine plain (y_loadB rfl z_agg3 rfl (by repeat (first | exact Mh | apply Mt)) (q_ix_c8b32b32c4_74 (by assumption) (by assumption))) rfl rfl rfl H10 ?_
    clear H10; intro a11 H11
    refine plain (y_fieldB rfl z_field38_3 rfl (by first | (simp only [Nat.zero_add, Nat.add_zero, Nat.reduceAdd]; rfl) | rfl)) rfl rfl rfl H11 ?_
    clear H11; intro a12 H12
    refine plain (y_loadB rfl z_agg3 rfl (by repeat (first | exact Mh | apply Mt)) (q_ix_c8b32b32c4_74 (by assumption) (by assumption))) rfl rfl rfl H12 ?_
    clear H12; intro a13 H13
    refine plain (y_lss rfl rfl rfl) rfl rfl rfl H13 ?_
    clear H13; intro a14 H14
    refine plain (y_assign rfl rfl) rfl rfl rfl H14 ?_
    clear H14; intro a15 H15
    refine fin ?_
    refine then_n ?_
    refine wp_ret ?_
    refine then_r ?_
    -- return 1
    refine ret1 rfl H15 rfl ?_
    refine ⟨_, [], rfl, ⟨?_, rfl⟩, H15.sep.sub (List.nil_sublist _)⟩
    clear H15
    exact congrArg Value.bool (decide_eq_decide.2 (by unfold Pool.less; omega))
  · skip
    try simp only [decide_eq_true_eq, decide_eq_false_iff_not, Bool.not_eq_true', Bool.not_eq_false', Bool.and_eq_true, Bool.not_eq_true, Bool.not_eq_false] at hc9
    refine wp_skip ?_
    refine then_n ?_
    refine wp_seq ?_
    refine reg ?_
    refine plain (y_fieldB rfl z_field38_4 rfl (by first | (simp only [Nat.zero_add, Nat.add_zero, Nat.reduceAdd]; rfl) | rfl)) rfl rfl rfl H8 ?_
    clear H8; intro a16 H16
    refine plain (y_loadB rfl z_agg3 rfl (by repeat (first | exact Mh | apply Mt)) (q_ix_c8b32b32c4_75 (by assumption) (by assumption))) rfl rfl rfl H16 ?_
    clear H16; intro a17 H17
    refine plain (y_fieldB rfl z_field38_4 rfl (by first | (simp only [Nat.zero_add, Nat.add_zero, Nat.reduceAdd]; rfl) | rfl)) rfl rfl rfl H17 ?_
    clear H17; intro a18 H18
    refine plain (y_loadB rfl z_agg3 rfl (by repeat (first | exact Mh | apply Mt)) (q_ix_c8b32b32c4_75 (by assumption) (by assumption))) rfl rfl rfl H18 ?_
    clear H18; intro a19 H19
    refine plain (y_lss rfl rfl rfl) rfl rfl rfl H19 ?_
    clear H19; intro a20 H20
    refine plain (y_assign rfl rfl) rfl rfl rfl H20 ?_
    clear H20; intro a21 H21
    refine fin ?_
    refine then_n ?_
    refine wp_ret ?_
    -- return 2
    refine ret1 rfl H21 rfl ?_
    refine ⟨_, [], rfl, ⟨?_, rfl⟩, H21.sep.sub (List.nil_sublist _)⟩
    clear H21
    exact congrArg Value.bool (decide_eq_decide.2 (by unfold Pool.less; omega))
end Go.Proofs.Ytbdkgmkaakoigaa.P_R1

set_option linter.unusedVariables false
set_option linter.unusedSimpArgs false
namespace Go.Proofs.Ytbdkgmkaakoigaa.P_New
open Go.Sx Go.RowKit

theorem z_zeroN63 : zeroL Try.prog 63 = some ((.int .i64 0 :: (.slice none 0 0 :: []))) := by kernel_rfl
theorem z_places63 : placesB Try.prog 63 = some [(0, 1), (1, 1)] := by kernel_rfl
theorem q_len_c2 {a0 a1 : Value} : (a0 :: a1 :: []).length = 2 := (len_c (n := 1) (len_c (n := 0) len_n))
theorem q_spl_c2_0_c1 {a0 a1 : Value} {b0 : Value} : spl (a0 :: a1 :: []) 0 (b0 :: []) = b0 :: a1 :: [] := spl_0
theorem z_agg3 : aggB Try.prog 3 = some false := by kernel_rfl
theorem z_agg23 : aggB Try.prog 23 = some false := by kernel_rfl
theorem z_size3 : sizeB Try.prog 3 = some 1 := by kernel_rfl

set_option maxRecDepth 100000 in
set_option maxHeartbeats 1000000 in
theorem pnew (size : Int) (h1 : 1 ≤ size ∧ size ≤ 256) (w : World) : Calls Try.prog 8 #[.int .i64 size] w (Post [] w fun u l' => ∃ bp, u = .tuple #[.pointer (some ⟨bp, 0, none⟩), .int .i64 0] ∧ l' = [It.row 38 76 (.slice none 0 0) ([] : List Pool.Wait).length (Pool.wc ([] : List Pool.Wait)), It.blk bp 63 [i64 size, (.slice none 0 0)]]) := by
  have lz32 : (List.replicate 32 (0 : UInt8)).length = 32 := List.length_replicate
  refine enterL (args := [.int .i64 size]) Try.func8 rfl rfl (l := []) (Sep.refl _) ?_
  intro a0 H0
  refine wp_seq ?_
  refine reg ?_
  refine plain (y_assign rfl rfl) rfl rfl rfl H0 ?_
  clear H0; intro a1 H1
  refine plain (y_assign rfl rfl) rfl rfl rfl H1 ?_
  clear H1; intro a2 H2
  refine fin ?_
  refine then_n ?_
  refine wp_seq ?_
  refine wp_seq ?_
  refine reg ?_
  refine plain (y_move rfl rfl) rfl rfl rfl H2 ?_
  clear H2; intro a3 H3
  refine plain (y_lss rfl rfl rfl) rfl rfl rfl H3 ?_
  clear H3; intro a4 H4
  refine plain (y_move rfl rfl) rfl rfl rfl H4 ?_
  clear H4; intro a5 H5
  have H7 := H5.know (d := 6) (v := .bool false) rfl (congrArg Value.bool (decide_eq_false (by omega)))
  clear H5
  refine plain (y_move rfl rfl) rfl rfl rfl H7 ?_
  clear H7; intro a8 H8
  refine plain (y_gtr rfl rfl rfl) rfl rfl rfl H8 ?_
  clear H8; intro a9 H9
  refine plain (y_pick_f rfl rfl rfl) rfl rfl rfl H9 ?_
  clear H9; intro a10 H10
  refine fin ?_
  refine then_n ?_
  refine cnd H10 rfl (fun hc11 => ?_) (fun hc11 => ?_) -- cond 1
  · (try simp only [decide_eq_true_eq, decide_eq_false_iff_not, Bool.not_eq_true', Bool.not_eq_false', Bool.and_eq_true, Bool.not_eq_true, Bool.not_eq_false] at hc11); (exfalso; omega)
  · skip
    try simp only [decide_eq_true_eq, decide_eq_false_iff_not, Bool.not_eq_true', Bool.not_eq_false', Bool.and_eq_true, Bool.not_eq_true, Bool.not_eq_false] at hc11
    refine wp_skip ?_
    refine then_n ?_
    refine wp_seq ?_
    refine reg ?_
    refine plain (y_move rfl rfl) rfl rfl rfl H10 ?_
    clear H10; intro a12 H12
    refine plain (y_build rfl z_zeroN63 z_places63 rfl (lay_1 (off := 0) (n := 2) rfl q_len_c2 (by decide) q_spl_c2_0_c1 lay_n (by rfl))) rfl rfl rfl H12 ?_
    clear H12; intro a13 H13
    refine st_box rfl rfl (agg_cells _) rfl rfl rfl H13 ?_
    clear H13; intro b14 a14 wx14 H14
    refine plain (y_assign rfl rfl) rfl rfl rfl H14 ?_
    clear H14; intro a15 H15
    refine plain (y_assign rfl rfl) rfl rfl rfl H15 ?_
    clear H15; intro a16 H16
    refine fin ?_
    refine then_n ?_
    refine wp_ret ?_
    -- return 1
    refine ret2 rfl H16 rfl rfl ?_
    replace H16 := H16.nilRow 38 76
    first | (exfalso; omega) | (exact ⟨_, _, rfl, ⟨b14, rfl, rfl⟩, H16.sep⟩)
set_option maxRecDepth 100000 in
set_option maxHeartbeats 1000000 in
theorem pawc (nb : Nat) (n q : Int) {w : World} (hp : (It.blk nb 3 [i64 n]).P w) : Calls Try.prog 24 #[.int .i64 q, .pointer (some ⟨nb, 0, none⟩)] w (Gives (.int .i64 n) [] w) := by
  have lz32 : (List.replicate 32 (0 : UInt8)).length = 32 := List.length_replicate
  refine enterL (args := [.int .i64 q, .pointer (some ⟨nb, 0, none⟩)]) Try.func24 rfl rfl (l := []) (Sep.refl _) ?_
  intro a0 H0
  refine wp_seq ?_
  refine reg ?_
  refine plain (y_assign rfl rfl) rfl rfl rfl H0 ?_
  clear H0; intro a1 H1
  refine fin ?_
  refine then_n ?_
  refine wp_seq ?_
  refine reg ?_
  refine plain (y_loadO rfl z_agg3 rfl (blk_cell hp (by rfl)) (by simp)) rfl rfl rfl H1 ?_
  clear H1; intro a2 H2
  refine plain (y_assign rfl rfl) rfl rfl rfl H2 ?_
  clear H2; intro a3 H3
  refine fin ?_
  refine then_n ?_
  refine wp_ret ?_
  -- return 1
  refine ret1 rfl H3 rfl ?_
  exact ⟨_, [], rfl, ⟨rfl, rfl⟩, H3.sep.sub (List.nil_sublist _)⟩
set_option maxRecDepth 100000 in
set_option maxHeartbeats 1000000 in
theorem pplc (nx : List Int) (h64 : nx.length = 64) (nb : Nat) (A : Option Addr) (c : Nat) (q : Int) (hq : 0 ≤ q ∧ q ≤ 63) {w : World} (hp : (It.blk nb 23 [.slice A 64 c]).P w) (hR : Rd w A (nx.map i64)) : Calls Try.prog 34 #[.int .i64 q, .pointer (some ⟨nb, 0, none⟩)] w (Gives (.int .i64 (nx.getD q.toNat 0)) [] w) := by
  have lz32 : (List.replicate 32 (0 : UInt8)).length = 32 := List.length_replicate
  refine enterL (args := [.int .i64 q, .pointer (some ⟨nb, 0, none⟩)]) Try.func34 rfl rfl (l := []) (Sep.refl _) ?_
  intro a0 H0
  refine wp_seq ?_
  refine reg ?_
  refine plain (y_assign rfl rfl) rfl rfl rfl H0 ?_
  clear H0; intro a1 H1
  refine fin ?_
  refine then_n ?_
  refine wp_seq ?_
  refine reg ?_
  refine plain (y_loadO rfl z_agg23 rfl (blk_cell hp (by rfl)) (by simp)) rfl rfl rfl H1 ?_
  clear H1; intro a2 H2
  refine plain (y_move rfl rfl) rfl rfl rfl H2 ?_
  clear H2; intro a3 H3
  refine plain (y_ixR rfl Try.underlying23 z_size3 rfl rfl (by omega) (by omega) (rd_old hR (by simp)) (by rw [List.length_map]; omega)) rfl rfl rfl H3 ?_
  clear H3; intro a4 H4
  refine plain (y_loadR rfl z_agg3 rfl (rd_old hR (by simp)) (by rw [Nat.mul_one]; exact i64_get nx q.toNat (by omega))) rfl rfl rfl H4 ?_
  clear H4; intro a5 H5
  refine plain (y_assign rfl rfl) rfl rfl rfl H5 ?_
  clear H5; intro a6 H6
  refine fin ?_
  refine then_n ?_
  refine wp_ret ?_
  -- return 1
  refine ret1 rfl H6 rfl ?_
  exact ⟨_, [], rfl, ⟨rfl, rfl⟩, H6.sep.sub (List.nil_sublist _)⟩
set_option maxRecDepth 100000 in
set_option maxHeartbeats 1000000 in
theorem pwac (nx : List Int) (h64 : nx.length = 64) (nb : Nat) (A : Option Addr) (c : Nat) (q : Int) (hq : 0 ≤ q ∧ q ≤ 63) {w : World} (hp : (It.blk nb 23 [.slice A 64 c]).P w) (hR : Rd w A (nx.map i64)) : Calls Try.prog 22 #[.int .i64 q, .pointer (some ⟨nb, 0, none⟩)] w (Gives (.int .i64 (nx.getD q.toNat 0)) [] w) := by
  have lz32 : (List.replicate 32 (0 : UInt8)).length = 32 := List.length_replicate
  refine enterL (args := [.int .i64 q, .pointer (some ⟨nb, 0, none⟩)]) Try.func22 rfl rfl (l := []) (Sep.refl _) ?_
  intro a0 H0
  refine wp_seq ?_
  refine reg ?_
  refine plain (y_assign rfl rfl) rfl rfl rfl H0 ?_
  clear H0; intro a1 H1
  refine fin ?_
  refine then_n ?_
  refine wp_seq ?_
  refine reg ?_
  refine plain (y_loadO rfl z_agg23 rfl (blk_cell hp (by rfl)) (by simp)) rfl rfl rfl H1 ?_
  clear H1; intro a2 H2
  refine plain (y_move rfl rfl) rfl rfl rfl H2 ?_
  clear H2; intro a3 H3
  refine plain (y_ixR rfl Try.underlying23 z_size3 rfl rfl (by omega) (by omega) (rd_old hR (by simp)) (by rw [List.length_map]; omega)) rfl rfl rfl H3 ?_
  clear H3; intro a4 H4
  refine plain (y_loadR rfl z_agg3 rfl (rd_old hR (by simp)) (by rw [Nat.mul_one]; exact i64_get nx q.toNat (by omega))) rfl rfl rfl H4 ?_
  clear H4; intro a5 H5
  refine plain (y_assign rfl rfl) rfl rfl rfl H5 ?_
  clear H5; intro a6 H6
  refine fin ?_
  refine then_n ?_
  refine wp_ret ?_
  -- return 1
  refine ret1 rfl H6 rfl ?_
  exact ⟨_, [], rfl, ⟨rfl, rfl⟩, H6.sep.sub (List.nil_sublist _)⟩

end Go.Proofs.Ytbdkgmkaakoigaa.P_New

set_option linter.unusedVariables false
set_option linter.unusedSimpArgs false
namespace Go.Proofs.Ytbdkgmkaakoigaa.P_Tx
open Go.Sx Go.RowKit Go.Proofs.Ytbdkgmkaakoigaa.P_EqT

theorem z_field36_6 : fieldB Try.prog 36 6 = some 6 := by kernel_rfl
theorem z_agg3 : aggB Try.prog 3 = some false := by kernel_rfl
theorem q_ix_c8b32b32_6 {a0 a1 a2 a3 a4 a5 a6 a7 : Value} {t8 t9 : List UInt8} : (a0 :: a1 :: a2 :: a3 :: a4 :: a5 :: a6 :: a7 :: (t8.map u8 ++ (t9.map u8)))[6]? = some a6 := (ix_c (o := 5) (ix_c (o := 4) (ix_c (o := 3) (ix_c (o := 2) (ix_c (o := 1) (ix_c (o := 0) ix_0))))))
theorem z_field36_7 : fieldB Try.prog 36 7 = some 7 := by kernel_rfl
theorem q_ix_c8b32b32_7 {a0 a1 a2 a3 a4 a5 a6 a7 : Value} {t8 t9 : List UInt8} : (a0 :: a1 :: a2 :: a3 :: a4 :: a5 :: a6 :: a7 :: (t8.map u8 ++ (t9.map u8)))[7]? = some a7 := (ix_c (o := 6) (ix_c (o := 5) (ix_c (o := 4) (ix_c (o := 3) (ix_c (o := 2) (ix_c (o := 1) (ix_c (o := 0) ix_0)))))))
theorem z_field36_8 : fieldB Try.prog 36 8 = some 8 := by kernel_rfl
theorem z_agg34 : aggB Try.prog 34 = some true := by kernel_rfl
theorem z_size34 : sizeB Try.prog 34 = some 32 := by kernel_rfl
theorem q_ld_c8b32b32_8_32 {a0 a1 a2 a3 a4 a5 a6 a7 : Value} {t8 t9 : List UInt8} (h8 : t8.length = 32) : ((a0 :: a1 :: a2 :: a3 :: a4 :: a5 :: a6 :: a7 :: (t8.map u8 ++ (t9.map u8))).drop 8).take 32 = t8.map u8 := (ld_c (o := 7) (ld_c (o := 6) (ld_c (o := 5) (ld_c (o := 4) (ld_c (o := 3) (ld_c (o := 2) (ld_c (o := 1) (ld_c (o := 0) (ld_h h8)))))))))
theorem q_len_b32 {t0 : List UInt8} (h0 : t0.length = 32) : (t0.map u8).length = 32 := (len_e (k := 32) h0)
theorem z_zeroN73 : zeroL Try.prog 73 = some ((.int .i64 0 :: (.int .i64 0 :: (List.replicate 32 (0 : UInt8)).map u8))) := by kernel_rfl
theorem z_places73 : placesB Try.prog 73 = some [(0, 1), (1, 1), (2, 32)] := by kernel_rfl
theorem q_len_c2b32 {a0 a1 : Value} {t2 : List UInt8} (h2 : t2.length = 32) : (a0 :: a1 :: t2.map u8).length = 34 := (len_c (n := 33) (len_c (n := 32) (len_e (k := 32) h2)))
theorem q_spl_c2b32_0_c1 {a0 a1 : Value} {t2 : List UInt8} {b0 : Value} : spl (a0 :: a1 :: t2.map u8) 0 (b0 :: []) = b0 :: a1 :: t2.map u8 := spl_0
theorem q_spl_c2b32_1_c1 {a0 a1 : Value} {t2 : List UInt8} {b0 : Value} : spl (a0 :: a1 :: t2.map u8) 1 (b0 :: []) = a0 :: b0 :: t2.map u8 := (spl_c (o := 0) spl_0)
theorem q_spl_c2b32_2_b32 {a0 a1 : Value} {t2 : List UInt8} {s0 : List UInt8} (h2 : t2.length = 32) (g0 : s0.length = 32) : spl (a0 :: a1 :: t2.map u8) 2 (s0.map u8) = a0 :: a1 :: s0.map u8 := (spl_c (o := 1) (spl_c (o := 0) (spl_a (z := 32) (len_e (k := 32) h2) (len_e (k := 32) g0))))
theorem z_size73 : sizeB Try.prog 73 = some 34 := by kernel_rfl
theorem q_one_c2b32 {a0 a1 : Value} {t2 : List UInt8} (o0 : a0.oneCell' = true) (o1 : a1.oneCell' = true) : (a0 :: a1 :: t2.map u8).all (·.oneCell') = true := (one_c o0 (one_c o1 (one_u8 _)))
theorem q_spl_c2b32_0_c2b32 {a0 a1 : Value} {t2 : List UInt8} {b0 b1 : Value} {s2 : List UInt8} (h2 : t2.length = 32) (g2 : s2.length = 32) : spl (a0 :: a1 :: t2.map u8) 0 (b0 :: b1 :: s2.map u8) = b0 :: b1 :: s2.map u8 := (spl_a (z := 34) (len_c (n := 33) (len_c (n := 32) (len_e (k := 32) h2))) (len_c (n := 33) (len_c (n := 32) (len_e (k := 32) g2))))
theorem z_field36_0 : fieldB Try.prog 36 0 = some 0 := by kernel_rfl
theorem q_ix_c8b32b32_0 {a0 a1 a2 a3 a4 a5 a6 a7 : Value} {t8 t9 : List UInt8} : (a0 :: a1 :: a2 :: a3 :: a4 :: a5 :: a6 :: a7 :: (t8.map u8 ++ (t9.map u8)))[0]? = some a0 := ix_0
theorem z_field36_3 : fieldB Try.prog 36 3 = some 3 := by kernel_rfl
theorem q_ix_c8b32b32_3 {a0 a1 a2 a3 a4 a5 a6 a7 : Value} {t8 t9 : List UInt8} : (a0 :: a1 :: a2 :: a3 :: a4 :: a5 :: a6 :: a7 :: (t8.map u8 ++ (t9.map u8)))[3]? = some a3 := (ix_c (o := 2) (ix_c (o := 1) (ix_c (o := 0) ix_0)))
theorem z_field36_1 : fieldB Try.prog 36 1 = some 1 := by kernel_rfl
theorem q_ix_c8b32b32_1 {a0 a1 a2 a3 a4 a5 a6 a7 : Value} {t8 t9 : List UInt8} : (a0 :: a1 :: a2 :: a3 :: a4 :: a5 :: a6 :: a7 :: (t8.map u8 ++ (t9.map u8)))[1]? = some a1 := (ix_c (o := 0) ix_0)
theorem z_call35 : callB Try.prog 35 = true := by kernel_rfl
theorem z_field36_2 : fieldB Try.prog 36 2 = some 2 := by kernel_rfl
theorem q_ix_c8b32b32_2 {a0 a1 a2 a3 a4 a5 a6 a7 : Value} {t8 t9 : List UInt8} : (a0 :: a1 :: a2 :: a3 :: a4 :: a5 :: a6 :: a7 :: (t8.map u8 ++ (t9.map u8)))[2]? = some a2 := (ix_c (o := 1) (ix_c (o := 0) ix_0))
theorem z_field36_4 : fieldB Try.prog 36 4 = some 4 := by kernel_rfl
theorem z_agg9 : aggB Try.prog 9 = some false := by kernel_rfl
theorem q_ix_c8b32b32_4 {a0 a1 a2 a3 a4 a5 a6 a7 : Value} {t8 t9 : List UInt8} : (a0 :: a1 :: a2 :: a3 :: a4 :: a5 :: a6 :: a7 :: (t8.map u8 ++ (t9.map u8)))[4]? = some a4 := (ix_c (o := 3) (ix_c (o := 2) (ix_c (o := 1) (ix_c (o := 0) ix_0))))
theorem z_field36_5 : fieldB Try.prog 36 5 = some 5 := by kernel_rfl
theorem z_agg4 : aggB Try.prog 4 = some false := by kernel_rfl
theorem q_ix_c8b32b32_5 {a0 a1 a2 a3 a4 a5 a6 a7 : Value} {t8 t9 : List UInt8} : (a0 :: a1 :: a2 :: a3 :: a4 :: a5 :: a6 :: a7 :: (t8.map u8 ++ (t9.map u8)))[5]? = some a5 := (ix_c (o := 4) (ix_c (o := 3) (ix_c (o := 2) (ix_c (o := 1) (ix_c (o := 0) ix_0)))))
theorem z_agg73 : aggB Try.prog 73 = some true := by kernel_rfl
theorem q_ld_c2b32_0_34 {a0 a1 : Value} {t2 : List UInt8} (h2 : t2.length = 32) : ((a0 :: a1 :: t2.map u8).drop 0).take 34 = a0 :: a1 :: t2.map u8 := (ld_a (len_c (n := 33) (len_c (n := 32) (len_e (k := 32) h2))))
theorem z_size5 : sizeB Try.prog 5 = some 1 := by kernel_rfl

set_option maxRecDepth 100000 in
set_option maxHeartbeats 1000000 in
theorem tnumber (n : Int) (w : World) : Calls Try.prog 35 #[.int .i64 n] w (Gives (.bool (decide (Txs.within n 1099511627776))) [] w) := by
  have lz32 : (List.replicate 32 (0 : UInt8)).length = 32 := List.length_replicate
  refine enterL (args := [.int .i64 n]) Try.func35 rfl rfl (l := []) (Sep.refl _) ?_
  intro a0 H0
  refine wp_seq ?_
  refine reg ?_
  refine plain (y_assign rfl rfl) rfl rfl rfl H0 ?_
  clear H0; intro a1 H1
  refine fin ?_
  refine then_n ?_
  refine wp_seq ?_
  refine reg ?_
  refine plain (y_move rfl rfl) rfl rfl rfl H1 ?_
  clear H1; intro a2 H2
  refine plain (y_geq rfl rfl rfl) rfl rfl rfl H2 ?_
  clear H2; intro a3 H3
  refine plain (y_move rfl rfl) rfl rfl rfl H3 ?_
  clear H3; intro a4 H4
  refine Sx.part (d := 5) H4 rfl (fun hg5 => ?_) (fun hg5 => ?_)
  · first
    | fail
    | skip
      clear H4; intro H6
      try simp only [decide_eq_true_eq, decide_eq_false_iff_not, Bool.not_eq_true', Bool.not_eq_false', Bool.and_eq_true, Bool.not_eq_true, Bool.not_eq_false] at hg5
      refine plain (y_move rfl rfl) rfl rfl rfl H6 ?_
      clear H6; intro a7 H7
      refine plain (y_leq rfl rfl rfl) rfl rfl rfl H7 ?_
      clear H7; intro a8 H8
      refine plain (y_pick_t rfl rfl rfl) rfl rfl rfl H8 ?_
      clear H8; intro a9 H9
      refine plain (y_assign rfl rfl) rfl rfl rfl H9 ?_
      clear H9; intro a10 H10
      refine fin ?_
      refine then_n ?_
      refine wp_ret ?_
      -- return 1
      refine ret1 rfl H10 rfl ?_
      refine ⟨_, [], rfl, ⟨?_, rfl⟩, H10.sep.sub (List.nil_sublist _)⟩
      clear H10
      first | exact congrArg Value.bool (decide_eq_decide.2 (by unfold Txs.within; omega)) | exact congrArg Value.bool (decide_eq_false (by unfold Txs.within; omega)).symm
  · first
    | fail
    | skip
      clear H4; intro H11
      try simp only [decide_eq_true_eq, decide_eq_false_iff_not, Bool.not_eq_true', Bool.not_eq_false', Bool.and_eq_true, Bool.not_eq_true, Bool.not_eq_false] at hg5
      refine skip rfl rfl rfl H11 ?_
      clear H11; intro a12 H12
      refine skip rfl rfl rfl H12 ?_
      clear H12; intro a13 H13
      refine plain (y_pick_f rfl rfl rfl) rfl rfl rfl H13 ?_
      clear H13; intro a14 H14
      refine plain (y_assign rfl rfl) rfl rfl rfl H14 ?_
      clear H14; intro a15 H15
      refine fin ?_
      refine then_n ?_
      refine wp_ret ?_
      -- return 2
      refine ret1 rfl H15 rfl ?_
      refine ⟨_, [], rfl, ⟨?_, rfl⟩, H15.sep.sub (List.nil_sublist _)⟩
      clear H15
      first | exact congrArg Value.bool (decide_eq_decide.2 (by unfold Txs.within; omega)) | exact congrArg Value.bool (decide_eq_false (by unfold Txs.within; omega)).symm
set_option maxRecDepth 100000 in
set_option maxHeartbeats 4000000 in
theorem tcheck (t : Txs.Tx) (wf : Txs.Tx.Wf t) (w : World) : Calls Try.prog 25 #[.agg (Txs.Tx.cells t).toArray] w (Gives (.int .i64 (Txs.check t)) [] w) := by
  have whd := wf.hand
  have wtg := wf.tag
  have lz32 : (List.replicate 32 (0 : UInt8)).length = 32 := List.length_replicate
  have lz0 := wf.hand
  have lz1 := wf.tag
  refine enterL (args := [.agg (Txs.Tx.cells t).toArray]) Try.func25 rfl rfl (l := []) (Sep.refl _) ?_
  intro a0 H0
  refine wp_seq ?_
  refine reg ?_
  refine st_box rfl rfl (agg_cells _) rfl rfl rfl H0 ?_
  clear H0; intro b1 a1 wx1 H1
  refine plain (y_assign rfl rfl) rfl rfl rfl H1 ?_
  clear H1; intro a2 H2
  refine fin ?_
  refine then_n ?_
  refine wp_seq ?_
  refine reg ?_
  refine plain (y_fieldB rfl z_field36_6 rfl (by first | (simp only [Nat.zero_add, Nat.add_zero, Nat.reduceAdd]; rfl) | rfl)) rfl rfl rfl H2 ?_
  clear H2; intro a3 H3
  refine plain (y_loadB rfl z_agg3 rfl (by repeat (first | exact Mh | apply Mt)) q_ix_c8b32b32_6) rfl rfl rfl H3 ?_
  clear H3; intro a4 H4
  refine plain (y_fieldB rfl z_field36_7 rfl (by first | (simp only [Nat.zero_add, Nat.add_zero, Nat.reduceAdd]; rfl) | rfl)) rfl rfl rfl H4 ?_
  clear H4; intro a5 H5
  refine plain (y_loadB rfl z_agg3 rfl (by repeat (first | exact Mh | apply Mt)) q_ix_c8b32b32_7) rfl rfl rfl H5 ?_
  clear H5; intro a6 H6
  refine plain (y_fieldB rfl z_field36_8 rfl (by first | (simp only [Nat.zero_add, Nat.add_zero, Nat.reduceAdd]; rfl) | rfl)) rfl rfl rfl H6 ?_
  clear H6; intro a7 H7
  refine plain (y_loadAB rfl z_agg34 z_size34 rfl (by repeat (first | exact Mh | apply Mt)) (q_ld_c8b32b32_8_32 (by assumption)) (q_len_b32 (by assumption))) rfl rfl rfl H7 ?_
  clear H7; intro a8 H8
  refine plain (y_build rfl z_zeroN73 z_places73 rfl (lay_1 (off := 0) (n := 34) rfl (q_len_c2b32 (by assumption)) (by decide) q_spl_c2b32_0_c1 (lay_1 (off := 1) (n := 34) rfl (q_len_c2b32 (by assumption)) (by decide) q_spl_c2b32_1_c1 (lay_f (off := 2) (z := 32) (n := 34) rfl (agg_cells _) (q_len_b32 (by assumption)) (q_len_c2b32 (by assumption)) (by decide) (q_spl_c2b32_2_b32 (by assumption) (by assumption)) lay_n) (by rfl)) (by rfl))) rfl rfl rfl H8 ?_
  clear H8; intro a9 H9
  refine st_alloc rfl z_zeroN73 rfl rfl rfl H9 ?_
  clear H9; intro b10 a10 wx10 H10
  refine st_storeN rfl z_size73 rfl rfl (agg_cells _) (by repeat (first | exact Uh | apply Ut)) (q_one_c2b32 rfl rfl) (q_len_c2b32 (by assumption)) (q_len_c2b32 (by assumption)) (q_spl_c2b32_0_c2b32 (by assumption) (by assumption)) (by decide) rfl rfl H10 ?_
  clear H10; intro wx11 H11
  refine fin ?_
  refine then_n ?_
  refine wp_seq ?_
  refine wp_block ?_
  refine wp_seq ?_
  refine reg ?_
  refine plain (y_fieldB rfl z_field36_0 rfl (by first | (simp only [Nat.zero_add, Nat.add_zero, Nat.reduceAdd]; rfl) | rfl)) rfl rfl rfl H11 ?_
  clear H11; intro a12 H12
  refine plain (y_loadB rfl z_agg3 rfl (by repeat (first | exact Mh | apply Mt)) q_ix_c8b32b32_0) rfl rfl rfl H12 ?_
  clear H12; intro a13 H13
  refine plain (y_lss rfl rfl rfl) rfl rfl rfl H13 ?_
  clear H13; intro a14 H14
  refine plain (y_move rfl rfl) rfl rfl rfl H14 ?_
  clear H14; intro a15 H15
  refine Sx.part (d := 15) H15 rfl (fun hg16 => ?_) (fun hg16 => ?_)
  · first
    | fail
    | skip
      clear H15; intro H17
      try simp only [decide_eq_true_eq, decide_eq_false_iff_not, Bool.not_eq_true', Bool.not_eq_false', Bool.and_eq_true, Bool.not_eq_true, Bool.not_eq_false] at hg16
      refine skip rfl rfl rfl H17 ?_
      clear H17; intro a18 H18
      refine skip rfl rfl rfl H18 ?_
      clear H18; intro a19 H19
      refine skip rfl rfl rfl H19 ?_
      clear H19; intro a20 H20
      refine plain (y_pick_t rfl rfl rfl) rfl rfl rfl H20 ?_
      clear H20; intro a21 H21
      refine plain (y_move rfl rfl) rfl rfl rfl H21 ?_
      clear H21; intro a22 H22
      refine skip rfl rfl rfl H22 ?_
      clear H22; intro a23 H23
      refine skip rfl rfl rfl H23 ?_
      clear H23; intro a24 H24
      refine skip rfl rfl rfl H24 ?_
      clear H24; intro a25 H25
      refine plain (y_pick_t rfl rfl rfl) rfl rfl rfl H25 ?_
      clear H25; intro a26 H26
      refine plain (y_move rfl rfl) rfl rfl rfl H26 ?_
      clear H26; intro a27 H27
      refine skip rfl rfl rfl H27 ?_
      clear H27; intro a28 H28
      refine skip rfl rfl rfl H28 ?_
      clear H28; intro a29 H29
      refine skip rfl rfl rfl H29 ?_
      clear H29; intro a30 H30
      refine plain (y_pick_t rfl rfl rfl) rfl rfl rfl H30 ?_
      clear H30; intro a31 H31
      refine plain (y_assign rfl rfl) rfl rfl rfl H31 ?_
      clear H31; intro a32 H32
      refine fin ?_
      refine then_n ?_
      refine cnd_t H32 rfl ?_
      refine wp_seq ?_
      refine reg ?_
      refine plain (y_assign rfl rfl) rfl rfl rfl H32 ?_
      clear H32; intro a34 H34
      refine fin ?_
      refine then_n ?_
      refine wp_ret ?_
      refine inb_r ?_
      refine then_r ?_
      -- return 1
      refine ret1 rfl H34 rfl ?_
      refine ⟨_, [], rfl, ⟨?_, rfl⟩, H34.sep.sub (List.nil_sublist _)⟩
      clear H34
      try simp only [Decidable.not_not, show List.replicate 32 (0 : UInt8) = Note.Z from rfl] at *
      first | (exact congrArg (Value.int .i64) (Txs.check_who (by first | (unfold Txs.okWho Txs.within; omega) | exact ⟨by assumption, by assumption⟩ | (unfold Txs.okWho; simp_all; done))).symm) | (exact congrArg (Value.int .i64) (Txs.check_arg (by first | (unfold Txs.okWho Txs.within; omega) | exact ⟨by assumption, by assumption⟩ | (unfold Txs.okWho; simp_all; done)) (by intro hh; obtain ⟨⟨a1, a2⟩, a3, a4⟩ := hh; first | exact absurd a1 (by assumption) | exact absurd a2 (by assumption) | exact absurd (a3 (by assumption)).1 (by assumption) | exact absurd (a3 (by assumption)).2 (by assumption) | (obtain ⟨b1, b2, b3⟩ := a4 (by assumption); simp_all))).symm) | (exact congrArg (Value.int .i64) (Txs.check_big (by first | (unfold Txs.okWho Txs.within; omega) | exact ⟨by assumption, by assumption⟩ | (unfold Txs.okWho; simp_all; done)) (by refine ⟨⟨by assumption, by assumption⟩, fun hl => ?_, fun hl => ?_⟩ <;> simp_all) (by omega)).symm) | (exact congrArg (Value.int .i64) (Txs.check_ok (by first | (unfold Txs.okWho Txs.within; omega) | exact ⟨by assumption, by assumption⟩ | (unfold Txs.okWho; simp_all; done)) (by refine ⟨⟨by assumption, by assumption⟩, fun hl => ?_, fun hl => ?_⟩ <;> simp_all) (by omega)).symm)
  · first
    | fail
    | skip
      clear H15; intro H35
      try simp only [decide_eq_true_eq, decide_eq_false_iff_not, Bool.not_eq_true', Bool.not_eq_false', Bool.and_eq_true, Bool.not_eq_true, Bool.not_eq_false] at hg16
      refine plain (y_fieldB rfl z_field36_0 rfl (by first | (simp only [Nat.zero_add, Nat.add_zero, Nat.reduceAdd]; rfl) | rfl)) rfl rfl rfl H35 ?_
      clear H35; intro a36 H36
      refine plain (y_loadB rfl z_agg3 rfl (by repeat (first | exact Mh | apply Mt)) q_ix_c8b32b32_0) rfl rfl rfl H36 ?_
      clear H36; intro a37 H37
      refine plain (y_geq rfl rfl rfl) rfl rfl rfl H37 ?_
      clear H37; intro a38 H38
      refine plain (y_pick_f rfl rfl rfl) rfl rfl rfl H38 ?_
      clear H38; intro a39 H39
      refine plain (y_move rfl rfl) rfl rfl rfl H39 ?_
      clear H39; intro a40 H40
      refine Sx.part (d := 20) H40 rfl (fun hg41 => ?_) (fun hg41 => ?_)
      · first
        | fail
        | skip
          clear H40; intro H42
          try simp only [decide_eq_true_eq, decide_eq_false_iff_not, Bool.not_eq_true', Bool.not_eq_false', Bool.and_eq_true, Bool.not_eq_true, Bool.not_eq_false] at hg41
          refine skip rfl rfl rfl H42 ?_
          clear H42; intro a43 H43
          refine skip rfl rfl rfl H43 ?_
          clear H43; intro a44 H44
          refine skip rfl rfl rfl H44 ?_
          clear H44; intro a45 H45
          refine plain (y_pick_t rfl rfl rfl) rfl rfl rfl H45 ?_
          clear H45; intro a46 H46
          refine plain (y_move rfl rfl) rfl rfl rfl H46 ?_
          clear H46; intro a47 H47
          refine skip rfl rfl rfl H47 ?_
          clear H47; intro a48 H48
          refine skip rfl rfl rfl H48 ?_
          clear H48; intro a49 H49
          refine skip rfl rfl rfl H49 ?_
          clear H49; intro a50 H50
          refine plain (y_pick_t rfl rfl rfl) rfl rfl rfl H50 ?_
          clear H50; intro a51 H51
          refine plain (y_assign rfl rfl) rfl rfl rfl H51 ?_
          clear H51; intro a52 H52
          refine fin ?_
          refine then_n ?_
          refine cnd_t H52 rfl ?_
          refine wp_seq ?_
          refine reg ?_
          refine plain (y_assign rfl rfl) rfl rfl rfl H52 ?_
          clear H52; intro a54 H54
          refine fin ?_
          refine then_n ?_
          refine wp_ret ?_
          refine inb_r ?_
          refine then_r ?_
          -- return 2
          refine ret1 rfl H54 rfl ?_
          refine ⟨_, [], rfl, ⟨?_, rfl⟩, H54.sep.sub (List.nil_sublist _)⟩
          clear H54
          try simp only [Decidable.not_not, show List.replicate 32 (0 : UInt8) = Note.Z from rfl] at *
          first | (exact congrArg (Value.int .i64) (Txs.check_who (by first | (unfold Txs.okWho Txs.within; omega) | exact ⟨by assumption, by assumption⟩ | (unfold Txs.okWho; simp_all; done))).symm) | (exact congrArg (Value.int .i64) (Txs.check_arg (by first | (unfold Txs.okWho Txs.within; omega) | exact ⟨by assumption, by assumption⟩ | (unfold Txs.okWho; simp_all; done)) (by intro hh; obtain ⟨⟨a1, a2⟩, a3, a4⟩ := hh; first | exact absurd a1 (by assumption) | exact absurd a2 (by assumption) | exact absurd (a3 (by assumption)).1 (by assumption) | exact absurd (a3 (by assumption)).2 (by assumption) | (obtain ⟨b1, b2, b3⟩ := a4 (by assumption); simp_all))).symm) | (exact congrArg (Value.int .i64) (Txs.check_big (by first | (unfold Txs.okWho Txs.within; omega) | exact ⟨by assumption, by assumption⟩ | (unfold Txs.okWho; simp_all; done)) (by refine ⟨⟨by assumption, by assumption⟩, fun hl => ?_, fun hl => ?_⟩ <;> simp_all) (by omega)).symm) | (exact congrArg (Value.int .i64) (Txs.check_ok (by first | (unfold Txs.okWho Txs.within; omega) | exact ⟨by assumption, by assumption⟩ | (unfold Txs.okWho; simp_all; done)) (by refine ⟨⟨by assumption, by assumption⟩, fun hl => ?_, fun hl => ?_⟩ <;> simp_all) (by omega)).symm)
      · first
        | fail
        | skip
          clear H40; intro H55
          try simp only [decide_eq_true_eq, decide_eq_false_iff_not, Bool.not_eq_true', Bool.not_eq_false', Bool.and_eq_true, Bool.not_eq_true, Bool.not_eq_false] at hg41
          refine plain (y_fieldB rfl z_field36_3 rfl (by first | (simp only [Nat.zero_add, Nat.add_zero, Nat.reduceAdd]; rfl) | rfl)) rfl rfl rfl H55 ?_
          clear H55; intro a56 H56
          refine plain (y_loadB rfl z_agg3 rfl (by repeat (first | exact Mh | apply Mt)) q_ix_c8b32b32_3) rfl rfl rfl H56 ?_
          clear H56; intro a57 H57
          refine plain (y_lss rfl rfl rfl) rfl rfl rfl H57 ?_
          clear H57; intro a58 H58
          refine plain (y_pick_f rfl rfl rfl) rfl rfl rfl H58 ?_
          clear H58; intro a59 H59
          refine plain (y_move rfl rfl) rfl rfl rfl H59 ?_
          clear H59; intro a60 H60
          refine Sx.part (d := 25) H60 rfl (fun hg61 => ?_) (fun hg61 => ?_)
          · first
            | fail
            | skip
              clear H60; intro H62
              try simp only [decide_eq_true_eq, decide_eq_false_iff_not, Bool.not_eq_true', Bool.not_eq_false', Bool.and_eq_true, Bool.not_eq_true, Bool.not_eq_false] at hg61
              refine skip rfl rfl rfl H62 ?_
              clear H62; intro a63 H63
              refine skip rfl rfl rfl H63 ?_
              clear H63; intro a64 H64
              refine skip rfl rfl rfl H64 ?_
              clear H64; intro a65 H65
              refine plain (y_pick_t rfl rfl rfl) rfl rfl rfl H65 ?_
              clear H65; intro a66 H66
              refine plain (y_assign rfl rfl) rfl rfl rfl H66 ?_
              clear H66; intro a67 H67
              refine fin ?_
              refine then_n ?_
              refine cnd_t H67 rfl ?_
              refine wp_seq ?_
              refine reg ?_
              refine plain (y_assign rfl rfl) rfl rfl rfl H67 ?_
              clear H67; intro a69 H69
              refine fin ?_
              refine then_n ?_
              refine wp_ret ?_
              refine inb_r ?_
              refine then_r ?_
              -- return 3
              refine ret1 rfl H69 rfl ?_
              refine ⟨_, [], rfl, ⟨?_, rfl⟩, H69.sep.sub (List.nil_sublist _)⟩
              clear H69
              try simp only [Decidable.not_not, show List.replicate 32 (0 : UInt8) = Note.Z from rfl] at *
              first | (exact congrArg (Value.int .i64) (Txs.check_who (by first | (unfold Txs.okWho Txs.within; omega) | exact ⟨by assumption, by assumption⟩ | (unfold Txs.okWho; simp_all; done))).symm) | (exact congrArg (Value.int .i64) (Txs.check_arg (by first | (unfold Txs.okWho Txs.within; omega) | exact ⟨by assumption, by assumption⟩ | (unfold Txs.okWho; simp_all; done)) (by intro hh; obtain ⟨⟨a1, a2⟩, a3, a4⟩ := hh; first | exact absurd a1 (by assumption) | exact absurd a2 (by assumption) | exact absurd (a3 (by assumption)).1 (by assumption) | exact absurd (a3 (by assumption)).2 (by assumption) | (obtain ⟨b1, b2, b3⟩ := a4 (by assumption); simp_all))).symm) | (exact congrArg (Value.int .i64) (Txs.check_big (by first | (unfold Txs.okWho Txs.within; omega) | exact ⟨by assumption, by assumption⟩ | (unfold Txs.okWho; simp_all; done)) (by refine ⟨⟨by assumption, by assumption⟩, fun hl => ?_, fun hl => ?_⟩ <;> simp_all) (by omega)).symm) | (exact congrArg (Value.int .i64) (Txs.check_ok (by first | (unfold Txs.okWho Txs.within; omega) | exact ⟨by assumption, by assumption⟩ | (unfold Txs.okWho; simp_all; done)) (by refine ⟨⟨by assumption, by assumption⟩, fun hl => ?_, fun hl => ?_⟩ <;> simp_all) (by omega)).symm)
          · first
            | fail
            | skip
              clear H60; intro H70
              try simp only [decide_eq_true_eq, decide_eq_false_iff_not, Bool.not_eq_true', Bool.not_eq_false', Bool.and_eq_true, Bool.not_eq_true, Bool.not_eq_false] at hg61
              refine plain (y_fieldB rfl z_field36_3 rfl (by first | (simp only [Nat.zero_add, Nat.add_zero, Nat.reduceAdd]; rfl) | rfl)) rfl rfl rfl H70 ?_
              clear H70; intro a71 H71
              refine plain (y_loadB rfl z_agg3 rfl (by repeat (first | exact Mh | apply Mt)) q_ix_c8b32b32_3) rfl rfl rfl H71 ?_
              clear H71; intro a72 H72
              refine plain (y_geq rfl rfl rfl) rfl rfl rfl H72 ?_
              clear H72; intro a73 H73
              refine plain (y_pick_f rfl rfl rfl) rfl rfl rfl H73 ?_
              clear H73; intro a74 H74
              refine plain (y_assign rfl rfl) rfl rfl rfl H74 ?_
              clear H74; intro a75 H75
              refine fin ?_
              refine then_n ?_
              refine cnd H75 rfl (fun hc76 => ?_) (fun hc76 => ?_) -- cond 4
              · skip
                try simp only [decide_eq_true_eq, decide_eq_false_iff_not, Bool.not_eq_true', Bool.not_eq_false', Bool.and_eq_true, Bool.not_eq_true, Bool.not_eq_false] at hc76
                refine wp_seq ?_
                refine reg ?_
                refine plain (y_assign rfl rfl) rfl rfl rfl H75 ?_
                clear H75; intro a77 H77
                refine fin ?_
                refine then_n ?_
                refine wp_ret ?_
                refine inb_r ?_
                refine then_r ?_
                -- return 4
                refine ret1 rfl H77 rfl ?_
                refine ⟨_, [], rfl, ⟨?_, rfl⟩, H77.sep.sub (List.nil_sublist _)⟩
                clear H77
                try simp only [Decidable.not_not, show List.replicate 32 (0 : UInt8) = Note.Z from rfl] at *
                first | (exact congrArg (Value.int .i64) (Txs.check_who (by first | (unfold Txs.okWho Txs.within; omega) | exact ⟨by assumption, by assumption⟩ | (unfold Txs.okWho; simp_all; done))).symm) | (exact congrArg (Value.int .i64) (Txs.check_arg (by first | (unfold Txs.okWho Txs.within; omega) | exact ⟨by assumption, by assumption⟩ | (unfold Txs.okWho; simp_all; done)) (by intro hh; obtain ⟨⟨a1, a2⟩, a3, a4⟩ := hh; first | exact absurd a1 (by assumption) | exact absurd a2 (by assumption) | exact absurd (a3 (by assumption)).1 (by assumption) | exact absurd (a3 (by assumption)).2 (by assumption) | (obtain ⟨b1, b2, b3⟩ := a4 (by assumption); simp_all))).symm) | (exact congrArg (Value.int .i64) (Txs.check_big (by first | (unfold Txs.okWho Txs.within; omega) | exact ⟨by assumption, by assumption⟩ | (unfold Txs.okWho; simp_all; done)) (by refine ⟨⟨by assumption, by assumption⟩, fun hl => ?_, fun hl => ?_⟩ <;> simp_all) (by omega)).symm) | (exact congrArg (Value.int .i64) (Txs.check_ok (by first | (unfold Txs.okWho Txs.within; omega) | exact ⟨by assumption, by assumption⟩ | (unfold Txs.okWho; simp_all; done)) (by refine ⟨⟨by assumption, by assumption⟩, fun hl => ?_, fun hl => ?_⟩ <;> simp_all) (by omega)).symm)
              · skip
                try simp only [decide_eq_true_eq, decide_eq_false_iff_not, Bool.not_eq_true', Bool.not_eq_false', Bool.and_eq_true, Bool.not_eq_true, Bool.not_eq_false] at hc76
                refine wp_seq ?_
                refine wp_seq ?_
                refine reg ?_
                refine plain (y_fieldB rfl z_field36_1 rfl (by first | (simp only [Nat.zero_add, Nat.add_zero, Nat.reduceAdd]; rfl) | rfl)) rfl rfl rfl H75 ?_
                clear H75; intro a78 H78
                refine plain (y_loadB rfl z_agg3 rfl (by repeat (first | exact Mh | apply Mt)) q_ix_c8b32b32_1) rfl rfl rfl H78 ?_
                clear H78; intro a79 H79
                refine st_callg rfl z_call35 rfl rfl rfl rfl H79 (tnumber _ _) ?_
                clear H79; intro a80 wx80 H80
                refine plain ((by first | exact y_not_d rfl rfl | exact y_not rfl rfl)) rfl rfl rfl H80 ?_
                clear H80; intro a81 H81
                refine plain (y_move rfl rfl) rfl rfl rfl H81 ?_
                clear H81; intro a82 H82
                refine Sx.part (d := 35) H82 rfl (fun hg83 => ?_) (fun hg83 => ?_)
                · first
                  | fail
                  | skip
                    clear H82; intro H84
                    try simp only [decide_eq_true_eq, decide_eq_false_iff_not, Bool.not_eq_true', Bool.not_eq_false', Bool.and_eq_true, Bool.not_eq_true, Bool.not_eq_false] at hg83
                    refine skip rfl rfl rfl H84 ?_
                    clear H84; intro a85 H85
                    refine skip rfl rfl rfl H85 ?_
                    clear H85; intro a86 H86
                    refine skip rfl rfl rfl H86 ?_
                    clear H86; intro a87 H87
                    refine skip rfl rfl rfl H87 ?_
                    clear H87; intro a88 H88
                    refine plain (y_pick_t rfl rfl rfl) rfl rfl rfl H88 ?_
                    clear H88; intro a89 H89
                    refine plain (y_assign rfl rfl) rfl rfl rfl H89 ?_
                    clear H89; intro a90 H90
                    refine fin ?_
                    refine then_n ?_
                    refine cnd_t H90 rfl ?_
                    refine wp_skip ?_
                    refine then_n ?_
                    refine cnd_t H90 rfl ?_
                    refine wp_seq ?_
                    refine reg ?_
                    refine plain (y_assign rfl rfl) rfl rfl rfl H90 ?_
                    clear H90; intro a93 H93
                    refine fin ?_
                    refine then_n ?_
                    refine wp_ret ?_
                    refine inb_r ?_
                    refine then_r ?_
                    -- return 5
                    refine ret1 rfl H93 rfl ?_
                    refine ⟨_, [], rfl, ⟨?_, rfl⟩, H93.sep.sub (List.nil_sublist _)⟩
                    clear H93
                    try simp only [Decidable.not_not, show List.replicate 32 (0 : UInt8) = Note.Z from rfl] at *
                    first | (exact congrArg (Value.int .i64) (Txs.check_who (by first | (unfold Txs.okWho Txs.within; omega) | exact ⟨by assumption, by assumption⟩ | (unfold Txs.okWho; simp_all; done))).symm) | (exact congrArg (Value.int .i64) (Txs.check_arg (by first | (unfold Txs.okWho Txs.within; omega) | exact ⟨by assumption, by assumption⟩ | (unfold Txs.okWho; simp_all; done)) (by intro hh; obtain ⟨⟨a1, a2⟩, a3, a4⟩ := hh; first | exact absurd a1 (by assumption) | exact absurd a2 (by assumption) | exact absurd (a3 (by assumption)).1 (by assumption) | exact absurd (a3 (by assumption)).2 (by assumption) | (obtain ⟨b1, b2, b3⟩ := a4 (by assumption); simp_all))).symm) | (exact congrArg (Value.int .i64) (Txs.check_big (by first | (unfold Txs.okWho Txs.within; omega) | exact ⟨by assumption, by assumption⟩ | (unfold Txs.okWho; simp_all; done)) (by refine ⟨⟨by assumption, by assumption⟩, fun hl => ?_, fun hl => ?_⟩ <;> simp_all) (by omega)).symm) | (exact congrArg (Value.int .i64) (Txs.check_ok (by first | (unfold Txs.okWho Txs.within; omega) | exact ⟨by assumption, by assumption⟩ | (unfold Txs.okWho; simp_all; done)) (by refine ⟨⟨by assumption, by assumption⟩, fun hl => ?_, fun hl => ?_⟩ <;> simp_all) (by omega)).symm)
                · first
                  | fail
                  | skip
                    clear H82; intro H94
                    try simp only [decide_eq_true_eq, decide_eq_false_iff_not, Bool.not_eq_true', Bool.not_eq_false', Bool.and_eq_true, Bool.not_eq_true, Bool.not_eq_false] at hg83
                    refine plain (y_fieldB rfl z_field36_2 rfl (by first | (simp only [Nat.zero_add, Nat.add_zero, Nat.reduceAdd]; rfl) | rfl)) rfl rfl rfl H94 ?_
                    clear H94; intro a95 H95
                    refine plain (y_loadB rfl z_agg3 rfl (by repeat (first | exact Mh | apply Mt)) q_ix_c8b32b32_2) rfl rfl rfl H95 ?_
                    clear H95; intro a96 H96
                    refine st_callg rfl z_call35 rfl rfl rfl rfl H96 (tnumber _ _) ?_
                    clear H96; intro a97 wx97 H97
                    refine plain ((by first | exact y_not_d rfl rfl | exact y_not rfl rfl)) rfl rfl rfl H97 ?_
                    clear H97; intro a98 H98
                    refine plain (y_pick_f rfl rfl rfl) rfl rfl rfl H98 ?_
                    clear H98; intro a99 H99
                    refine plain (y_assign rfl rfl) rfl rfl rfl H99 ?_
                    clear H99; intro a100 H100
                    refine fin ?_
                    refine then_n ?_
                    refine cnd H100 rfl (fun hc101 => ?_) (fun hc101 => ?_) -- cond 7
                    · first
                      | (exfalso; simp_all; done)
                      | skip
                        try simp only [decide_eq_true_eq, decide_eq_false_iff_not, Bool.not_eq_true', Bool.not_eq_false', Bool.and_eq_true, Bool.not_eq_true, Bool.not_eq_false] at hc101
                        refine wp_skip ?_
                        refine then_n ?_
                        refine cnd H100 rfl (fun hc102 => ?_) (fun hc102 => ?_) -- cond 8
                        · first
                          | (exfalso; simp_all; done)
                          | skip
                            try simp only [decide_eq_true_eq, decide_eq_false_iff_not, Bool.not_eq_true', Bool.not_eq_false', Bool.and_eq_true, Bool.not_eq_true, Bool.not_eq_false] at hc102
                            refine wp_seq ?_
                            refine reg ?_
                            refine plain (y_assign rfl rfl) rfl rfl rfl H100 ?_
                            clear H100; intro a103 H103
                            refine fin ?_
                            refine then_n ?_
                            refine wp_ret ?_
                            refine inb_r ?_
                            refine then_r ?_
                            -- return 6
                            refine ret1 rfl H103 rfl ?_
                            refine ⟨_, [], rfl, ⟨?_, rfl⟩, H103.sep.sub (List.nil_sublist _)⟩
                            clear H103
                            try simp only [Decidable.not_not, show List.replicate 32 (0 : UInt8) = Note.Z from rfl] at *
                            first | (exact congrArg (Value.int .i64) (Txs.check_who (by first | (unfold Txs.okWho Txs.within; omega) | exact ⟨by assumption, by assumption⟩ | (unfold Txs.okWho; simp_all; done))).symm) | (exact congrArg (Value.int .i64) (Txs.check_arg (by first | (unfold Txs.okWho Txs.within; omega) | exact ⟨by assumption, by assumption⟩ | (unfold Txs.okWho; simp_all; done)) (by intro hh; obtain ⟨⟨a1, a2⟩, a3, a4⟩ := hh; first | exact absurd a1 (by assumption) | exact absurd a2 (by assumption) | exact absurd (a3 (by assumption)).1 (by assumption) | exact absurd (a3 (by assumption)).2 (by assumption) | (obtain ⟨b1, b2, b3⟩ := a4 (by assumption); simp_all))).symm) | (exact congrArg (Value.int .i64) (Txs.check_big (by first | (unfold Txs.okWho Txs.within; omega) | exact ⟨by assumption, by assumption⟩ | (unfold Txs.okWho; simp_all; done)) (by refine ⟨⟨by assumption, by assumption⟩, fun hl => ?_, fun hl => ?_⟩ <;> simp_all) (by omega)).symm) | (exact congrArg (Value.int .i64) (Txs.check_ok (by first | (unfold Txs.okWho Txs.within; omega) | exact ⟨by assumption, by assumption⟩ | (unfold Txs.okWho; simp_all; done)) (by refine ⟨⟨by assumption, by assumption⟩, fun hl => ?_, fun hl => ?_⟩ <;> simp_all) (by omega)).symm)
                        · first
                          | (exfalso; simp_all; done)
                          | skip
                            try simp only [decide_eq_true_eq, decide_eq_false_iff_not, Bool.not_eq_true', Bool.not_eq_false', Bool.and_eq_true, Bool.not_eq_true, Bool.not_eq_false] at hc102
                            refine wp_seq ?_
                            refine reg ?_
                            refine plain (y_fieldB rfl z_field36_4 rfl (by first | (simp only [Nat.zero_add, Nat.add_zero, Nat.reduceAdd]; rfl) | rfl)) rfl rfl rfl H100 ?_
                            clear H100; intro a104 H104
                            refine plain (y_loadB rfl z_agg9 rfl (by repeat (first | exact Mh | apply Mt)) q_ix_c8b32b32_4) rfl rfl rfl H104 ?_
                            clear H104; intro a105 H105
                            refine plain (y_slen rfl Try.underlying9 rfl) rfl rfl rfl H105 ?_
                            clear H105; intro a106 H106
                            refine plain (y_gtr rfl rfl rfl) rfl rfl rfl H106 ?_
                            clear H106; intro a107 H107
                            refine plain (y_assign rfl rfl) rfl rfl rfl H107 ?_
                            clear H107; intro a108 H108
                            refine fin ?_
                            refine then_n ?_
                            refine cnd H108 rfl (fun hc109 => ?_) (fun hc109 => ?_) -- cond 9
                            · skip
                              try simp only [decide_eq_true_eq, decide_eq_false_iff_not, Bool.not_eq_true', Bool.not_eq_false', Bool.and_eq_true, Bool.not_eq_true, Bool.not_eq_false] at hc109
                              refine wp_seq ?_
                              refine reg ?_
                              refine plain (y_assign rfl rfl) rfl rfl rfl H108 ?_
                              clear H108; intro a110 H110
                              refine fin ?_
                              refine then_n ?_
                              refine wp_ret ?_
                              refine inb_r ?_
                              refine then_r ?_
                              -- return 7
                              refine ret1 rfl H110 rfl ?_
                              refine ⟨_, [], rfl, ⟨?_, rfl⟩, H110.sep.sub (List.nil_sublist _)⟩
                              clear H110
                              try simp only [Decidable.not_not, show List.replicate 32 (0 : UInt8) = Note.Z from rfl] at *
                              first | (exact congrArg (Value.int .i64) (Txs.check_who (by first | (unfold Txs.okWho Txs.within; omega) | exact ⟨by assumption, by assumption⟩ | (unfold Txs.okWho; simp_all; done))).symm) | (exact congrArg (Value.int .i64) (Txs.check_arg (by first | (unfold Txs.okWho Txs.within; omega) | exact ⟨by assumption, by assumption⟩ | (unfold Txs.okWho; simp_all; done)) (by intro hh; obtain ⟨⟨a1, a2⟩, a3, a4⟩ := hh; first | exact absurd a1 (by assumption) | exact absurd a2 (by assumption) | exact absurd (a3 (by assumption)).1 (by assumption) | exact absurd (a3 (by assumption)).2 (by assumption) | (obtain ⟨b1, b2, b3⟩ := a4 (by assumption); simp_all))).symm) | (exact congrArg (Value.int .i64) (Txs.check_big (by first | (unfold Txs.okWho Txs.within; omega) | exact ⟨by assumption, by assumption⟩ | (unfold Txs.okWho; simp_all; done)) (by refine ⟨⟨by assumption, by assumption⟩, fun hl => ?_, fun hl => ?_⟩ <;> simp_all) (by omega)).symm) | (exact congrArg (Value.int .i64) (Txs.check_ok (by first | (unfold Txs.okWho Txs.within; omega) | exact ⟨by assumption, by assumption⟩ | (unfold Txs.okWho; simp_all; done)) (by refine ⟨⟨by assumption, by assumption⟩, fun hl => ?_, fun hl => ?_⟩ <;> simp_all) (by omega)).symm)
                            · skip
                              try simp only [decide_eq_true_eq, decide_eq_false_iff_not, Bool.not_eq_true', Bool.not_eq_false', Bool.and_eq_true, Bool.not_eq_true, Bool.not_eq_false] at hc109
                              refine wp_skip ?_
                              refine inb_n ?_
                              refine then_n ?_
                              refine wp_seq ?_
                              refine reg ?_
                              refine plain (y_assign rfl rfl) rfl rfl rfl H108 ?_
                              clear H108; intro a111 H111
                              refine fin ?_
                              refine then_n ?_
                              refine wp_ret ?_
                              -- return 8
                              refine ret1 rfl H111 rfl ?_
                              refine ⟨_, [], rfl, ⟨?_, rfl⟩, H111.sep.sub (List.nil_sublist _)⟩
                              clear H111
                              try simp only [Decidable.not_not, show List.replicate 32 (0 : UInt8) = Note.Z from rfl] at *
                              first | (exact congrArg (Value.int .i64) (Txs.check_who (by first | (unfold Txs.okWho Txs.within; omega) | exact ⟨by assumption, by assumption⟩ | (unfold Txs.okWho; simp_all; done))).symm) | (exact congrArg (Value.int .i64) (Txs.check_arg (by first | (unfold Txs.okWho Txs.within; omega) | exact ⟨by assumption, by assumption⟩ | (unfold Txs.okWho; simp_all; done)) (by intro hh; obtain ⟨⟨a1, a2⟩, a3, a4⟩ := hh; first | exact absurd a1 (by assumption) | exact absurd a2 (by assumption) | exact absurd (a3 (by assumption)).1 (by assumption) | exact absurd (a3 (by assumption)).2 (by assumption) | (obtain ⟨b1, b2, b3⟩ := a4 (by assumption); simp_all))).symm) | (exact congrArg (Value.int .i64) (Txs.check_big (by first | (unfold Txs.okWho Txs.within; omega) | exact ⟨by assumption, by assumption⟩ | (unfold Txs.okWho; simp_all; done)) (by refine ⟨⟨by assumption, by assumption⟩, fun hl => ?_, fun hl => ?_⟩ <;> simp_all) (by omega)).symm) | (exact congrArg (Value.int .i64) (Txs.check_ok (by first | (unfold Txs.okWho Txs.within; omega) | exact ⟨by assumption, by assumption⟩ | (unfold Txs.okWho; simp_all; done)) (by refine ⟨⟨by assumption, by assumption⟩, fun hl => ?_, fun hl => ?_⟩ <;> simp_all) (by omega)).symm)
                    · first
                      | (exfalso; simp_all; done)
                      | skip
                        try simp only [decide_eq_true_eq, decide_eq_false_iff_not, Bool.not_eq_true', Bool.not_eq_false', Bool.and_eq_true, Bool.not_eq_true, Bool.not_eq_false] at hc101
                        refine wp_seq ?_
                        refine reg ?_
                        refine plain (y_fieldB rfl z_field36_5 rfl (by first | (simp only [Nat.zero_add, Nat.add_zero, Nat.reduceAdd]; rfl) | rfl)) rfl rfl rfl H100 ?_
                        clear H100; intro a112 H112
                        refine plain (y_loadB rfl z_agg4 rfl (by repeat (first | exact Mh | apply Mt)) q_ix_c8b32b32_5) rfl rfl rfl H112 ?_
                        clear H112; intro a113 H113
                        refine plain (y_move rfl rfl) rfl rfl rfl H113 ?_
                        clear H113; intro a114 H114
                        refine Sx.part (d := 43) H114 rfl (fun hg115 => ?_) (fun hg115 => ?_)
                        · first
                          | fail
                          | skip
                            clear H114; intro H116
                            try simp only [decide_eq_true_eq, decide_eq_false_iff_not, Bool.not_eq_true', Bool.not_eq_false', Bool.and_eq_true, Bool.not_eq_true, Bool.not_eq_false] at hg115
                            refine plain (y_fieldB rfl z_field36_6 rfl (by first | (simp only [Nat.zero_add, Nat.add_zero, Nat.reduceAdd]; rfl) | rfl)) rfl rfl rfl H116 ?_
                            clear H116; intro a117 H117
                            refine plain (y_loadB rfl z_agg3 rfl (by repeat (first | exact Mh | apply Mt)) q_ix_c8b32b32_6) rfl rfl rfl H117 ?_
                            clear H117; intro a118 H118
                            refine st_callg rfl z_call35 rfl rfl rfl rfl H118 (tnumber _ _) ?_
                            clear H118; intro a119 wx119 H119
                            refine plain ((by first | exact y_not_d rfl rfl | exact y_not rfl rfl)) rfl rfl rfl H119 ?_
                            clear H119; intro a120 H120
                            refine plain (y_move rfl rfl) rfl rfl rfl H120 ?_
                            clear H120; intro a121 H121
                            refine Sx.part (d := 48) H121 rfl (fun hg122 => ?_) (fun hg122 => ?_)
                            · first
                              | fail
                              | skip
                                clear H121; intro H123
                                try simp only [decide_eq_true_eq, decide_eq_false_iff_not, Bool.not_eq_true', Bool.not_eq_false', Bool.and_eq_true, Bool.not_eq_true, Bool.not_eq_false] at hg122
                                refine skip rfl rfl rfl H123 ?_
                                clear H123; intro a124 H124
                                refine skip rfl rfl rfl H124 ?_
                                clear H124; intro a125 H125
                                refine skip rfl rfl rfl H125 ?_
                                clear H125; intro a126 H126
                                refine skip rfl rfl rfl H126 ?_
                                clear H126; intro a127 H127
                                refine plain (y_pick_t rfl rfl rfl) rfl rfl rfl H127 ?_
                                clear H127; intro a128 H128
                                refine plain (y_pick_t rfl rfl rfl) rfl rfl rfl H128 ?_
                                clear H128; intro a129 H129
                                refine plain (y_assign rfl rfl) rfl rfl rfl H129 ?_
                                clear H129; intro a130 H130
                                refine fin ?_
                                refine then_n ?_
                                refine cnd_t H130 rfl ?_
                                refine wp_skip ?_
                                refine then_n ?_
                                refine cnd_t H130 rfl ?_
                                refine wp_seq ?_
                                refine reg ?_
                                refine plain (y_assign rfl rfl) rfl rfl rfl H130 ?_
                                clear H130; intro a133 H133
                                refine fin ?_
                                refine then_n ?_
                                refine wp_ret ?_
                                refine inb_r ?_
                                refine then_r ?_
                                -- return 9
                                refine ret1 rfl H133 rfl ?_
                                refine ⟨_, [], rfl, ⟨?_, rfl⟩, H133.sep.sub (List.nil_sublist _)⟩
                                clear H133
                                try simp only [Decidable.not_not, show List.replicate 32 (0 : UInt8) = Note.Z from rfl] at *
                                first | (exact congrArg (Value.int .i64) (Txs.check_who (by first | (unfold Txs.okWho Txs.within; omega) | exact ⟨by assumption, by assumption⟩ | (unfold Txs.okWho; simp_all; done))).symm) | (exact congrArg (Value.int .i64) (Txs.check_arg (by first | (unfold Txs.okWho Txs.within; omega) | exact ⟨by assumption, by assumption⟩ | (unfold Txs.okWho; simp_all; done)) (by intro hh; obtain ⟨⟨a1, a2⟩, a3, a4⟩ := hh; first | exact absurd a1 (by assumption) | exact absurd a2 (by assumption) | exact absurd (a3 (by assumption)).1 (by assumption) | exact absurd (a3 (by assumption)).2 (by assumption) | (obtain ⟨b1, b2, b3⟩ := a4 (by assumption); simp_all))).symm) | (exact congrArg (Value.int .i64) (Txs.check_big (by first | (unfold Txs.okWho Txs.within; omega) | exact ⟨by assumption, by assumption⟩ | (unfold Txs.okWho; simp_all; done)) (by refine ⟨⟨by assumption, by assumption⟩, fun hl => ?_, fun hl => ?_⟩ <;> simp_all) (by omega)).symm) | (exact congrArg (Value.int .i64) (Txs.check_ok (by first | (unfold Txs.okWho Txs.within; omega) | exact ⟨by assumption, by assumption⟩ | (unfold Txs.okWho; simp_all; done)) (by refine ⟨⟨by assumption, by assumption⟩, fun hl => ?_, fun hl => ?_⟩ <;> simp_all) (by omega)).symm)
                            · first
                              | fail
                              | skip
                                clear H121; intro H134
                                try simp only [decide_eq_true_eq, decide_eq_false_iff_not, Bool.not_eq_true', Bool.not_eq_false', Bool.and_eq_true, Bool.not_eq_true, Bool.not_eq_false] at hg122
                                refine plain (y_fieldB rfl z_field36_7 rfl (by first | (simp only [Nat.zero_add, Nat.add_zero, Nat.reduceAdd]; rfl) | rfl)) rfl rfl rfl H134 ?_
                                clear H134; intro a135 H135
                                refine plain (y_loadB rfl z_agg3 rfl (by repeat (first | exact Mh | apply Mt)) q_ix_c8b32b32_7) rfl rfl rfl H135 ?_
                                clear H135; intro a136 H136
                                refine st_callg rfl z_call35 rfl rfl rfl rfl H136 (tnumber _ _) ?_
                                clear H136; intro a137 wx137 H137
                                refine plain ((by first | exact y_not_d rfl rfl | exact y_not rfl rfl)) rfl rfl rfl H137 ?_
                                clear H137; intro a138 H138
                                refine plain (y_pick_f rfl rfl rfl) rfl rfl rfl H138 ?_
                                clear H138; intro a139 H139
                                refine plain (y_pick_t rfl rfl rfl) rfl rfl rfl H139 ?_
                                clear H139; intro a140 H140
                                refine plain (y_assign rfl rfl) rfl rfl rfl H140 ?_
                                clear H140; intro a141 H141
                                refine fin ?_
                                refine then_n ?_
                                refine cnd H141 rfl (fun hc142 => ?_) (fun hc142 => ?_) -- cond 12
                                · first
                                  | (exfalso; simp_all; done)
                                  | skip
                                    try simp only [decide_eq_true_eq, decide_eq_false_iff_not, Bool.not_eq_true', Bool.not_eq_false', Bool.and_eq_true, Bool.not_eq_true, Bool.not_eq_false] at hc142
                                    refine wp_skip ?_
                                    refine then_n ?_
                                    refine cnd H141 rfl (fun hc143 => ?_) (fun hc143 => ?_) -- cond 13
                                    · first
                                      | (exfalso; simp_all; done)
                                      | skip
                                        try simp only [decide_eq_true_eq, decide_eq_false_iff_not, Bool.not_eq_true', Bool.not_eq_false', Bool.and_eq_true, Bool.not_eq_true, Bool.not_eq_false] at hc143
                                        refine wp_seq ?_
                                        refine reg ?_
                                        refine plain (y_assign rfl rfl) rfl rfl rfl H141 ?_
                                        clear H141; intro a144 H144
                                        refine fin ?_
                                        refine then_n ?_
                                        refine wp_ret ?_
                                        refine inb_r ?_
                                        refine then_r ?_
                                        -- return 10
                                        refine ret1 rfl H144 rfl ?_
                                        refine ⟨_, [], rfl, ⟨?_, rfl⟩, H144.sep.sub (List.nil_sublist _)⟩
                                        clear H144
                                        try simp only [Decidable.not_not, show List.replicate 32 (0 : UInt8) = Note.Z from rfl] at *
                                        first | (exact congrArg (Value.int .i64) (Txs.check_who (by first | (unfold Txs.okWho Txs.within; omega) | exact ⟨by assumption, by assumption⟩ | (unfold Txs.okWho; simp_all; done))).symm) | (exact congrArg (Value.int .i64) (Txs.check_arg (by first | (unfold Txs.okWho Txs.within; omega) | exact ⟨by assumption, by assumption⟩ | (unfold Txs.okWho; simp_all; done)) (by intro hh; obtain ⟨⟨a1, a2⟩, a3, a4⟩ := hh; first | exact absurd a1 (by assumption) | exact absurd a2 (by assumption) | exact absurd (a3 (by assumption)).1 (by assumption) | exact absurd (a3 (by assumption)).2 (by assumption) | (obtain ⟨b1, b2, b3⟩ := a4 (by assumption); simp_all))).symm) | (exact congrArg (Value.int .i64) (Txs.check_big (by first | (unfold Txs.okWho Txs.within; omega) | exact ⟨by assumption, by assumption⟩ | (unfold Txs.okWho; simp_all; done)) (by refine ⟨⟨by assumption, by assumption⟩, fun hl => ?_, fun hl => ?_⟩ <;> simp_all) (by omega)).symm) | (exact congrArg (Value.int .i64) (Txs.check_ok (by first | (unfold Txs.okWho Txs.within; omega) | exact ⟨by assumption, by assumption⟩ | (unfold Txs.okWho; simp_all; done)) (by refine ⟨⟨by assumption, by assumption⟩, fun hl => ?_, fun hl => ?_⟩ <;> simp_all) (by omega)).symm)
                                    · first
                                      | (exfalso; simp_all; done)
                                      | skip
                                        try simp only [decide_eq_true_eq, decide_eq_false_iff_not, Bool.not_eq_true', Bool.not_eq_false', Bool.and_eq_true, Bool.not_eq_true, Bool.not_eq_false] at hc143
                                        refine wp_seq ?_
                                        refine reg ?_
                                        refine plain (y_fieldB rfl z_field36_4 rfl (by first | (simp only [Nat.zero_add, Nat.add_zero, Nat.reduceAdd]; rfl) | rfl)) rfl rfl rfl H141 ?_
                                        clear H141; intro a145 H145
                                        refine plain (y_loadB rfl z_agg9 rfl (by repeat (first | exact Mh | apply Mt)) q_ix_c8b32b32_4) rfl rfl rfl H145 ?_
                                        clear H145; intro a146 H146
                                        refine plain (y_slen rfl Try.underlying9 rfl) rfl rfl rfl H146 ?_
                                        clear H146; intro a147 H147
                                        refine plain (y_gtr rfl rfl rfl) rfl rfl rfl H147 ?_
                                        clear H147; intro a148 H148
                                        refine plain (y_assign rfl rfl) rfl rfl rfl H148 ?_
                                        clear H148; intro a149 H149
                                        refine fin ?_
                                        refine then_n ?_
                                        refine cnd H149 rfl (fun hc150 => ?_) (fun hc150 => ?_) -- cond 14
                                        · skip
                                          try simp only [decide_eq_true_eq, decide_eq_false_iff_not, Bool.not_eq_true', Bool.not_eq_false', Bool.and_eq_true, Bool.not_eq_true, Bool.not_eq_false] at hc150
                                          refine wp_seq ?_
                                          refine reg ?_
                                          refine plain (y_assign rfl rfl) rfl rfl rfl H149 ?_
                                          clear H149; intro a151 H151
                                          refine fin ?_
                                          refine then_n ?_
                                          refine wp_ret ?_
                                          refine inb_r ?_
                                          refine then_r ?_
                                          -- return 11
                                          refine ret1 rfl H151 rfl ?_
                                          refine ⟨_, [], rfl, ⟨?_, rfl⟩, H151.sep.sub (List.nil_sublist _)⟩
                                          clear H151
                                          try simp only [Decidable.not_not, show List.replicate 32 (0 : UInt8) = Note.Z from rfl] at *
                                          first | (exact congrArg (Value.int .i64) (Txs.check_who (by first | (unfold Txs.okWho Txs.within; omega) | exact ⟨by assumption, by assumption⟩ | (unfold Txs.okWho; simp_all; done))).symm) | (exact congrArg (Value.int .i64) (Txs.check_arg (by first | (unfold Txs.okWho Txs.within; omega) | exact ⟨by assumption, by assumption⟩ | (unfold Txs.okWho; simp_all; done)) (by intro hh; obtain ⟨⟨a1, a2⟩, a3, a4⟩ := hh; first | exact absurd a1 (by assumption) | exact absurd a2 (by assumption) | exact absurd (a3 (by assumption)).1 (by assumption) | exact absurd (a3 (by assumption)).2 (by assumption) | (obtain ⟨b1, b2, b3⟩ := a4 (by assumption); simp_all))).symm) | (exact congrArg (Value.int .i64) (Txs.check_big (by first | (unfold Txs.okWho Txs.within; omega) | exact ⟨by assumption, by assumption⟩ | (unfold Txs.okWho; simp_all; done)) (by refine ⟨⟨by assumption, by assumption⟩, fun hl => ?_, fun hl => ?_⟩ <;> simp_all) (by omega)).symm) | (exact congrArg (Value.int .i64) (Txs.check_ok (by first | (unfold Txs.okWho Txs.within; omega) | exact ⟨by assumption, by assumption⟩ | (unfold Txs.okWho; simp_all; done)) (by refine ⟨⟨by assumption, by assumption⟩, fun hl => ?_, fun hl => ?_⟩ <;> simp_all) (by omega)).symm)
                                        · skip
                                          try simp only [decide_eq_true_eq, decide_eq_false_iff_not, Bool.not_eq_true', Bool.not_eq_false', Bool.and_eq_true, Bool.not_eq_true, Bool.not_eq_false] at hc150
                                          refine wp_skip ?_
                                          refine inb_n ?_
                                          refine then_n ?_
                                          refine wp_seq ?_
                                          refine reg ?_
                                          refine plain (y_assign rfl rfl) rfl rfl rfl H149 ?_
                                          clear H149; intro a152 H152
                                          refine fin ?_
                                          refine then_n ?_
                                          refine wp_ret ?_
                                          -- return 12
                                          refine ret1 rfl H152 rfl ?_
                                          refine ⟨_, [], rfl, ⟨?_, rfl⟩, H152.sep.sub (List.nil_sublist _)⟩
                                          clear H152
                                          try simp only [Decidable.not_not, show List.replicate 32 (0 : UInt8) = Note.Z from rfl] at *
                                          first | (exact congrArg (Value.int .i64) (Txs.check_who (by first | (unfold Txs.okWho Txs.within; omega) | exact ⟨by assumption, by assumption⟩ | (unfold Txs.okWho; simp_all; done))).symm) | (exact congrArg (Value.int .i64) (Txs.check_arg (by first | (unfold Txs.okWho Txs.within; omega) | exact ⟨by assumption, by assumption⟩ | (unfold Txs.okWho; simp_all; done)) (by intro hh; obtain ⟨⟨a1, a2⟩, a3, a4⟩ := hh; first | exact absurd a1 (by assumption) | exact absurd a2 (by assumption) | exact absurd (a3 (by assumption)).1 (by assumption) | exact absurd (a3 (by assumption)).2 (by assumption) | (obtain ⟨b1, b2, b3⟩ := a4 (by assumption); simp_all))).symm) | (exact congrArg (Value.int .i64) (Txs.check_big (by first | (unfold Txs.okWho Txs.within; omega) | exact ⟨by assumption, by assumption⟩ | (unfold Txs.okWho; simp_all; done)) (by refine ⟨⟨by assumption, by assumption⟩, fun hl => ?_, fun hl => ?_⟩ <;> simp_all) (by omega)).symm) | (exact congrArg (Value.int .i64) (Txs.check_ok (by first | (unfold Txs.okWho Txs.within; omega) | exact ⟨by assumption, by assumption⟩ | (unfold Txs.okWho; simp_all; done)) (by refine ⟨⟨by assumption, by assumption⟩, fun hl => ?_, fun hl => ?_⟩ <;> simp_all) (by omega)).symm)
                                · first
                                  | (exfalso; simp_all; done)
                                  | skip
                                    try simp only [decide_eq_true_eq, decide_eq_false_iff_not, Bool.not_eq_true', Bool.not_eq_false', Bool.and_eq_true, Bool.not_eq_true, Bool.not_eq_false] at hc142
                                    refine reg ?_
                                    refine plain (y_fieldB rfl z_field36_5 rfl (by first | (simp only [Nat.zero_add, Nat.add_zero, Nat.reduceAdd]; rfl) | rfl)) rfl rfl rfl H141 ?_
                                    clear H141; intro a153 H153
                                    refine plain (y_loadB rfl z_agg4 rfl (by repeat (first | exact Mh | apply Mt)) q_ix_c8b32b32_5) rfl rfl rfl H153 ?_
                                    clear H153; intro a154 H154
                                    refine plain ((by first | exact y_not_d rfl rfl | exact y_not rfl rfl)) rfl rfl rfl H154 ?_
                                    clear H154; intro a155 H155
                                    refine plain (y_move rfl rfl) rfl rfl rfl H155 ?_
                                    clear H155; intro a156 H156
                                    refine Sx.part (d := 58) H156 rfl (fun hg157 => ?_) (fun hg157 => ?_)
                                    · first
                                      | fail
                                      | skip
                                        clear H156; intro H158
                                        try simp only [decide_eq_true_eq, decide_eq_false_iff_not, Bool.not_eq_true', Bool.not_eq_false', Bool.and_eq_true, Bool.not_eq_true, Bool.not_eq_false] at hg157
                                        refine plain (y_loadAB rfl z_agg73 z_size73 rfl (by repeat (first | exact Mh | apply Mt)) (q_ld_c2b32_0_34 (by assumption)) (q_len_c2b32 (by assumption))) rfl rfl rfl H158 ?_
                                        clear H158; intro a159 H159
                                        refine plain (y_build rfl z_zeroN73 z_places73 rfl lay_n) rfl rfl rfl H159 ?_
                                        clear H159; intro a160 H160
                                        refine plain (y_tneq rfl (by kernel_rfl) rfl rfl (eqr_Ln ⟨t.round, t.turn, t.hand⟩ ⟨0, 0, Note.Z⟩ wf.hand rfl)) rfl rfl rfl H160 ?_
                                        clear H160; intro a161 H161
                                        refine plain (y_pick_t rfl rfl rfl) rfl rfl rfl H161 ?_
                                        clear H161; intro a162 H162
                                        refine plain (y_assign rfl rfl) rfl rfl rfl H162 ?_
                                        clear H162; intro a163 H163
                                        refine fin ?_
                                        refine then_n ?_
                                        refine cnd H163 rfl (fun hc164 => ?_) (fun hc164 => ?_) -- cond 15
                                        · first
                                          | (exfalso; simp_all; done)
                                          | skip
                                            try simp only [decide_eq_true_eq, decide_eq_false_iff_not, Bool.not_eq_true', Bool.not_eq_false', Bool.and_eq_true, Bool.not_eq_true, Bool.not_eq_false] at hc164
                                            refine wp_seq ?_
                                            refine reg ?_
                                            refine plain (y_assign rfl rfl) rfl rfl rfl H163 ?_
                                            clear H163; intro a165 H165
                                            refine fin ?_
                                            refine then_n ?_
                                            refine wp_ret ?_
                                            refine inb_r ?_
                                            refine then_r ?_
                                            -- return 13
                                            refine ret1 rfl H165 rfl ?_
                                            refine ⟨_, [], rfl, ⟨?_, rfl⟩, H165.sep.sub (List.nil_sublist _)⟩
                                            clear H165
                                            try simp only [Decidable.not_not, show List.replicate 32 (0 : UInt8) = Note.Z from rfl] at *
                                            first | (exact congrArg (Value.int .i64) (Txs.check_who (by first | (unfold Txs.okWho Txs.within; omega) | exact ⟨by assumption, by assumption⟩ | (unfold Txs.okWho; simp_all; done))).symm) | (exact congrArg (Value.int .i64) (Txs.check_arg (by first | (unfold Txs.okWho Txs.within; omega) | exact ⟨by assumption, by assumption⟩ | (unfold Txs.okWho; simp_all; done)) (by intro hh; obtain ⟨⟨a1, a2⟩, a3, a4⟩ := hh; first | exact absurd a1 (by assumption) | exact absurd a2 (by assumption) | exact absurd (a3 (by assumption)).1 (by assumption) | exact absurd (a3 (by assumption)).2 (by assumption) | (obtain ⟨b1, b2, b3⟩ := a4 (by assumption); simp_all))).symm) | (exact congrArg (Value.int .i64) (Txs.check_big (by first | (unfold Txs.okWho Txs.within; omega) | exact ⟨by assumption, by assumption⟩ | (unfold Txs.okWho; simp_all; done)) (by refine ⟨⟨by assumption, by assumption⟩, fun hl => ?_, fun hl => ?_⟩ <;> simp_all) (by omega)).symm) | (exact congrArg (Value.int .i64) (Txs.check_ok (by first | (unfold Txs.okWho Txs.within; omega) | exact ⟨by assumption, by assumption⟩ | (unfold Txs.okWho; simp_all; done)) (by refine ⟨⟨by assumption, by assumption⟩, fun hl => ?_, fun hl => ?_⟩ <;> simp_all) (by omega)).symm)
                                        · first
                                          | (exfalso; simp_all; done)
                                          | skip
                                            try simp only [decide_eq_true_eq, decide_eq_false_iff_not, Bool.not_eq_true', Bool.not_eq_false', Bool.and_eq_true, Bool.not_eq_true, Bool.not_eq_false] at hc164
                                            refine wp_seq ?_
                                            refine reg ?_
                                            refine plain (y_fieldB rfl z_field36_4 rfl (by first | (simp only [Nat.zero_add, Nat.add_zero, Nat.reduceAdd]; rfl) | rfl)) rfl rfl rfl H163 ?_
                                            clear H163; intro a166 H166
                                            refine plain (y_loadB rfl z_agg9 rfl (by repeat (first | exact Mh | apply Mt)) q_ix_c8b32b32_4) rfl rfl rfl H166 ?_
                                            clear H166; intro a167 H167
                                            refine plain (y_slen rfl Try.underlying9 rfl) rfl rfl rfl H167 ?_
                                            clear H167; intro a168 H168
                                            refine plain (y_gtr rfl rfl rfl) rfl rfl rfl H168 ?_
                                            clear H168; intro a169 H169
                                            refine plain (y_assign rfl rfl) rfl rfl rfl H169 ?_
                                            clear H169; intro a170 H170
                                            refine fin ?_
                                            refine then_n ?_
                                            refine cnd H170 rfl (fun hc171 => ?_) (fun hc171 => ?_) -- cond 16
                                            · skip
                                              try simp only [decide_eq_true_eq, decide_eq_false_iff_not, Bool.not_eq_true', Bool.not_eq_false', Bool.and_eq_true, Bool.not_eq_true, Bool.not_eq_false] at hc171
                                              refine wp_seq ?_
                                              refine reg ?_
                                              refine plain (y_assign rfl rfl) rfl rfl rfl H170 ?_
                                              clear H170; intro a172 H172
                                              refine fin ?_
                                              refine then_n ?_
                                              refine wp_ret ?_
                                              refine inb_r ?_
                                              refine then_r ?_
                                              -- return 14
                                              refine ret1 rfl H172 rfl ?_
                                              refine ⟨_, [], rfl, ⟨?_, rfl⟩, H172.sep.sub (List.nil_sublist _)⟩
                                              clear H172
                                              try simp only [Decidable.not_not, show List.replicate 32 (0 : UInt8) = Note.Z from rfl] at *
                                              first | (exact congrArg (Value.int .i64) (Txs.check_who (by first | (unfold Txs.okWho Txs.within; omega) | exact ⟨by assumption, by assumption⟩ | (unfold Txs.okWho; simp_all; done))).symm) | (exact congrArg (Value.int .i64) (Txs.check_arg (by first | (unfold Txs.okWho Txs.within; omega) | exact ⟨by assumption, by assumption⟩ | (unfold Txs.okWho; simp_all; done)) (by intro hh; obtain ⟨⟨a1, a2⟩, a3, a4⟩ := hh; first | exact absurd a1 (by assumption) | exact absurd a2 (by assumption) | exact absurd (a3 (by assumption)).1 (by assumption) | exact absurd (a3 (by assumption)).2 (by assumption) | (obtain ⟨b1, b2, b3⟩ := a4 (by assumption); simp_all))).symm) | (exact congrArg (Value.int .i64) (Txs.check_big (by first | (unfold Txs.okWho Txs.within; omega) | exact ⟨by assumption, by assumption⟩ | (unfold Txs.okWho; simp_all; done)) (by refine ⟨⟨by assumption, by assumption⟩, fun hl => ?_, fun hl => ?_⟩ <;> simp_all) (by omega)).symm) | (exact congrArg (Value.int .i64) (Txs.check_ok (by first | (unfold Txs.okWho Txs.within; omega) | exact ⟨by assumption, by assumption⟩ | (unfold Txs.okWho; simp_all; done)) (by refine ⟨⟨by assumption, by assumption⟩, fun hl => ?_, fun hl => ?_⟩ <;> simp_all) (by omega)).symm)
                                            · skip
                                              try simp only [decide_eq_true_eq, decide_eq_false_iff_not, Bool.not_eq_true', Bool.not_eq_false', Bool.and_eq_true, Bool.not_eq_true, Bool.not_eq_false] at hc171
                                              refine wp_skip ?_
                                              refine inb_n ?_
                                              refine then_n ?_
                                              refine wp_seq ?_
                                              refine reg ?_
                                              refine plain (y_assign rfl rfl) rfl rfl rfl H170 ?_
                                              clear H170; intro a173 H173
                                              refine fin ?_
                                              refine then_n ?_
                                              refine wp_ret ?_
                                              -- return 15
                                              refine ret1 rfl H173 rfl ?_
                                              refine ⟨_, [], rfl, ⟨?_, rfl⟩, H173.sep.sub (List.nil_sublist _)⟩
                                              clear H173
                                              try simp only [Decidable.not_not, show List.replicate 32 (0 : UInt8) = Note.Z from rfl] at *
                                              first | (exact congrArg (Value.int .i64) (Txs.check_who (by first | (unfold Txs.okWho Txs.within; omega) | exact ⟨by assumption, by assumption⟩ | (unfold Txs.okWho; simp_all; done))).symm) | (exact congrArg (Value.int .i64) (Txs.check_arg (by first | (unfold Txs.okWho Txs.within; omega) | exact ⟨by assumption, by assumption⟩ | (unfold Txs.okWho; simp_all; done)) (by intro hh; obtain ⟨⟨a1, a2⟩, a3, a4⟩ := hh; first | exact absurd a1 (by assumption) | exact absurd a2 (by assumption) | exact absurd (a3 (by assumption)).1 (by assumption) | exact absurd (a3 (by assumption)).2 (by assumption) | (obtain ⟨b1, b2, b3⟩ := a4 (by assumption); simp_all))).symm) | (exact congrArg (Value.int .i64) (Txs.check_big (by first | (unfold Txs.okWho Txs.within; omega) | exact ⟨by assumption, by assumption⟩ | (unfold Txs.okWho; simp_all; done)) (by refine ⟨⟨by assumption, by assumption⟩, fun hl => ?_, fun hl => ?_⟩ <;> simp_all) (by omega)).symm) | (exact congrArg (Value.int .i64) (Txs.check_ok (by first | (unfold Txs.okWho Txs.within; omega) | exact ⟨by assumption, by assumption⟩ | (unfold Txs.okWho; simp_all; done)) (by refine ⟨⟨by assumption, by assumption⟩, fun hl => ?_, fun hl => ?_⟩ <;> simp_all) (by omega)).symm)
                                    · first
                                      | fail
                                      | skip
                                        clear H156; intro H174
                                        try simp only [decide_eq_true_eq, decide_eq_false_iff_not, Bool.not_eq_true', Bool.not_eq_false', Bool.and_eq_true, Bool.not_eq_true, Bool.not_eq_false] at hg157
                                        refine skip rfl rfl rfl H174 ?_
                                        clear H174; intro a175 H175
                                        refine skip rfl rfl rfl H175 ?_
                                        clear H175; intro a176 H176
                                        refine skip rfl rfl rfl H176 ?_
                                        clear H176; intro a177 H177
                                        refine plain (y_pick_f rfl rfl rfl) rfl rfl rfl H177 ?_
                                        clear H177; intro a178 H178
                                        refine plain (y_assign rfl rfl) rfl rfl rfl H178 ?_
                                        clear H178; intro a179 H179
                                        refine fin ?_
                                        refine then_n ?_
                                        refine cnd_f H179 rfl ?_
                                        refine wp_seq ?_
                                        refine reg ?_
                                        refine plain (y_fieldB rfl z_field36_4 rfl (by first | (simp only [Nat.zero_add, Nat.add_zero, Nat.reduceAdd]; rfl) | rfl)) rfl rfl rfl H179 ?_
                                        clear H179; intro a181 H181
                                        refine plain (y_loadB rfl z_agg9 rfl (by repeat (first | exact Mh | apply Mt)) q_ix_c8b32b32_4) rfl rfl rfl H181 ?_
                                        clear H181; intro a182 H182
                                        refine plain (y_slen rfl Try.underlying9 rfl) rfl rfl rfl H182 ?_
                                        clear H182; intro a183 H183
                                        refine plain (y_gtr rfl rfl rfl) rfl rfl rfl H183 ?_
                                        clear H183; intro a184 H184
                                        refine plain (y_assign rfl rfl) rfl rfl rfl H184 ?_
                                        clear H184; intro a185 H185
                                        refine fin ?_
                                        refine then_n ?_
                                        refine cnd H185 rfl (fun hc186 => ?_) (fun hc186 => ?_) -- cond 18
                                        · skip
                                          try simp only [decide_eq_true_eq, decide_eq_false_iff_not, Bool.not_eq_true', Bool.not_eq_false', Bool.and_eq_true, Bool.not_eq_true, Bool.not_eq_false] at hc186
                                          refine wp_seq ?_
                                          refine reg ?_
                                          refine plain (y_assign rfl rfl) rfl rfl rfl H185 ?_
                                          clear H185; intro a187 H187
                                          refine fin ?_
                                          refine then_n ?_
                                          refine wp_ret ?_
                                          refine inb_r ?_
                                          refine then_r ?_
                                          -- return 16
                                          refine ret1 rfl H187 rfl ?_
                                          refine ⟨_, [], rfl, ⟨?_, rfl⟩, H187.sep.sub (List.nil_sublist _)⟩
                                          clear H187
                                          try simp only [Decidable.not_not, show List.replicate 32 (0 : UInt8) = Note.Z from rfl] at *
                                          first | (exact congrArg (Value.int .i64) (Txs.check_who (by first | (unfold Txs.okWho Txs.within; omega) | exact ⟨by assumption, by assumption⟩ | (unfold Txs.okWho; simp_all; done))).symm) | (exact congrArg (Value.int .i64) (Txs.check_arg (by first | (unfold Txs.okWho Txs.within; omega) | exact ⟨by assumption, by assumption⟩ | (unfold Txs.okWho; simp_all; done)) (by intro hh; obtain ⟨⟨a1, a2⟩, a3, a4⟩ := hh; first | exact absurd a1 (by assumption) | exact absurd a2 (by assumption) | exact absurd (a3 (by assumption)).1 (by assumption) | exact absurd (a3 (by assumption)).2 (by assumption) | (obtain ⟨b1, b2, b3⟩ := a4 (by assumption); simp_all))).symm) | (exact congrArg (Value.int .i64) (Txs.check_big (by first | (unfold Txs.okWho Txs.within; omega) | exact ⟨by assumption, by assumption⟩ | (unfold Txs.okWho; simp_all; done)) (by refine ⟨⟨by assumption, by assumption⟩, fun hl => ?_, fun hl => ?_⟩ <;> simp_all) (by omega)).symm) | (exact congrArg (Value.int .i64) (Txs.check_ok (by first | (unfold Txs.okWho Txs.within; omega) | exact ⟨by assumption, by assumption⟩ | (unfold Txs.okWho; simp_all; done)) (by refine ⟨⟨by assumption, by assumption⟩, fun hl => ?_, fun hl => ?_⟩ <;> simp_all) (by omega)).symm)
                                        · skip
                                          try simp only [decide_eq_true_eq, decide_eq_false_iff_not, Bool.not_eq_true', Bool.not_eq_false', Bool.and_eq_true, Bool.not_eq_true, Bool.not_eq_false] at hc186
                                          refine wp_skip ?_
                                          refine inb_n ?_
                                          refine then_n ?_
                                          refine wp_seq ?_
                                          refine reg ?_
                                          refine plain (y_assign rfl rfl) rfl rfl rfl H185 ?_
                                          clear H185; intro a188 H188
                                          refine fin ?_
                                          refine then_n ?_
                                          refine wp_ret ?_
                                          -- return 17
                                          refine ret1 rfl H188 rfl ?_
                                          refine ⟨_, [], rfl, ⟨?_, rfl⟩, H188.sep.sub (List.nil_sublist _)⟩
                                          clear H188
                                          try simp only [Decidable.not_not, show List.replicate 32 (0 : UInt8) = Note.Z from rfl] at *
                                          first | (exact congrArg (Value.int .i64) (Txs.check_who (by first | (unfold Txs.okWho Txs.within; omega) | exact ⟨by assumption, by assumption⟩ | (unfold Txs.okWho; simp_all; done))).symm) | (exact congrArg (Value.int .i64) (Txs.check_arg (by first | (unfold Txs.okWho Txs.within; omega) | exact ⟨by assumption, by assumption⟩ | (unfold Txs.okWho; simp_all; done)) (by intro hh; obtain ⟨⟨a1, a2⟩, a3, a4⟩ := hh; first | exact absurd a1 (by assumption) | exact absurd a2 (by assumption) | exact absurd (a3 (by assumption)).1 (by assumption) | exact absurd (a3 (by assumption)).2 (by assumption) | (obtain ⟨b1, b2, b3⟩ := a4 (by assumption); simp_all))).symm) | (exact congrArg (Value.int .i64) (Txs.check_big (by first | (unfold Txs.okWho Txs.within; omega) | exact ⟨by assumption, by assumption⟩ | (unfold Txs.okWho; simp_all; done)) (by refine ⟨⟨by assumption, by assumption⟩, fun hl => ?_, fun hl => ?_⟩ <;> simp_all) (by omega)).symm) | (exact congrArg (Value.int .i64) (Txs.check_ok (by first | (unfold Txs.okWho Txs.within; omega) | exact ⟨by assumption, by assumption⟩ | (unfold Txs.okWho; simp_all; done)) (by refine ⟨⟨by assumption, by assumption⟩, fun hl => ?_, fun hl => ?_⟩ <;> simp_all) (by omega)).symm)
                        · first
                          | fail
                          | skip
                            clear H114; intro H189
                            try simp only [decide_eq_true_eq, decide_eq_false_iff_not, Bool.not_eq_true', Bool.not_eq_false', Bool.and_eq_true, Bool.not_eq_true, Bool.not_eq_false] at hg115
                            refine skip rfl rfl rfl H189 ?_
                            clear H189; intro a190 H190
                            refine skip rfl rfl rfl H190 ?_
                            clear H190; intro a191 H191
                            refine skip rfl rfl rfl H191 ?_
                            clear H191; intro a192 H192
                            refine skip rfl rfl rfl H192 ?_
                            clear H192; intro a193 H193
                            refine skip rfl rfl rfl H193 ?_
                            clear H193; intro a194 H194
                            refine skip rfl rfl rfl H194 ?_
                            clear H194; intro a195 H195
                            refine skip rfl rfl rfl H195 ?_
                            clear H195; intro a196 H196
                            refine skip rfl rfl rfl H196 ?_
                            clear H196; intro a197 H197
                            refine skip rfl rfl rfl H197 ?_
                            clear H197; intro a198 H198
                            refine skip rfl rfl rfl H198 ?_
                            clear H198; intro a199 H199
                            refine plain (y_pick_f rfl rfl rfl) rfl rfl rfl H199 ?_
                            clear H199; intro a200 H200
                            refine plain (y_assign rfl rfl) rfl rfl rfl H200 ?_
                            clear H200; intro a201 H201
                            refine fin ?_
                            refine then_n ?_
                            refine cnd_f H201 rfl ?_
                            refine reg ?_
                            refine plain (y_fieldB rfl z_field36_5 rfl (by first | (simp only [Nat.zero_add, Nat.add_zero, Nat.reduceAdd]; rfl) | rfl)) rfl rfl rfl H201 ?_
                            clear H201; intro a203 H203
                            refine plain (y_loadB rfl z_agg4 rfl (by repeat (first | exact Mh | apply Mt)) q_ix_c8b32b32_5) rfl rfl rfl H203 ?_
                            clear H203; intro a204 H204
                            refine plain ((by first | exact y_not_d rfl rfl | exact y_not rfl rfl)) rfl rfl rfl H204 ?_
                            clear H204; intro a205 H205
                            refine plain (y_move rfl rfl) rfl rfl rfl H205 ?_
                            clear H205; intro a206 H206
                            refine Sx.part (d := 58) H206 rfl (fun hg207 => ?_) (fun hg207 => ?_)
                            · first
                              | fail
                              | skip
                                clear H206; intro H208
                                try simp only [decide_eq_true_eq, decide_eq_false_iff_not, Bool.not_eq_true', Bool.not_eq_false', Bool.and_eq_true, Bool.not_eq_true, Bool.not_eq_false] at hg207
                                refine plain (y_loadAB rfl z_agg73 z_size73 rfl (by repeat (first | exact Mh | apply Mt)) (q_ld_c2b32_0_34 (by assumption)) (q_len_c2b32 (by assumption))) rfl rfl rfl H208 ?_
                                clear H208; intro a209 H209
                                refine plain (y_build rfl z_zeroN73 z_places73 rfl lay_n) rfl rfl rfl H209 ?_
                                clear H209; intro a210 H210
                                refine plain (y_tneq rfl (by kernel_rfl) rfl rfl (eqr_Ln ⟨t.round, t.turn, t.hand⟩ ⟨0, 0, Note.Z⟩ wf.hand rfl)) rfl rfl rfl H210 ?_
                                clear H210; intro a211 H211
                                refine plain (y_pick_t rfl rfl rfl) rfl rfl rfl H211 ?_
                                clear H211; intro a212 H212
                                refine plain (y_assign rfl rfl) rfl rfl rfl H212 ?_
                                clear H212; intro a213 H213
                                refine fin ?_
                                refine then_n ?_
                                refine cnd H213 rfl (fun hc214 => ?_) (fun hc214 => ?_) -- cond 20
                                · first
                                  | (exfalso; simp_all; done)
                                  | skip
                                    try simp only [decide_eq_true_eq, decide_eq_false_iff_not, Bool.not_eq_true', Bool.not_eq_false', Bool.and_eq_true, Bool.not_eq_true, Bool.not_eq_false] at hc214
                                    refine wp_seq ?_
                                    refine reg ?_
                                    refine plain (y_assign rfl rfl) rfl rfl rfl H213 ?_
                                    clear H213; intro a215 H215
                                    refine fin ?_
                                    refine then_n ?_
                                    refine wp_ret ?_
                                    refine inb_r ?_
                                    refine then_r ?_
                                    -- return 18
                                    refine ret1 rfl H215 rfl ?_
                                    refine ⟨_, [], rfl, ⟨?_, rfl⟩, H215.sep.sub (List.nil_sublist _)⟩
                                    clear H215
                                    try simp only [Decidable.not_not, show List.replicate 32 (0 : UInt8) = Note.Z from rfl] at *
                                    first | (exact congrArg (Value.int .i64) (Txs.check_who (by first | (unfold Txs.okWho Txs.within; omega) | exact ⟨by assumption, by assumption⟩ | (unfold Txs.okWho; simp_all; done))).symm) | (exact congrArg (Value.int .i64) (Txs.check_arg (by first | (unfold Txs.okWho Txs.within; omega) | exact ⟨by assumption, by assumption⟩ | (unfold Txs.okWho; simp_all; done)) (by intro hh; obtain ⟨⟨a1, a2⟩, a3, a4⟩ := hh; first | exact absurd a1 (by assumption) | exact absurd a2 (by assumption) | exact absurd (a3 (by assumption)).1 (by assumption) | exact absurd (a3 (by assumption)).2 (by assumption) | (obtain ⟨b1, b2, b3⟩ := a4 (by assumption); simp_all))).symm) | (exact congrArg (Value.int .i64) (Txs.check_big (by first | (unfold Txs.okWho Txs.within; omega) | exact ⟨by assumption, by assumption⟩ | (unfold Txs.okWho; simp_all; done)) (by refine ⟨⟨by assumption, by assumption⟩, fun hl => ?_, fun hl => ?_⟩ <;> simp_all) (by omega)).symm) | (exact congrArg (Value.int .i64) (Txs.check_ok (by first | (unfold Txs.okWho Txs.within; omega) | exact ⟨by assumption, by assumption⟩ | (unfold Txs.okWho; simp_all; done)) (by refine ⟨⟨by assumption, by assumption⟩, fun hl => ?_, fun hl => ?_⟩ <;> simp_all) (by omega)).symm)
                                · first
                                  | (exfalso; simp_all; done)
                                  | skip
                                    try simp only [decide_eq_true_eq, decide_eq_false_iff_not, Bool.not_eq_true', Bool.not_eq_false', Bool.and_eq_true, Bool.not_eq_true, Bool.not_eq_false] at hc214
                                    refine wp_seq ?_
                                    refine reg ?_
                                    refine plain (y_fieldB rfl z_field36_4 rfl (by first | (simp only [Nat.zero_add, Nat.add_zero, Nat.reduceAdd]; rfl) | rfl)) rfl rfl rfl H213 ?_
                                    clear H213; intro a216 H216
                                    refine plain (y_loadB rfl z_agg9 rfl (by repeat (first | exact Mh | apply Mt)) q_ix_c8b32b32_4) rfl rfl rfl H216 ?_
                                    clear H216; intro a217 H217
                                    refine plain (y_slen rfl Try.underlying9 rfl) rfl rfl rfl H217 ?_
                                    clear H217; intro a218 H218
                                    refine plain (y_gtr rfl rfl rfl) rfl rfl rfl H218 ?_
                                    clear H218; intro a219 H219
                                    refine plain (y_assign rfl rfl) rfl rfl rfl H219 ?_
                                    clear H219; intro a220 H220
                                    refine fin ?_
                                    refine then_n ?_
                                    refine cnd H220 rfl (fun hc221 => ?_) (fun hc221 => ?_) -- cond 21
                                    · skip
                                      try simp only [decide_eq_true_eq, decide_eq_false_iff_not, Bool.not_eq_true', Bool.not_eq_false', Bool.and_eq_true, Bool.not_eq_true, Bool.not_eq_false] at hc221
                                      refine wp_seq ?_
                                      refine reg ?_
                                      refine plain (y_assign rfl rfl) rfl rfl rfl H220 ?_
                                      clear H220; intro a222 H222
                                      refine fin ?_
                                      refine then_n ?_
                                      refine wp_ret ?_
                                      refine inb_r ?_
                                      refine then_r ?_
                                      -- return 19
                                      refine ret1 rfl H222 rfl ?_
                                      refine ⟨_, [], rfl, ⟨?_, rfl⟩, H222.sep.sub (List.nil_sublist _)⟩
                                      clear H222
                                      try simp only [Decidable.not_not, show List.replicate 32 (0 : UInt8) = Note.Z from rfl] at *
                                      first | (exact congrArg (Value.int .i64) (Txs.check_who (by first | (unfold Txs.okWho Txs.within; omega) | exact ⟨by assumption, by assumption⟩ | (unfold Txs.okWho; simp_all; done))).symm) | (exact congrArg (Value.int .i64) (Txs.check_arg (by first | (unfold Txs.okWho Txs.within; omega) | exact ⟨by assumption, by assumption⟩ | (unfold Txs.okWho; simp_all; done)) (by intro hh; obtain ⟨⟨a1, a2⟩, a3, a4⟩ := hh; first | exact absurd a1 (by assumption) | exact absurd a2 (by assumption) | exact absurd (a3 (by assumption)).1 (by assumption) | exact absurd (a3 (by assumption)).2 (by assumption) | (obtain ⟨b1, b2, b3⟩ := a4 (by assumption); simp_all))).symm) | (exact congrArg (Value.int .i64) (Txs.check_big (by first | (unfold Txs.okWho Txs.within; omega) | exact ⟨by assumption, by assumption⟩ | (unfold Txs.okWho; simp_all; done)) (by refine ⟨⟨by assumption, by assumption⟩, fun hl => ?_, fun hl => ?_⟩ <;> simp_all) (by omega)).symm) | (exact congrArg (Value.int .i64) (Txs.check_ok (by first | (unfold Txs.okWho Txs.within; omega) | exact ⟨by assumption, by assumption⟩ | (unfold Txs.okWho; simp_all; done)) (by refine ⟨⟨by assumption, by assumption⟩, fun hl => ?_, fun hl => ?_⟩ <;> simp_all) (by omega)).symm)
                                    · skip
                                      try simp only [decide_eq_true_eq, decide_eq_false_iff_not, Bool.not_eq_true', Bool.not_eq_false', Bool.and_eq_true, Bool.not_eq_true, Bool.not_eq_false] at hc221
                                      refine wp_skip ?_
                                      refine inb_n ?_
                                      refine then_n ?_
                                      refine wp_seq ?_
                                      refine reg ?_
                                      refine plain (y_assign rfl rfl) rfl rfl rfl H220 ?_
                                      clear H220; intro a223 H223
                                      refine fin ?_
                                      refine then_n ?_
                                      refine wp_ret ?_
                                      -- return 20
                                      refine ret1 rfl H223 rfl ?_
                                      refine ⟨_, [], rfl, ⟨?_, rfl⟩, H223.sep.sub (List.nil_sublist _)⟩
                                      clear H223
                                      try simp only [Decidable.not_not, show List.replicate 32 (0 : UInt8) = Note.Z from rfl] at *
                                      first | (exact congrArg (Value.int .i64) (Txs.check_who (by first | (unfold Txs.okWho Txs.within; omega) | exact ⟨by assumption, by assumption⟩ | (unfold Txs.okWho; simp_all; done))).symm) | (exact congrArg (Value.int .i64) (Txs.check_arg (by first | (unfold Txs.okWho Txs.within; omega) | exact ⟨by assumption, by assumption⟩ | (unfold Txs.okWho; simp_all; done)) (by intro hh; obtain ⟨⟨a1, a2⟩, a3, a4⟩ := hh; first | exact absurd a1 (by assumption) | exact absurd a2 (by assumption) | exact absurd (a3 (by assumption)).1 (by assumption) | exact absurd (a3 (by assumption)).2 (by assumption) | (obtain ⟨b1, b2, b3⟩ := a4 (by assumption); simp_all))).symm) | (exact congrArg (Value.int .i64) (Txs.check_big (by first | (unfold Txs.okWho Txs.within; omega) | exact ⟨by assumption, by assumption⟩ | (unfold Txs.okWho; simp_all; done)) (by refine ⟨⟨by assumption, by assumption⟩, fun hl => ?_, fun hl => ?_⟩ <;> simp_all) (by omega)).symm) | (exact congrArg (Value.int .i64) (Txs.check_ok (by first | (unfold Txs.okWho Txs.within; omega) | exact ⟨by assumption, by assumption⟩ | (unfold Txs.okWho; simp_all; done)) (by refine ⟨⟨by assumption, by assumption⟩, fun hl => ?_, fun hl => ?_⟩ <;> simp_all) (by omega)).symm)
                            · first
                              | fail
                              | skip
                                clear H206; intro H224
                                try simp only [decide_eq_true_eq, decide_eq_false_iff_not, Bool.not_eq_true', Bool.not_eq_false', Bool.and_eq_true, Bool.not_eq_true, Bool.not_eq_false] at hg207
                                refine skip rfl rfl rfl H224 ?_
                                clear H224; intro a225 H225
                                refine skip rfl rfl rfl H225 ?_
                                clear H225; intro a226 H226
                                refine skip rfl rfl rfl H226 ?_
                                clear H226; intro a227 H227
                                refine plain (y_pick_f rfl rfl rfl) rfl rfl rfl H227 ?_
                                clear H227; intro a228 H228
                                refine plain (y_assign rfl rfl) rfl rfl rfl H228 ?_
                                clear H228; intro a229 H229
                                refine fin ?_
                                refine then_n ?_
                                refine cnd_f H229 rfl ?_
                                refine wp_seq ?_
                                refine reg ?_
                                refine plain (y_fieldB rfl z_field36_4 rfl (by first | (simp only [Nat.zero_add, Nat.add_zero, Nat.reduceAdd]; rfl) | rfl)) rfl rfl rfl H229 ?_
                                clear H229; intro a231 H231
                                refine plain (y_loadB rfl z_agg9 rfl (by repeat (first | exact Mh | apply Mt)) q_ix_c8b32b32_4) rfl rfl rfl H231 ?_
                                clear H231; intro a232 H232
                                refine plain (y_slen rfl Try.underlying9 rfl) rfl rfl rfl H232 ?_
                                clear H232; intro a233 H233
                                refine plain (y_gtr rfl rfl rfl) rfl rfl rfl H233 ?_
                                clear H233; intro a234 H234
                                refine plain (y_assign rfl rfl) rfl rfl rfl H234 ?_
                                clear H234; intro a235 H235
                                refine fin ?_
                                refine then_n ?_
                                refine cnd H235 rfl (fun hc236 => ?_) (fun hc236 => ?_) -- cond 23
                                · skip
                                  try simp only [decide_eq_true_eq, decide_eq_false_iff_not, Bool.not_eq_true', Bool.not_eq_false', Bool.and_eq_true, Bool.not_eq_true, Bool.not_eq_false] at hc236
                                  refine wp_seq ?_
                                  refine reg ?_
                                  refine plain (y_assign rfl rfl) rfl rfl rfl H235 ?_
                                  clear H235; intro a237 H237
                                  refine fin ?_
                                  refine then_n ?_
                                  refine wp_ret ?_
                                  refine inb_r ?_
                                  refine then_r ?_
                                  -- return 21
                                  refine ret1 rfl H237 rfl ?_
                                  refine ⟨_, [], rfl, ⟨?_, rfl⟩, H237.sep.sub (List.nil_sublist _)⟩
                                  clear H237
                                  try simp only [Decidable.not_not, show List.replicate 32 (0 : UInt8) = Note.Z from rfl] at *
                                  first | (exact congrArg (Value.int .i64) (Txs.check_who (by first | (unfold Txs.okWho Txs.within; omega) | exact ⟨by assumption, by assumption⟩ | (unfold Txs.okWho; simp_all; done))).symm) | (exact congrArg (Value.int .i64) (Txs.check_arg (by first | (unfold Txs.okWho Txs.within; omega) | exact ⟨by assumption, by assumption⟩ | (unfold Txs.okWho; simp_all; done)) (by intro hh; obtain ⟨⟨a1, a2⟩, a3, a4⟩ := hh; first | exact absurd a1 (by assumption) | exact absurd a2 (by assumption) | exact absurd (a3 (by assumption)).1 (by assumption) | exact absurd (a3 (by assumption)).2 (by assumption) | (obtain ⟨b1, b2, b3⟩ := a4 (by assumption); simp_all))).symm) | (exact congrArg (Value.int .i64) (Txs.check_big (by first | (unfold Txs.okWho Txs.within; omega) | exact ⟨by assumption, by assumption⟩ | (unfold Txs.okWho; simp_all; done)) (by refine ⟨⟨by assumption, by assumption⟩, fun hl => ?_, fun hl => ?_⟩ <;> simp_all) (by omega)).symm) | (exact congrArg (Value.int .i64) (Txs.check_ok (by first | (unfold Txs.okWho Txs.within; omega) | exact ⟨by assumption, by assumption⟩ | (unfold Txs.okWho; simp_all; done)) (by refine ⟨⟨by assumption, by assumption⟩, fun hl => ?_, fun hl => ?_⟩ <;> simp_all) (by omega)).symm)
                                · skip
                                  try simp only [decide_eq_true_eq, decide_eq_false_iff_not, Bool.not_eq_true', Bool.not_eq_false', Bool.and_eq_true, Bool.not_eq_true, Bool.not_eq_false] at hc236
                                  refine wp_skip ?_
                                  refine inb_n ?_
                                  refine then_n ?_
                                  refine wp_seq ?_
                                  refine reg ?_
                                  refine plain (y_assign rfl rfl) rfl rfl rfl H235 ?_
                                  clear H235; intro a238 H238
                                  refine fin ?_
                                  refine then_n ?_
                                  refine wp_ret ?_
                                  -- return 22
                                  refine ret1 rfl H238 rfl ?_
                                  refine ⟨_, [], rfl, ⟨?_, rfl⟩, H238.sep.sub (List.nil_sublist _)⟩
                                  clear H238
                                  try simp only [Decidable.not_not, show List.replicate 32 (0 : UInt8) = Note.Z from rfl] at *
                                  first | (exact congrArg (Value.int .i64) (Txs.check_who (by first | (unfold Txs.okWho Txs.within; omega) | exact ⟨by assumption, by assumption⟩ | (unfold Txs.okWho; simp_all; done))).symm) | (exact congrArg (Value.int .i64) (Txs.check_arg (by first | (unfold Txs.okWho Txs.within; omega) | exact ⟨by assumption, by assumption⟩ | (unfold Txs.okWho; simp_all; done)) (by intro hh; obtain ⟨⟨a1, a2⟩, a3, a4⟩ := hh; first | exact absurd a1 (by assumption) | exact absurd a2 (by assumption) | exact absurd (a3 (by assumption)).1 (by assumption) | exact absurd (a3 (by assumption)).2 (by assumption) | (obtain ⟨b1, b2, b3⟩ := a4 (by assumption); simp_all))).symm) | (exact congrArg (Value.int .i64) (Txs.check_big (by first | (unfold Txs.okWho Txs.within; omega) | exact ⟨by assumption, by assumption⟩ | (unfold Txs.okWho; simp_all; done)) (by refine ⟨⟨by assumption, by assumption⟩, fun hl => ?_, fun hl => ?_⟩ <;> simp_all) (by omega)).symm) | (exact congrArg (Value.int .i64) (Txs.check_ok (by first | (unfold Txs.okWho Txs.within; omega) | exact ⟨by assumption, by assumption⟩ | (unfold Txs.okWho; simp_all; done)) (by refine ⟨⟨by assumption, by assumption⟩, fun hl => ?_, fun hl => ?_⟩ <;> simp_all) (by omega)).symm)
end Go.Proofs.Ytbdkgmkaakoigaa.P_Tx

set_option linter.unusedVariables false
set_option linter.unusedSimpArgs false
namespace Go.Proofs.Ytbdkgmkaakoigaa.P_K
open Go.Sx Go.RowKit

theorem z_field38_3 : fieldB Try.prog 38 3 = some 74 := by kernel_rfl
theorem z_agg3 : aggB Try.prog 3 = some false := by kernel_rfl
theorem q_ix_c8b32b32c4_74 {a0 a1 a2 a3 a4 a5 a6 a7 a10 a11 a12 a13 : Value} {t8 t9 : List UInt8} (h8 : t8.length = 32) (h9 : t9.length = 32) : (a0 :: a1 :: a2 :: a3 :: a4 :: a5 :: a6 :: a7 :: (t8.map u8 ++ ((t9.map u8 ++ (a10 :: a11 :: a12 :: a13 :: [])))))[74]? = some a12 := (ix_c (o := 73) (ix_c (o := 72) (ix_c (o := 71) (ix_c (o := 70) (ix_c (o := 69) (ix_c (o := 68) (ix_c (o := 67) (ix_c (o := 66) (ix_b (k := 32) (o := 34) h8 rfl (ix_b (k := 32) (o := 2) h9 rfl (ix_c (o := 1) (ix_c (o := 0) ix_0))))))))))))
theorem z_field38_4 : fieldB Try.prog 38 4 = some 75 := by kernel_rfl
theorem q_ix_c8b32b32c4_75 {a0 a1 a2 a3 a4 a5 a6 a7 a10 a11 a12 a13 : Value} {t8 t9 : List UInt8} (h8 : t8.length = 32) (h9 : t9.length = 32) : (a0 :: a1 :: a2 :: a3 :: a4 :: a5 :: a6 :: a7 :: (t8.map u8 ++ ((t9.map u8 ++ (a10 :: a11 :: a12 :: a13 :: [])))))[75]? = some a13 := (ix_c (o := 74) (ix_c (o := 73) (ix_c (o := 72) (ix_c (o := 71) (ix_c (o := 70) (ix_c (o := 69) (ix_c (o := 68) (ix_c (o := 67) (ix_b (k := 32) (o := 35) h8 rfl (ix_b (k := 32) (o := 3) h9 rfl (ix_c (o := 2) (ix_c (o := 1) (ix_c (o := 0) ix_0)))))))))))))
theorem z_size3 : sizeB Try.prog 3 = some 1 := by kernel_rfl

set_option maxRecDepth 100000 in
set_option maxHeartbeats 1000000 in
theorem pkey (x : Pool.Wait) (wf : Pool.Wait.Wf x) (w : World) : Calls Try.prog 33 #[.agg (Pool.Wait.cells x).toArray] w (Gives (.complex .f64 (fl x.time) (fl x.place)) [] w) := by
  have whd := wf.tx.hand
  have wtg := wf.tx.tag
  have lz32 : (List.replicate 32 (0 : UInt8)).length = 32 := List.length_replicate
  have lz0 := wf.tx.hand
  have lz1 := wf.tx.tag
  refine enterL (args := [.agg (Pool.Wait.cells x).toArray]) Try.func33 rfl rfl (l := []) (Sep.refl _) ?_
  intro a0 H0
  refine wp_seq ?_
  refine reg ?_
  refine st_box rfl rfl (agg_cells _) rfl rfl rfl H0 ?_
  clear H0; intro b1 a1 wx1 H1
  refine plain (y_assign rfl rfl) rfl rfl rfl H1 ?_
  clear H1; intro a2 H2
  refine fin ?_
  refine then_n ?_
  refine wp_seq ?_
  refine reg ?_
  refine plain (y_fieldB rfl z_field38_3 rfl (by first | (simp only [Nat.zero_add, Nat.add_zero, Nat.reduceAdd]; rfl) | rfl)) rfl rfl rfl H2 ?_
  clear H2; intro a3 H3
  refine plain (y_loadB rfl z_agg3 rfl (by repeat (first | exact Mh | apply Mt)) (q_ix_c8b32b32c4_74 (by assumption) (by assumption))) rfl rfl rfl H3 ?_
  clear H3; intro a4 H4
  refine plain (y_fconv rfl Try.underlying3 Try.underlying75 rfl) rfl rfl rfl H4 ?_
  clear H4; intro a5 H5
  refine plain (y_fieldB rfl z_field38_4 rfl (by first | (simp only [Nat.zero_add, Nat.add_zero, Nat.reduceAdd]; rfl) | rfl)) rfl rfl rfl H5 ?_
  clear H5; intro a6 H6
  refine plain (y_loadB rfl z_agg3 rfl (by repeat (first | exact Mh | apply Mt)) (q_ix_c8b32b32c4_75 (by assumption) (by assumption))) rfl rfl rfl H6 ?_
  clear H6; intro a7 H7
  refine plain (y_fconv rfl Try.underlying3 Try.underlying75 rfl) rfl rfl rfl H7 ?_
  clear H7; intro a8 H8
  refine plain (y_complex rfl rfl rfl) rfl rfl rfl H8 ?_
  clear H8; intro a9 H9
  refine plain (y_assign rfl rfl) rfl rfl rfl H9 ?_
  clear H9; intro a10 H10
  refine fin ?_
  refine then_n ?_
  refine wp_ret ?_
  -- return 1
  refine ret1 rfl H10 rfl ?_
  exact ⟨_, [], rfl, ⟨rfl, rfl⟩, H10.sep.sub (List.nil_sublist _)⟩
set_option maxRecDepth 100000 in
set_option maxHeartbeats 1000000 in
theorem pbelow (a b : Pool.Wait) (ha : (0 ≤ a.time ∧ a.time ≤ 1099511627776) ∧ (0 ≤ a.place ∧ a.place ≤ 1099511627776)) (hb : (0 ≤ b.time ∧ b.time ≤ 1099511627776) ∧ (0 ≤ b.place ∧ b.place ≤ 1099511627776)) (w : World) : Calls Try.prog 32 #[.complex .f64 (fl a.time) (fl a.place), .complex .f64 (fl b.time) (fl b.place)] w (Gives (.bool (decide (Pool.less a b))) [] w) := by
  have lz32 : (List.replicate 32 (0 : UInt8)).length = 32 := List.length_replicate
  refine enterL (args := [.complex .f64 (fl a.time) (fl a.place), .complex .f64 (fl b.time) (fl b.place)]) Try.func32 rfl rfl (l := []) (Sep.refl _) ?_
  intro a0 H0
  refine wp_seq ?_
  refine reg ?_
  refine plain (y_assign rfl rfl) rfl rfl rfl H0 ?_
  clear H0; intro a1 H1
  refine fin ?_
  refine then_n ?_
  refine wp_seq ?_
  refine reg ?_
  refine plain (y_move rfl rfl) rfl rfl rfl H1 ?_
  clear H1; intro a2 H2
  refine plain (y_real rfl rfl) rfl rfl rfl H2 ?_
  clear H2; intro a3 H3
  refine plain (y_move rfl rfl) rfl rfl rfl H3 ?_
  clear H3; intro a4 H4
  refine plain (y_real rfl rfl) rfl rfl rfl H4 ?_
  clear H4; intro a5 H5
  refine plain (y_flss rfl rfl rfl (by first | exact ha.1 | exact ha.2) (by first | exact hb.1 | exact hb.2)) rfl rfl rfl H5 ?_
  clear H5; intro a6 H6
  refine plain (y_move rfl rfl) rfl rfl rfl H6 ?_
  clear H6; intro a7 H7
  refine Sx.part (d := 10) H7 rfl (fun hg8 => ?_) (fun hg8 => ?_)
  · first
    | fail
    | skip
      clear H7; intro H9
      try simp only [decide_eq_true_eq, decide_eq_false_iff_not, Bool.not_eq_true', Bool.not_eq_false', Bool.and_eq_true, Bool.not_eq_true, Bool.not_eq_false] at hg8
      refine skip rfl rfl rfl H9 ?_
      clear H9; intro a10 H10
      refine skip rfl rfl rfl H10 ?_
      clear H10; intro a11 H11
      refine skip rfl rfl rfl H11 ?_
      clear H11; intro a12 H12
      refine skip rfl rfl rfl H12 ?_
      clear H12; intro a13 H13
      refine skip rfl rfl rfl H13 ?_
      clear H13; intro a14 H14
      refine skip rfl rfl rfl H14 ?_
      clear H14; intro a15 H15
      refine skip rfl rfl rfl H15 ?_
      clear H15; intro a16 H16
      refine skip rfl rfl rfl H16 ?_
      clear H16; intro a17 H17
      refine skip rfl rfl rfl H17 ?_
      clear H17; intro a18 H18
      refine skip rfl rfl rfl H18 ?_
      clear H18; intro a19 H19
      refine skip rfl rfl rfl H19 ?_
      clear H19; intro a20 H20
      refine skip rfl rfl rfl H20 ?_
      clear H20; intro a21 H21
      refine plain (y_pick_t rfl rfl rfl) rfl rfl rfl H21 ?_
      clear H21; intro a22 H22
      refine plain (y_assign rfl rfl) rfl rfl rfl H22 ?_
      clear H22; intro a23 H23
      refine fin ?_
      refine then_n ?_
      refine wp_ret ?_
      -- return 1
      refine ret1 rfl H23 rfl ?_
      refine ⟨_, [], rfl, ⟨?_, rfl⟩, H23.sep.sub (List.nil_sublist _)⟩
      clear H23
      first | exact congrArg Value.bool (decide_eq_true (by unfold Pool.less; omega)).symm | exact congrArg Value.bool (decide_eq_false (by unfold Pool.less; omega)).symm | exact congrArg Value.bool (decide_eq_decide.2 (by unfold Pool.less; omega))
  · first
    | fail
    | skip
      clear H7; intro H24
      try simp only [decide_eq_true_eq, decide_eq_false_iff_not, Bool.not_eq_true', Bool.not_eq_false', Bool.and_eq_true, Bool.not_eq_true, Bool.not_eq_false] at hg8
      refine plain (y_move rfl rfl) rfl rfl rfl H24 ?_
      clear H24; intro a25 H25
      refine plain (y_real rfl rfl) rfl rfl rfl H25 ?_
      clear H25; intro a26 H26
      refine plain (y_move rfl rfl) rfl rfl rfl H26 ?_
      clear H26; intro a27 H27
      refine plain (y_real rfl rfl) rfl rfl rfl H27 ?_
      clear H27; intro a28 H28
      refine plain (y_feql rfl rfl rfl (by first | exact ha.1 | exact ha.2) (by first | exact hb.1 | exact hb.2)) rfl rfl rfl H28 ?_
      clear H28; intro a29 H29
      refine plain (y_move rfl rfl) rfl rfl rfl H29 ?_
      clear H29; intro a30 H30
      refine Sx.part (d := 16) H30 rfl (fun hg31 => ?_) (fun hg31 => ?_)
      · first
        | fail
        | skip
          clear H30; intro H32
          try simp only [decide_eq_true_eq, decide_eq_false_iff_not, Bool.not_eq_true', Bool.not_eq_false', Bool.and_eq_true, Bool.not_eq_true, Bool.not_eq_false] at hg31
          refine plain (y_move rfl rfl) rfl rfl rfl H32 ?_
          clear H32; intro a33 H33
          refine plain (y_imag rfl rfl) rfl rfl rfl H33 ?_
          clear H33; intro a34 H34
          refine plain (y_move rfl rfl) rfl rfl rfl H34 ?_
          clear H34; intro a35 H35
          refine plain (y_imag rfl rfl) rfl rfl rfl H35 ?_
          clear H35; intro a36 H36
          refine plain (y_flss rfl rfl rfl (by first | exact ha.1 | exact ha.2) (by first | exact hb.1 | exact hb.2)) rfl rfl rfl H36 ?_
          clear H36; intro a37 H37
          refine plain (y_pick_t rfl rfl rfl) rfl rfl rfl H37 ?_
          clear H37; intro a38 H38
          refine plain (y_pick_f rfl rfl rfl) rfl rfl rfl H38 ?_
          clear H38; intro a39 H39
          refine plain (y_assign rfl rfl) rfl rfl rfl H39 ?_
          clear H39; intro a40 H40
          refine fin ?_
          refine then_n ?_
          refine wp_ret ?_
          -- return 2
          refine ret1 rfl H40 rfl ?_
          refine ⟨_, [], rfl, ⟨?_, rfl⟩, H40.sep.sub (List.nil_sublist _)⟩
          clear H40
          first | exact congrArg Value.bool (decide_eq_true (by unfold Pool.less; omega)).symm | exact congrArg Value.bool (decide_eq_false (by unfold Pool.less; omega)).symm | exact congrArg Value.bool (decide_eq_decide.2 (by unfold Pool.less; omega))
      · first
        | fail
        | skip
          clear H30; intro H41
          try simp only [decide_eq_true_eq, decide_eq_false_iff_not, Bool.not_eq_true', Bool.not_eq_false', Bool.and_eq_true, Bool.not_eq_true, Bool.not_eq_false] at hg31
          refine skip rfl rfl rfl H41 ?_
          clear H41; intro a42 H42
          refine skip rfl rfl rfl H42 ?_
          clear H42; intro a43 H43
          refine skip rfl rfl rfl H43 ?_
          clear H43; intro a44 H44
          refine skip rfl rfl rfl H44 ?_
          clear H44; intro a45 H45
          refine skip rfl rfl rfl H45 ?_
          clear H45; intro a46 H46
          refine plain (y_pick_f rfl rfl rfl) rfl rfl rfl H46 ?_
          clear H46; intro a47 H47
          refine plain (y_pick_f rfl rfl rfl) rfl rfl rfl H47 ?_
          clear H47; intro a48 H48
          refine plain (y_assign rfl rfl) rfl rfl rfl H48 ?_
          clear H48; intro a49 H49
          refine fin ?_
          refine then_n ?_
          refine wp_ret ?_
          -- return 3
          refine ret1 rfl H49 rfl ?_
          refine ⟨_, [], rfl, ⟨?_, rfl⟩, H49.sep.sub (List.nil_sublist _)⟩
          clear H49
          first | exact congrArg Value.bool (decide_eq_true (by unfold Pool.less; omega)).symm | exact congrArg Value.bool (decide_eq_false (by unfold Pool.less; omega)).symm | exact congrArg Value.bool (decide_eq_decide.2 (by unfold Pool.less; omega))
set_option maxRecDepth 100000 in
set_option maxHeartbeats 1000000 in
theorem pright (ns : List Int) (A : Option Addr) (m c : Nat) (hm : m = ns.length) (hl : ns.length ≤ 1000) {w : World} (hR : Rd w A (ns.map i64)) : Calls Try.prog 26 #[.slice A m c] w (Gives (.bool (Note.nums ns)) [] w) := by
  subst hm
  have lz32 : (List.replicate 32 (0 : UInt8)).length = 32 := List.length_replicate
  refine enterL (args := [.slice A ns.length c]) Try.func26 rfl rfl (l := []) (Sep.refl _) ?_
  intro a0 H0
  refine wp_seq ?_
  refine reg ?_
  refine plain (y_assign rfl rfl) rfl rfl rfl H0 ?_
  clear H0; intro a1 H1
  refine fin ?_
  refine then_n ?_
  refine wp_seq ?_
  refine wp_seq ?_
  refine reg ?_
  refine plain (y_move rfl rfl) rfl rfl rfl H1 ?_
  clear H1; intro a2 H2
  refine plain (y_len rfl Try.underlying23 rfl) rfl rfl rfl H2 ?_
  clear H2; intro a3 H3
  refine plain (y_move rfl rfl) rfl rfl rfl H3 ?_
  clear H3; intro a4 H4
  refine fin ?_
  refine then_n ?_
  refine wp_block ?_
  refine loop (ι := Nat) (fun k => [(0, .slice A ns.length c), (5, .slice A ns.length c), (6, .int .i64 (ns.length : Int)), (7, .int .i64 (k : Int))]) (fun k => []) (fun k => k ≤ ns.length ∧ (ns.take k).all Note.okNum = true) (fun k => ns.length - k) (0) ⟨Nat.zero_le _, rfl⟩ (H4.weak ⟨rfl, rfl, rfl, rfl, trivial⟩ rfl) ?_
  clear H4; intro k a5 wx5 hok5 H5
  have hok := hok5
  refine wp_seq ?_
  refine reg ?_
  refine plain (y_lss rfl rfl rfl) rfl rfl rfl H5 ?_
  clear H5; intro a6 H6
  refine fin ?_
  refine then_n ?_
  refine wp_seq ?_
  refine cnd H6 rfl (fun hc7 => ?_) (fun hc7 => ?_) -- cond 1
  · skip
    try simp only [decide_eq_true_eq, decide_eq_false_iff_not, Bool.not_eq_true', Bool.not_eq_false', Bool.and_eq_true, Bool.not_eq_true, Bool.not_eq_false] at hc7
    refine wp_skip ?_
    refine then_n ?_
    refine wp_seq ?_
    refine wp_block ?_
    refine wp_seq ?_
    refine reg ?_
    refine plain (y_ixR rfl Try.underlying23 z_size3 rfl rfl (by omega) (by omega) (rd_old (by assumption) (by simp)) (by rw [List.length_map]; omega)) rfl rfl rfl H6 ?_
    clear H6; intro a8 H8
    refine plain (y_loadR rfl z_agg3 rfl (rd_old (by assumption) (by simp)) (by rw [Nat.mul_one]; exact i64_get ns (k : Int).toNat (by omega))) rfl rfl rfl H8 ?_
    clear H8; intro a9 H9
    refine plain (y_assign rfl rfl) rfl rfl rfl H9 ?_
    clear H9; intro a10 H10
    refine fin ?_
    refine then_n ?_
    refine wp_seq ?_
    refine reg ?_
    refine plain (y_move rfl rfl) rfl rfl rfl H10 ?_
    clear H10; intro a11 H11
    refine plain (y_lss rfl rfl rfl) rfl rfl rfl H11 ?_
    clear H11; intro a12 H12
    refine plain (y_move rfl rfl) rfl rfl rfl H12 ?_
    clear H12; intro a13 H13
    refine Sx.part (d := 13) H13 rfl (fun hg14 => ?_) (fun hg14 => ?_)
    · first
      | fail
      | skip
        clear H13; intro H15
        try simp only [decide_eq_true_eq, decide_eq_false_iff_not, Bool.not_eq_true', Bool.not_eq_false', Bool.and_eq_true, Bool.not_eq_true, Bool.not_eq_false] at hg14
        refine skip rfl rfl rfl H15 ?_
        clear H15; intro a16 H16
        refine skip rfl rfl rfl H16 ?_
        clear H16; intro a17 H17
        refine plain (y_pick_t rfl rfl rfl) rfl rfl rfl H17 ?_
        clear H17; intro a18 H18
        refine fin ?_
        refine then_n ?_
        refine cnd_t H18 rfl ?_
        refine wp_seq ?_
        refine reg ?_
        refine plain (y_assign rfl rfl) rfl rfl rfl H18 ?_
        clear H18; intro a20 H20
        refine fin ?_
        refine then_n ?_
        refine wp_ret ?_
        refine inb_r ?_
        refine then_r ?_
        refine then_r ?_
        refine inb_r ?_
        refine then_r ?_
        -- return 1
        refine ret1 rfl H20 rfl ?_
        exact ⟨_, [], rfl, ⟨by rw [Note.nums_bad (k := k) (by omega) (by simp only [Int.toNat_natCast] at *; omega)], rfl⟩, H20.sep.sub (List.nil_sublist _)⟩
    · first
      | fail
      | skip
        clear H13; intro H21
        try simp only [decide_eq_true_eq, decide_eq_false_iff_not, Bool.not_eq_true', Bool.not_eq_false', Bool.and_eq_true, Bool.not_eq_true, Bool.not_eq_false] at hg14
        refine plain (y_move rfl rfl) rfl rfl rfl H21 ?_
        clear H21; intro a22 H22
        refine plain (y_gtr rfl rfl rfl) rfl rfl rfl H22 ?_
        clear H22; intro a23 H23
        refine plain (y_pick_f rfl rfl rfl) rfl rfl rfl H23 ?_
        clear H23; intro a24 H24
        refine fin ?_
        refine then_n ?_
        refine cnd H24 rfl (fun hc25 => ?_) (fun hc25 => ?_) -- cond 3
        · skip
          try simp only [decide_eq_true_eq, decide_eq_false_iff_not, Bool.not_eq_true', Bool.not_eq_false', Bool.and_eq_true, Bool.not_eq_true, Bool.not_eq_false] at hc25
          refine wp_seq ?_
          refine reg ?_
          refine plain (y_assign rfl rfl) rfl rfl rfl H24 ?_
          clear H24; intro a26 H26
          refine fin ?_
          refine then_n ?_
          refine wp_ret ?_
          refine inb_r ?_
          refine then_r ?_
          refine then_r ?_
          refine inb_r ?_
          refine then_r ?_
          -- return 2
          refine ret1 rfl H26 rfl ?_
          exact ⟨_, [], rfl, ⟨by rw [Note.nums_bad (k := k) (by omega) (by simp only [Int.toNat_natCast] at *; omega)], rfl⟩, H26.sep.sub (List.nil_sublist _)⟩
        · skip
          try simp only [decide_eq_true_eq, decide_eq_false_iff_not, Bool.not_eq_true', Bool.not_eq_false', Bool.and_eq_true, Bool.not_eq_true, Bool.not_eq_false] at hc25
          refine wp_skip ?_
          refine inb_n ?_
          refine then_n ?_
          refine reg ?_
          refine plain (y_add rfl rfl rfl (by first | exact w64 (by omega) (by omega) | rfl)) rfl rfl rfl H24 ?_
          clear H24; intro a27 H27
          refine plain (y_move rfl rfl) rfl rfl rfl H27 ?_
          clear H27; intro a28 H28
          refine fin ?_
          refine then_n ?_
          refine ⟨k + 1, by omega, ⟨by omega, Note.take_all 0 (by omega) hok.2 ?_⟩, H28.weak ⟨rfl, rfl, rfl, fi rfl (by omega), trivial⟩ rfl⟩
          simp only [Int.toNat_natCast, Note.okNum, decide_eq_true_eq] at *
          omega
  · skip
    try simp only [decide_eq_true_eq, decide_eq_false_iff_not, Bool.not_eq_true', Bool.not_eq_false', Bool.and_eq_true, Bool.not_eq_true, Bool.not_eq_false] at hc7
    refine wp_exit ?_
    refine then_x ?_
    refine then_x ?_
    refine inb_hit ?_
    refine then_n ?_
    refine wp_seq ?_
    refine reg ?_
    refine plain (y_assign rfl rfl) rfl rfl rfl H6 ?_
    clear H6; intro a29 H29
    refine fin ?_
    refine then_n ?_
    refine wp_ret ?_
    -- return 3
    refine ret1 rfl H29 rfl ?_
    exact ⟨_, [], rfl, ⟨by rw [Note.nums_all (k := k) (by omega) hok.2], rfl⟩, H29.sep.sub (List.nil_sublist _)⟩

end Go.Proofs.Ytbdkgmkaakoigaa.P_K

set_option linter.unusedVariables false
set_option linter.unusedSimpArgs false
namespace Go.Proofs.Ytbdkgmkaakoigaa.P_Pst
open Go.Sx Go.RowKit

theorem z_field63_1 : fieldB Try.prog 63 1 = some 1 := by kernel_rfl
theorem z_agg30 : aggB Try.prog 30 = some false := by kernel_rfl
theorem z_size38 : sizeB Try.prog 38 = some 76 := by kernel_rfl
theorem z_agg38 : aggB Try.prog 38 = some true := by kernel_rfl
theorem z_zeroN38 : zeroL Try.prog 38 = some ((.int .i64 0 :: (.int .i64 0 :: (.int .i64 0 :: (.int .i64 0 :: (.string ⟨#[]⟩ :: (.bool false :: (.int .i64 0 :: (.int .i64 0 :: ((List.replicate 32 (0 : UInt8)).map u8 ++ ((List.replicate 32 (0 : UInt8)).map u8 ++ (.int .i64 0 :: (.int .i64 0 :: (.int .i64 0 :: (.int .i64 0 :: []))))))))))))))) := by kernel_rfl
theorem q_one_c8b32b32c4 {a0 a1 a2 a3 a4 a5 a6 a7 a10 a11 a12 a13 : Value} {t8 t9 : List UInt8} (o0 : a0.oneCell' = true) (o1 : a1.oneCell' = true) (o2 : a2.oneCell' = true) (o3 : a3.oneCell' = true) (o4 : a4.oneCell' = true) (o5 : a5.oneCell' = true) (o6 : a6.oneCell' = true) (o7 : a7.oneCell' = true) (o10 : a10.oneCell' = true) (o11 : a11.oneCell' = true) (o12 : a12.oneCell' = true) (o13 : a13.oneCell' = true) : (a0 :: a1 :: a2 :: a3 :: a4 :: a5 :: a6 :: a7 :: (t8.map u8 ++ ((t9.map u8 ++ (a10 :: a11 :: a12 :: a13 :: []))))).all (·.oneCell') = true := (one_c o0 (one_c o1 (one_c o2 (one_c o3 (one_c o4 (one_c o5 (one_c o6 (one_c o7 (one_b (one_b (one_c o10 (one_c o11 (one_c o12 (one_c o13 one_n))))))))))))))
theorem q_len_c8b32b32c4 {a0 a1 a2 a3 a4 a5 a6 a7 a10 a11 a12 a13 : Value} {t8 t9 : List UInt8} (h8 : t8.length = 32) (h9 : t9.length = 32) : (a0 :: a1 :: a2 :: a3 :: a4 :: a5 :: a6 :: a7 :: (t8.map u8 ++ ((t9.map u8 ++ (a10 :: a11 :: a12 :: a13 :: []))))).length = 76 := (len_c (n := 75) (len_c (n := 74) (len_c (n := 73) (len_c (n := 72) (len_c (n := 71) (len_c (n := 70) (len_c (n := 69) (len_c (n := 68) (len_b (k := 32) (n := 36) h8 (len_b (k := 32) (n := 4) h9 (len_c (n := 3) (len_c (n := 2) (len_c (n := 1) (len_c (n := 0) len_n))))))))))))))
theorem q_spl_c8b32b32c4_0_c8b32b32c4 {a0 a1 a2 a3 a4 a5 a6 a7 a10 a11 a12 a13 : Value} {t8 t9 : List UInt8} {b0 b1 b2 b3 b4 b5 b6 b7 b10 b11 b12 b13 : Value} {s8 s9 : List UInt8} (h8 : t8.length = 32) (h9 : t9.length = 32) (g8 : s8.length = 32) (g9 : s9.length = 32) : spl (a0 :: a1 :: a2 :: a3 :: a4 :: a5 :: a6 :: a7 :: (t8.map u8 ++ ((t9.map u8 ++ (a10 :: a11 :: a12 :: a13 :: []))))) 0 (b0 :: b1 :: b2 :: b3 :: b4 :: b5 :: b6 :: b7 :: (s8.map u8 ++ ((s9.map u8 ++ (b10 :: b11 :: b12 :: b13 :: []))))) = b0 :: b1 :: b2 :: b3 :: b4 :: b5 :: b6 :: b7 :: (s8.map u8 ++ ((s9.map u8 ++ (b10 :: b11 :: b12 :: b13 :: [])))) := (spl_a (z := 76) (len_c (n := 75) (len_c (n := 74) (len_c (n := 73) (len_c (n := 72) (len_c (n := 71) (len_c (n := 70) (len_c (n := 69) (len_c (n := 68) (len_b (k := 32) (n := 36) h8 (len_b (k := 32) (n := 4) h9 (len_c (n := 3) (len_c (n := 2) (len_c (n := 1) (len_c (n := 0) len_n)))))))))))))) (len_c (n := 75) (len_c (n := 74) (len_c (n := 73) (len_c (n := 72) (len_c (n := 71) (len_c (n := 70) (len_c (n := 69) (len_c (n := 68) (len_b (k := 32) (n := 36) g8 (len_b (k := 32) (n := 4) g9 (len_c (n := 3) (len_c (n := 2) (len_c (n := 1) (len_c (n := 0) len_n)))))))))))))))
theorem z_field38_0 : fieldB Try.prog 38 0 = some 0 := by kernel_rfl
theorem z_field36_2 : fieldB Try.prog 36 2 = some 2 := by kernel_rfl
theorem z_agg3 : aggB Try.prog 3 = some false := by kernel_rfl
theorem q_ix_c8b32b32c4_2 {a0 a1 a2 a3 a4 a5 a6 a7 a10 a11 a12 a13 : Value} {t8 t9 : List UInt8} : (a0 :: a1 :: a2 :: a3 :: a4 :: a5 :: a6 :: a7 :: (t8.map u8 ++ ((t9.map u8 ++ (a10 :: a11 :: a12 :: a13 :: [])))))[2]? = some a2 := (ix_c (o := 1) (ix_c (o := 0) ix_0))
theorem z_field38_1 : fieldB Try.prog 38 1 = some 72 := by kernel_rfl
theorem q_ix_c8b32b32c4_72 {a0 a1 a2 a3 a4 a5 a6 a7 a10 a11 a12 a13 : Value} {t8 t9 : List UInt8} (h8 : t8.length = 32) (h9 : t9.length = 32) : (a0 :: a1 :: a2 :: a3 :: a4 :: a5 :: a6 :: a7 :: (t8.map u8 ++ ((t9.map u8 ++ (a10 :: a11 :: a12 :: a13 :: [])))))[72]? = some a10 := (ix_c (o := 71) (ix_c (o := 70) (ix_c (o := 69) (ix_c (o := 68) (ix_c (o := 67) (ix_c (o := 66) (ix_c (o := 65) (ix_c (o := 64) (ix_b (k := 32) (o := 32) h8 rfl (ix_b (k := 32) (o := 0) h9 rfl ix_0))))))))))

set_option maxRecDepth 100000 in
set_option maxHeartbeats 2000000 in
theorem ppoorest (L : List Pool.Wait) (hL : Pool.Wfs L) (hs : L.Pairwise fun a b => a.index < b.index) (size : Int) (bp : Nat) (A : Option Addr) (cc : Nat) (h0 : 0 < L.length) (hlen : L.length ≤ 1000) {w : World} (hp : (It.blk bp 63 [i64 size, (.slice A L.length cc)]).P w) (hR : Rd w A (Pool.wc L)) : Calls Try.prog 27 #[.pointer (some ⟨bp, 0, none⟩)] w (Gives (.int .i64 ((Pool.poorest L L.length : Nat) : Int)) [] w) := by
  have lz32 : (List.replicate 32 (0 : UInt8)).length = 32 := List.length_replicate
  refine enterL (args := [.pointer (some ⟨bp, 0, none⟩)]) Try.func27 rfl rfl (l := []) (Sep.refl _) ?_
  intro a0 H0
  refine wp_seq ?_
  refine reg ?_
  refine plain (y_assign rfl rfl) rfl rfl rfl H0 ?_
  clear H0; intro a1 H1
  refine fin ?_
  refine then_n ?_
  refine wp_seq ?_
  refine reg ?_
  refine plain (y_assign rfl rfl) rfl rfl rfl H1 ?_
  clear H1; intro a2 H2
  refine fin ?_
  refine then_n ?_
  refine wp_seq ?_
  refine wp_seq ?_
  refine reg ?_
  refine plain (y_move rfl rfl) rfl rfl rfl H2 ?_
  clear H2; intro a3 H3
  refine plain (y_nilCheck rfl rfl) rfl rfl rfl H3 ?_
  clear H3; intro a4 H4
  refine plain (y_fieldB rfl z_field63_1 rfl (by first | (simp only [Nat.zero_add, Nat.add_zero, Nat.reduceAdd]; rfl) | rfl)) rfl rfl rfl H4 ?_
  clear H4; intro a5 H5
  refine plain (y_loadO rfl z_agg30 rfl (blk_cell hp (by rfl)) (by simp)) rfl rfl rfl H5 ?_
  clear H5; intro a6 H6
  refine plain (y_len rfl Try.underlying30 rfl) rfl rfl rfl H6 ?_
  clear H6; intro a7 H7
  refine plain (y_move rfl rfl) rfl rfl rfl H7 ?_
  clear H7; intro a8 H8
  refine fin ?_
  refine then_n ?_
  refine wp_block ?_
  refine loop (ι := Nat) (fun k => [(0, .pointer (some ⟨bp, 0, none⟩)), (3, .int .i64 (((Pool.poorest L k) : Nat) : Int)), (9, (.slice A L.length cc)), (10, .int .i64 (L.length : Int)), (11, .int .i64 (k : Int))]) (fun k => []) (fun k => k ≤ L.length) (fun k => L.length - k) (0) (Nat.zero_le _) (H8.weak ⟨rfl, rfl, rfl, rfl, rfl, trivial⟩ rfl) ?_
  clear H8; intro k a9 wx9 hok9 H9
  have hok := hok9
  have hpi := Pool.poorest_in hok h0
  refine wp_seq ?_
  refine reg ?_
  refine plain (y_lss rfl rfl rfl) rfl rfl rfl H9 ?_
  clear H9; intro a10 H10
  refine fin ?_
  refine then_n ?_
  refine wp_seq ?_
  refine cnd H10 rfl (fun hc11 => ?_) (fun hc11 => ?_) -- cond 1
  · skip
    try simp only [decide_eq_true_eq, decide_eq_false_iff_not, Bool.not_eq_true', Bool.not_eq_false', Bool.and_eq_true, Bool.not_eq_true, Bool.not_eq_false] at hc11
    refine wp_skip ?_
    refine then_n ?_
    refine wp_seq ?_
    refine wp_block ?_
    refine wp_seq ?_
    have hkl : k < L.length := by omega
    have hwk := hL.at_ hkl
    have whd := hwk.tx.hand
    have wtg := hwk.tx.tag
    refine reg ?_
    refine plain (y_move rfl rfl) rfl rfl rfl H10 ?_
    clear H10; intro a12 H12
    refine plain (y_ixR rfl Try.underlying30 z_size38 rfl rfl (by omega) (by omega) (rd_old hR (by simp)) (by rw [Pool.wc_len hL]; omega)) rfl rfl rfl H12 ?_
    clear H12; intro a13 H13
    refine plain (y_loadAS rfl z_agg38 z_size38 rfl (rd_old hR (by simp)) (show _ = Pool.Wait.cells (L.getD k Pool.Wait.zero) from Pool.wc_take hL k (by omega)) hwk.len (by decide)) rfl rfl rfl H13 ?_
    clear H13; intro a14 H14
    refine st_alloc rfl z_zeroN38 rfl rfl rfl H14 ?_
    clear H14; intro b15 a15 wx15 H15
    refine plain (y_assign rfl rfl) rfl rfl rfl H15 ?_
    clear H15; intro a16 H16
    refine st_storeN rfl z_size38 rfl rfl (agg_cells _) (by repeat (first | exact Uh | apply Ut)) (q_one_c8b32b32c4 rfl rfl rfl rfl rfl rfl rfl rfl rfl rfl rfl rfl) (q_len_c8b32b32c4 (by assumption) (by assumption)) (q_len_c8b32b32c4 (by assumption) (by assumption)) (q_spl_c8b32b32c4_0_c8b32b32c4 (by assumption) (by assumption) (by assumption) (by assumption)) (by decide) rfl rfl H16 ?_
    clear H16; intro wx17 H17
    refine fin ?_
    refine then_n ?_
    refine wp_seq ?_
    refine qreg (by kernel_rfl) (by kernel_rfl) H17 ?_
    have F18 := H17.fr
    clear H17
    refine qplain (y_fieldB rfl z_field38_0 rfl (by first | (simp only [Nat.zero_add, Nat.add_zero, Nat.reduceAdd]; rfl) | rfl)) rfl rfl rfl F18 ?_
    clear F18; intro a19 H19
    refine qplain (y_fieldB rfl z_field36_2 rfl (by first | (simp only [Nat.zero_add, Nat.add_zero, Nat.reduceAdd]; rfl) | rfl)) rfl rfl rfl H19 ?_
    clear H19; intro a20 H20
    refine qplain (y_loadB rfl z_agg3 rfl (by repeat (first | exact Mh | apply Mt)) q_ix_c8b32b32c4_2) rfl rfl rfl H20 ?_
    clear H20; intro a21 H21
    refine qplain (y_move rfl rfl) rfl rfl rfl H21 ?_
    clear H21; intro a22 H22
    refine qplain (y_nilCheck rfl rfl) rfl rfl rfl H22 ?_
    clear H22; intro a23 H23
    refine qplain (y_fieldB rfl z_field63_1 rfl (by first | (simp only [Nat.zero_add, Nat.add_zero, Nat.reduceAdd]; rfl) | rfl)) rfl rfl rfl H23 ?_
    clear H23; intro a24 H24
    refine qplain (y_loadO rfl z_agg30 rfl (blk_cell hp (by rfl)) (by simp)) rfl rfl rfl H24 ?_
    clear H24; intro a25 H25
    refine qplain (y_move rfl rfl) rfl rfl rfl H25 ?_
    clear H25; intro a26 H26
    refine qplain (y_ixR rfl Try.underlying30 z_size38 rfl rfl (by omega) (by omega) (rd_old hR (by simp)) (by rw [Pool.wc_len hL]; omega)) rfl rfl rfl H26 ?_
    clear H26; intro a27 H27
    refine qplain (y_fieldS rfl z_field38_0 rfl (rd_old hR (by simp)) (by rw [Pool.wc_len hL]; omega)) rfl rfl rfl H27 ?_
    clear H27; intro a28 H28
    refine qplain (y_fieldS rfl z_field36_2 rfl (rd_old hR (by simp)) (by rw [Pool.wc_len hL]; omega)) rfl rfl rfl H28 ?_
    clear H28; intro a29 H29
    refine qplain (y_loadR rfl z_agg3 rfl (rd_old hR (by simp)) (by simp only [Int.toNat_natCast, Nat.zero_add, Nat.add_zero]; exact (show _ = some (i64 (L.getD (Pool.poorest L k) Pool.Wait.zero).tx.fee) from Pool.wc_at (c := 2) hL (by omega) (by omega)))) rfl rfl rfl H29 ?_
    clear H29; intro a30 H30
    refine qplain (y_lss rfl rfl rfl) rfl rfl rfl H30 ?_
    clear H30; intro a31 H31
    refine qplain (y_move rfl rfl) rfl rfl rfl H31 ?_
    clear H31; intro a32 H32
    refine qpart (d := 29) H32 rfl (fun hg33 => ?_) (fun hg33 => ?_)
    · first
      | fail
      | skip
        clear H32; intro H34
        try simp only [decide_eq_true_eq, decide_eq_false_iff_not, Bool.not_eq_true', Bool.not_eq_false', Bool.and_eq_true, Bool.not_eq_true, Bool.not_eq_false] at hg33
        refine qskip rfl rfl rfl H34 ?_
        clear H34; intro a35 H35
        refine qskip rfl rfl rfl H35 ?_
        clear H35; intro a36 H36
        refine qskip rfl rfl rfl H36 ?_
        clear H36; intro a37 H37
        refine qskip rfl rfl rfl H37 ?_
        clear H37; intro a38 H38
        refine qskip rfl rfl rfl H38 ?_
        clear H38; intro a39 H39
        refine qskip rfl rfl rfl H39 ?_
        clear H39; intro a40 H40
        refine qskip rfl rfl rfl H40 ?_
        clear H40; intro a41 H41
        refine qskip rfl rfl rfl H41 ?_
        clear H41; intro a42 H42
        refine qskip rfl rfl rfl H42 ?_
        clear H42; intro a43 H43
        refine qskip rfl rfl rfl H43 ?_
        clear H43; intro a44 H44
        refine qskip rfl rfl rfl H44 ?_
        clear H44; intro a45 H45
        refine qskip rfl rfl rfl H45 ?_
        clear H45; intro a46 H46
        refine qskip rfl rfl rfl H46 ?_
        clear H46; intro a47 H47
        refine qskip rfl rfl rfl H47 ?_
        clear H47; intro a48 H48
        refine qskip rfl rfl rfl H48 ?_
        clear H48; intro a49 H49
        refine qskip rfl rfl rfl H49 ?_
        clear H49; intro a50 H50
        refine qskip rfl rfl rfl H50 ?_
        clear H50; intro a51 H51
        refine qskip rfl rfl rfl H51 ?_
        clear H51; intro a52 H52
        refine qskip rfl rfl rfl H52 ?_
        clear H52; intro a53 H53
        refine qskip rfl rfl rfl H53 ?_
        clear H53; intro a54 H54
        refine qskip rfl rfl rfl H54 ?_
        clear H54; intro a55 H55
        refine qskip rfl rfl rfl H55 ?_
        clear H55; intro a56 H56
        refine qskip rfl rfl rfl H56 ?_
        clear H56; intro a57 H57
        refine qskip rfl rfl rfl H57 ?_
        clear H57; intro a58 H58
        refine qskip rfl rfl rfl H58 ?_
        clear H58; intro a59 H59
        refine qskip rfl rfl rfl H59 ?_
        clear H59; intro a60 H60
        refine qplain (y_pick_t rfl rfl rfl) rfl rfl rfl H60 ?_
        clear H60; intro a61 H61
        refine qfin H61 ?_
        clear H61; intro wx62 H62
        refine then_n ?_
        refine cnd_t H62 rfl ?_
        have isYes := True.intro
        refine reg ?_
        refine plain (y_move rfl rfl) rfl rfl rfl H62 ?_
        clear H62; intro a64 H64
        refine plain (y_assign rfl rfl) rfl rfl rfl H64 ?_
        clear H64; intro a65 H65
        refine fin ?_
        refine inb_n ?_
        refine then_n ?_
        refine reg ?_
        refine plain (y_add rfl rfl rfl (by first | exact w64 (by omega) (by omega) | rfl)) rfl rfl rfl H65 ?_
        clear H65; intro a66 H66
        refine plain (y_move rfl rfl) rfl rfl rfl H66 ?_
        clear H66; intro a67 H67
        refine fin ?_
        refine then_n ?_
        first | (have hz := isYes; refine ⟨k + 1, by omega, by omega, (H67.drop (List.nil_sublist _)).weak ⟨rfl, fi rfl (by rw [Pool.poorest_y (by first | (left; assumption) | (right; constructor <;> assumption))]), rfl, rfl, fi rfl (by omega), trivial⟩ rfl⟩) | (refine ⟨k + 1, by omega, by omega, (H67.drop (List.nil_sublist _)).weak ⟨rfl, fi rfl (by rw [Pool.poorest_n hs hkl (by omega)]), rfl, rfl, fi rfl (by omega), trivial⟩ rfl⟩)
    · first
      | fail
      | skip
        clear H32; intro H68
        try simp only [decide_eq_true_eq, decide_eq_false_iff_not, Bool.not_eq_true', Bool.not_eq_false', Bool.and_eq_true, Bool.not_eq_true, Bool.not_eq_false] at hg33
        refine qplain (y_fieldB rfl z_field38_0 rfl (by first | (simp only [Nat.zero_add, Nat.add_zero, Nat.reduceAdd]; rfl) | rfl)) rfl rfl rfl H68 ?_
        clear H68; intro a69 H69
        refine qplain (y_fieldB rfl z_field36_2 rfl (by first | (simp only [Nat.zero_add, Nat.add_zero, Nat.reduceAdd]; rfl) | rfl)) rfl rfl rfl H69 ?_
        clear H69; intro a70 H70
        refine qplain (y_loadB rfl z_agg3 rfl (by repeat (first | exact Mh | apply Mt)) q_ix_c8b32b32c4_2) rfl rfl rfl H70 ?_
        clear H70; intro a71 H71
        refine qplain (y_move rfl rfl) rfl rfl rfl H71 ?_
        clear H71; intro a72 H72
        refine qplain (y_nilCheck rfl rfl) rfl rfl rfl H72 ?_
        clear H72; intro a73 H73
        refine qplain (y_fieldB rfl z_field63_1 rfl (by first | (simp only [Nat.zero_add, Nat.add_zero, Nat.reduceAdd]; rfl) | rfl)) rfl rfl rfl H73 ?_
        clear H73; intro a74 H74
        refine qplain (y_loadO rfl z_agg30 rfl (blk_cell hp (by rfl)) (by simp)) rfl rfl rfl H74 ?_
        clear H74; intro a75 H75
        refine qplain (y_move rfl rfl) rfl rfl rfl H75 ?_
        clear H75; intro a76 H76
        refine qplain (y_ixR rfl Try.underlying30 z_size38 rfl rfl (by omega) (by omega) (rd_old hR (by simp)) (by rw [Pool.wc_len hL]; omega)) rfl rfl rfl H76 ?_
        clear H76; intro a77 H77
        refine qplain (y_fieldS rfl z_field38_0 rfl (rd_old hR (by simp)) (by rw [Pool.wc_len hL]; omega)) rfl rfl rfl H77 ?_
        clear H77; intro a78 H78
        refine qplain (y_fieldS rfl z_field36_2 rfl (rd_old hR (by simp)) (by rw [Pool.wc_len hL]; omega)) rfl rfl rfl H78 ?_
        clear H78; intro a79 H79
        refine qplain (y_loadR rfl z_agg3 rfl (rd_old hR (by simp)) (by simp only [Int.toNat_natCast, Nat.zero_add, Nat.add_zero]; exact (show _ = some (i64 (L.getD (Pool.poorest L k) Pool.Wait.zero).tx.fee) from Pool.wc_at (c := 2) hL (by omega) (by omega)))) rfl rfl rfl H79 ?_
        clear H79; intro a80 H80
        refine qplain (y_eql rfl rfl rfl) rfl rfl rfl H80 ?_
        clear H80; intro a81 H81
        refine qplain (y_move rfl rfl) rfl rfl rfl H81 ?_
        clear H81; intro a82 H82
        refine qpart (d := 43) H82 rfl (fun hg83 => ?_) (fun hg83 => ?_)
        · first
          | fail
          | skip
            clear H82; intro H84
            try simp only [decide_eq_true_eq, decide_eq_false_iff_not, Bool.not_eq_true', Bool.not_eq_false', Bool.and_eq_true, Bool.not_eq_true, Bool.not_eq_false] at hg83
            refine qplain (y_fieldB rfl z_field38_1 rfl (by first | (simp only [Nat.zero_add, Nat.add_zero, Nat.reduceAdd]; rfl) | rfl)) rfl rfl rfl H84 ?_
            clear H84; intro a85 H85
            refine qplain (y_loadB rfl z_agg3 rfl (by repeat (first | exact Mh | apply Mt)) (q_ix_c8b32b32c4_72 (by assumption) (by assumption))) rfl rfl rfl H85 ?_
            clear H85; intro a86 H86
            refine qplain (y_move rfl rfl) rfl rfl rfl H86 ?_
            clear H86; intro a87 H87
            refine qplain (y_nilCheck rfl rfl) rfl rfl rfl H87 ?_
            clear H87; intro a88 H88
            refine qplain (y_fieldB rfl z_field63_1 rfl (by first | (simp only [Nat.zero_add, Nat.add_zero, Nat.reduceAdd]; rfl) | rfl)) rfl rfl rfl H88 ?_
            clear H88; intro a89 H89
            refine qplain (y_loadO rfl z_agg30 rfl (blk_cell hp (by rfl)) (by simp)) rfl rfl rfl H89 ?_
            clear H89; intro a90 H90
            refine qplain (y_move rfl rfl) rfl rfl rfl H90 ?_
            clear H90; intro a91 H91
            refine qplain (y_ixR rfl Try.underlying30 z_size38 rfl rfl (by omega) (by omega) (rd_old hR (by simp)) (by rw [Pool.wc_len hL]; omega)) rfl rfl rfl H91 ?_
            clear H91; intro a92 H92
            refine qplain (y_fieldS rfl z_field38_1 rfl (rd_old hR (by simp)) (by rw [Pool.wc_len hL]; omega)) rfl rfl rfl H92 ?_
            clear H92; intro a93 H93
            refine qplain (y_loadR rfl z_agg3 rfl (rd_old hR (by simp)) (by simp only [Int.toNat_natCast, Nat.zero_add, Nat.add_zero]; exact (Pool.wc_at (c := 72) hL (by omega) (by omega)).trans (Pool.at_end (hL.at_ (by omega))).1)) rfl rfl rfl H93 ?_
            clear H93; intro a94 H94
            refine qplain (y_gtr rfl rfl rfl) rfl rfl rfl H94 ?_
            clear H94; intro a95 H95
            refine qplain (y_pick_t rfl rfl rfl) rfl rfl rfl H95 ?_
            clear H95; intro a96 H96
            refine qplain (y_pick_f rfl rfl rfl) rfl rfl rfl H96 ?_
            clear H96; intro a97 H97
            refine qfin H97 ?_
            clear H97; intro wx98 H98
            refine then_n ?_
            refine cnd H98 rfl (fun hc99 => ?_) (fun hc99 => ?_) -- cond 3
            · skip
              try simp only [decide_eq_true_eq, decide_eq_false_iff_not, Bool.not_eq_true', Bool.not_eq_false', Bool.and_eq_true, Bool.not_eq_true, Bool.not_eq_false] at hc99
              have isYes := True.intro
              refine reg ?_
              refine plain (y_move rfl rfl) rfl rfl rfl H98 ?_
              clear H98; intro a100 H100
              refine plain (y_assign rfl rfl) rfl rfl rfl H100 ?_
              clear H100; intro a101 H101
              refine fin ?_
              refine inb_n ?_
              refine then_n ?_
              refine reg ?_
              refine plain (y_add rfl rfl rfl (by first | exact w64 (by omega) (by omega) | rfl)) rfl rfl rfl H101 ?_
              clear H101; intro a102 H102
              refine plain (y_move rfl rfl) rfl rfl rfl H102 ?_
              clear H102; intro a103 H103
              refine fin ?_
              refine then_n ?_
              first | (have hz := isYes; refine ⟨k + 1, by omega, by omega, (H103.drop (List.nil_sublist _)).weak ⟨rfl, fi rfl (by rw [Pool.poorest_y (by first | (left; assumption) | (right; constructor <;> assumption))]), rfl, rfl, fi rfl (by omega), trivial⟩ rfl⟩) | (refine ⟨k + 1, by omega, by omega, (H103.drop (List.nil_sublist _)).weak ⟨rfl, fi rfl (by rw [Pool.poorest_n hs hkl (by omega)]), rfl, rfl, fi rfl (by omega), trivial⟩ rfl⟩)
            · skip
              try simp only [decide_eq_true_eq, decide_eq_false_iff_not, Bool.not_eq_true', Bool.not_eq_false', Bool.and_eq_true, Bool.not_eq_true, Bool.not_eq_false] at hc99
              refine wp_skip ?_
              refine inb_n ?_
              refine then_n ?_
              refine reg ?_
              refine plain (y_add rfl rfl rfl (by first | exact w64 (by omega) (by omega) | rfl)) rfl rfl rfl H98 ?_
              clear H98; intro a104 H104
              refine plain (y_move rfl rfl) rfl rfl rfl H104 ?_
              clear H104; intro a105 H105
              refine fin ?_
              refine then_n ?_
              first | (have hz := isYes; refine ⟨k + 1, by omega, by omega, (H105.drop (List.nil_sublist _)).weak ⟨rfl, fi rfl (by rw [Pool.poorest_y (by first | (left; assumption) | (right; constructor <;> assumption))]), rfl, rfl, fi rfl (by omega), trivial⟩ rfl⟩) | (refine ⟨k + 1, by omega, by omega, (H105.drop (List.nil_sublist _)).weak ⟨rfl, fi rfl (by rw [Pool.poorest_n hs hkl (by omega)]), rfl, rfl, fi rfl (by omega), trivial⟩ rfl⟩)
        · first
          | fail
          | skip
            clear H82; intro H106
            try simp only [decide_eq_true_eq, decide_eq_false_iff_not, Bool.not_eq_true', Bool.not_eq_false', Bool.and_eq_true, Bool.not_eq_true, Bool.not_eq_false] at hg83
            refine qskip rfl rfl rfl H106 ?_
            clear H106; intro a107 H107
            refine qskip rfl rfl rfl H107 ?_
            clear H107; intro a108 H108
            refine qskip rfl rfl rfl H108 ?_
            clear H108; intro a109 H109
            refine qskip rfl rfl rfl H109 ?_
            clear H109; intro a110 H110
            refine qskip rfl rfl rfl H110 ?_
            clear H110; intro a111 H111
            refine qskip rfl rfl rfl H111 ?_
            clear H111; intro a112 H112
            refine qskip rfl rfl rfl H112 ?_
            clear H112; intro a113 H113
            refine qskip rfl rfl rfl H113 ?_
            clear H113; intro a114 H114
            refine qskip rfl rfl rfl H114 ?_
            clear H114; intro a115 H115
            refine qskip rfl rfl rfl H115 ?_
            clear H115; intro a116 H116
            refine qskip rfl rfl rfl H116 ?_
            clear H116; intro a117 H117
            refine qplain (y_pick_f rfl rfl rfl) rfl rfl rfl H117 ?_
            clear H117; intro a118 H118
            refine qplain (y_pick_f rfl rfl rfl) rfl rfl rfl H118 ?_
            clear H118; intro a119 H119
            refine qfin H119 ?_
            clear H119; intro wx120 H120
            refine then_n ?_
            refine cnd_f H120 rfl ?_
            refine wp_skip ?_
            refine inb_n ?_
            refine then_n ?_
            refine reg ?_
            refine plain (y_add rfl rfl rfl (by first | exact w64 (by omega) (by omega) | rfl)) rfl rfl rfl H120 ?_
            clear H120; intro a122 H122
            refine plain (y_move rfl rfl) rfl rfl rfl H122 ?_
            clear H122; intro a123 H123
            refine fin ?_
            refine then_n ?_
            first | (have hz := isYes; refine ⟨k + 1, by omega, by omega, (H123.drop (List.nil_sublist _)).weak ⟨rfl, fi rfl (by rw [Pool.poorest_y (by first | (left; assumption) | (right; constructor <;> assumption))]), rfl, rfl, fi rfl (by omega), trivial⟩ rfl⟩) | (refine ⟨k + 1, by omega, by omega, (H123.drop (List.nil_sublist _)).weak ⟨rfl, fi rfl (by rw [Pool.poorest_n hs hkl (by omega)]), rfl, rfl, fi rfl (by omega), trivial⟩ rfl⟩)
  · skip
    try simp only [decide_eq_true_eq, decide_eq_false_iff_not, Bool.not_eq_true', Bool.not_eq_false', Bool.and_eq_true, Bool.not_eq_true, Bool.not_eq_false] at hc11
    refine wp_exit ?_
    refine then_x ?_
    refine then_x ?_
    refine inb_hit ?_
    refine then_n ?_
    refine wp_seq ?_
    refine reg ?_
    refine plain (y_move rfl rfl) rfl rfl rfl H10 ?_
    clear H10; intro a124 H124
    refine plain (y_assign rfl rfl) rfl rfl rfl H124 ?_
    clear H124; intro a125 H125
    refine fin ?_
    refine then_n ?_
    refine wp_ret ?_
    -- return 1
    refine ret1 rfl H125 rfl ?_
    refine ⟨_, [], rfl, ⟨?_, rfl⟩, H125.sep.sub (List.nil_sublist _)⟩
    rw [show L.length = k by omega]

end Go.Proofs.Ytbdkgmkaakoigaa.P_Pst

set_option linter.unusedVariables false
set_option linter.unusedSimpArgs false
namespace Go.Proofs.Ytbdkgmkaakoigaa.P_Tk
open Go.Sx Go.RowKit

theorem z_zeroN38 : zeroL Try.prog 38 = some ((.int .i64 0 :: (.int .i64 0 :: (.int .i64 0 :: (.int .i64 0 :: (.string ⟨#[]⟩ :: (.bool false :: (.int .i64 0 :: (.int .i64 0 :: ((List.replicate 32 (0 : UInt8)).map u8 ++ ((List.replicate 32 (0 : UInt8)).map u8 ++ (.int .i64 0 :: (.int .i64 0 :: (.int .i64 0 :: (.int .i64 0 :: []))))))))))))))) := by kernel_rfl
theorem z_field63_1 : fieldB Try.prog 63 1 = some 1 := by kernel_rfl
theorem z_agg30 : aggB Try.prog 30 = some false := by kernel_rfl
theorem q_ix_c2_1 {a0 a1 : Value} : (a0 :: a1 :: [])[1]? = some a1 := (ix_c (o := 0) ix_0)
theorem z_size38 : sizeB Try.prog 38 = some 76 := by kernel_rfl
theorem z_agg38 : aggB Try.prog 38 = some true := by kernel_rfl
theorem q_one_c8b32b32c4 {a0 a1 a2 a3 a4 a5 a6 a7 a10 a11 a12 a13 : Value} {t8 t9 : List UInt8} (o0 : a0.oneCell' = true) (o1 : a1.oneCell' = true) (o2 : a2.oneCell' = true) (o3 : a3.oneCell' = true) (o4 : a4.oneCell' = true) (o5 : a5.oneCell' = true) (o6 : a6.oneCell' = true) (o7 : a7.oneCell' = true) (o10 : a10.oneCell' = true) (o11 : a11.oneCell' = true) (o12 : a12.oneCell' = true) (o13 : a13.oneCell' = true) : (a0 :: a1 :: a2 :: a3 :: a4 :: a5 :: a6 :: a7 :: (t8.map u8 ++ ((t9.map u8 ++ (a10 :: a11 :: a12 :: a13 :: []))))).all (·.oneCell') = true := (one_c o0 (one_c o1 (one_c o2 (one_c o3 (one_c o4 (one_c o5 (one_c o6 (one_c o7 (one_b (one_b (one_c o10 (one_c o11 (one_c o12 (one_c o13 one_n))))))))))))))
theorem q_len_c8b32b32c4 {a0 a1 a2 a3 a4 a5 a6 a7 a10 a11 a12 a13 : Value} {t8 t9 : List UInt8} (h8 : t8.length = 32) (h9 : t9.length = 32) : (a0 :: a1 :: a2 :: a3 :: a4 :: a5 :: a6 :: a7 :: (t8.map u8 ++ ((t9.map u8 ++ (a10 :: a11 :: a12 :: a13 :: []))))).length = 76 := (len_c (n := 75) (len_c (n := 74) (len_c (n := 73) (len_c (n := 72) (len_c (n := 71) (len_c (n := 70) (len_c (n := 69) (len_c (n := 68) (len_b (k := 32) (n := 36) h8 (len_b (k := 32) (n := 4) h9 (len_c (n := 3) (len_c (n := 2) (len_c (n := 1) (len_c (n := 0) len_n))))))))))))))
theorem q_spl_c8b32b32c4_0_c8b32b32c4 {a0 a1 a2 a3 a4 a5 a6 a7 a10 a11 a12 a13 : Value} {t8 t9 : List UInt8} {b0 b1 b2 b3 b4 b5 b6 b7 b10 b11 b12 b13 : Value} {s8 s9 : List UInt8} (h8 : t8.length = 32) (h9 : t9.length = 32) (g8 : s8.length = 32) (g9 : s9.length = 32) : spl (a0 :: a1 :: a2 :: a3 :: a4 :: a5 :: a6 :: a7 :: (t8.map u8 ++ ((t9.map u8 ++ (a10 :: a11 :: a12 :: a13 :: []))))) 0 (b0 :: b1 :: b2 :: b3 :: b4 :: b5 :: b6 :: b7 :: (s8.map u8 ++ ((s9.map u8 ++ (b10 :: b11 :: b12 :: b13 :: []))))) = b0 :: b1 :: b2 :: b3 :: b4 :: b5 :: b6 :: b7 :: (s8.map u8 ++ ((s9.map u8 ++ (b10 :: b11 :: b12 :: b13 :: [])))) := (spl_a (z := 76) (len_c (n := 75) (len_c (n := 74) (len_c (n := 73) (len_c (n := 72) (len_c (n := 71) (len_c (n := 70) (len_c (n := 69) (len_c (n := 68) (len_b (k := 32) (n := 36) h8 (len_b (k := 32) (n := 4) h9 (len_c (n := 3) (len_c (n := 2) (len_c (n := 1) (len_c (n := 0) len_n)))))))))))))) (len_c (n := 75) (len_c (n := 74) (len_c (n := 73) (len_c (n := 72) (len_c (n := 71) (len_c (n := 70) (len_c (n := 69) (len_c (n := 68) (len_b (k := 32) (n := 36) g8 (len_b (k := 32) (n := 4) g9 (len_c (n := 3) (len_c (n := 2) (len_c (n := 1) (len_c (n := 0) len_n)))))))))))))))
theorem z_zero38 : zeroL Try.prog 38 = some ([.int .i64 0, .int .i64 0, .int .i64 0, .int .i64 0, .string ⟨#[]⟩, .bool false, .int .i64 0, .int .i64 0, .int .u8 0, .int .u8 0, .int .u8 0, .int .u8 0, .int .u8 0, .int .u8 0, .int .u8 0, .int .u8 0, .int .u8 0, .int .u8 0, .int .u8 0, .int .u8 0, .int .u8 0, .int .u8 0, .int .u8 0, .int .u8 0, .int .u8 0, .int .u8 0, .int .u8 0, .int .u8 0, .int .u8 0, .int .u8 0, .int .u8 0, .int .u8 0, .int .u8 0, .int .u8 0, .int .u8 0, .int .u8 0, .int .u8 0, .int .u8 0, .int .u8 0, .int .u8 0, .int .u8 0, .int .u8 0, .int .u8 0, .int .u8 0, .int .u8 0, .int .u8 0, .int .u8 0, .int .u8 0, .int .u8 0, .int .u8 0, .int .u8 0, .int .u8 0, .int .u8 0, .int .u8 0, .int .u8 0, .int .u8 0, .int .u8 0, .int .u8 0, .int .u8 0, .int .u8 0, .int .u8 0, .int .u8 0, .int .u8 0, .int .u8 0, .int .u8 0, .int .u8 0, .int .u8 0, .int .u8 0, .int .u8 0, .int .u8 0, .int .u8 0, .int .u8 0, .int .i64 0, .int .i64 0, .int .i64 0, .int .i64 0]) := by kernel_rfl
theorem z_slice30 : sliceB Try.prog 30 = some (38, 76, 168) := by kernel_rfl
theorem z_notint30 : notIntB Try.prog 30 = true := by kernel_rfl
theorem z_size30 : sizeB Try.prog 30 = some 1 := by kernel_rfl
theorem q_len_c2 {a0 a1 : Value} : (a0 :: a1 :: []).length = 2 := (len_c (n := 1) (len_c (n := 0) len_n))
theorem q_set_c2_1 {a0 a1 : Value} {v : Value} : (a0 :: a1 :: []).set 1 v = a0 :: v :: [] := (set_c (o := 0) set_0)
theorem q_ld_c8b32b32c4_0_76 {a0 a1 a2 a3 a4 a5 a6 a7 a10 a11 a12 a13 : Value} {t8 t9 : List UInt8} (h8 : t8.length = 32) (h9 : t9.length = 32) : ((a0 :: a1 :: a2 :: a3 :: a4 :: a5 :: a6 :: a7 :: (t8.map u8 ++ ((t9.map u8 ++ (a10 :: a11 :: a12 :: a13 :: []))))).drop 0).take 76 = a0 :: a1 :: a2 :: a3 :: a4 :: a5 :: a6 :: a7 :: (t8.map u8 ++ ((t9.map u8 ++ (a10 :: a11 :: a12 :: a13 :: [])))) := (ld_a (len_c (n := 75) (len_c (n := 74) (len_c (n := 73) (len_c (n := 72) (len_c (n := 71) (len_c (n := 70) (len_c (n := 69) (len_c (n := 68) (len_b (k := 32) (n := 36) h8 (len_b (k := 32) (n := 4) h9 (len_c (n := 3) (len_c (n := 2) (len_c (n := 1) (len_c (n := 0) len_n)))))))))))))))

set_option maxRecDepth 100000 in
set_option maxHeartbeats 4000000 in
theorem ptake (L : List Pool.Wait) (hL : Pool.Wfs L) (size : Int) (bp : Nat) (v : Value) (i : Nat) (hi : i < L.length) (hlen : L.length ≤ 1000) {w : World} (hs : Sep (fps [It.row 38 76 v L.length (Pool.wc L), It.blk bp 63 [i64 size, v]]) w w [It.row 38 76 v L.length (Pool.wc L), It.blk bp 63 [i64 size, v]]) : Calls Try.prog 28 #[.pointer (some ⟨bp, 0, none⟩), .int .i64 (i : Int)] w (Post (fps [It.row 38 76 v L.length (Pool.wc L), It.blk bp 63 [i64 size, v]]) w fun u l' => u = .agg (Pool.Wait.cells (L.getD i Pool.Wait.zero)).toArray ∧ ∃ v', l' = [It.row 38 76 v' (L.eraseIdx i).length (Pool.wc (L.eraseIdx i)), It.blk bp 63 [i64 size, v']]) := by
  obtain ⟨A, cc, rfl, hRx, hmx⟩ := row_shape (v := v) hs (by repeat (first | exact Mh | apply Mt))
  have hcap := row_cap (A := A) (c := cc) hs (by repeat (first | exact Mh | apply Mt))
  have hwi := hL.at_ hi
  have whd := hwi.tx.hand
  have wtg := hwi.tx.tag
  have lz32 : (List.replicate 32 (0 : UInt8)).length = 32 := List.length_replicate
  refine enterL (args := [.pointer (some ⟨bp, 0, none⟩), .int .i64 (i : Int)]) Try.func28 rfl rfl (l := [It.row 38 76 (.slice A L.length cc) L.length (Pool.wc L), It.blk bp 63 [i64 size, (.slice A L.length cc)]]) hs ?_
  intro a0 H0
  refine wp_seq ?_
  refine reg ?_
  refine st_alloc rfl z_zeroN38 rfl rfl rfl H0 ?_
  clear H0; intro b1 a1 wx1 H1
  refine fin ?_
  refine then_n ?_
  refine wp_seq ?_
  refine reg ?_
  refine plain (y_move rfl rfl) rfl rfl rfl H1 ?_
  clear H1; intro a2 H2
  refine plain (y_nilCheck rfl rfl) rfl rfl rfl H2 ?_
  clear H2; intro a3 H3
  refine plain (y_fieldB rfl z_field63_1 rfl (by first | (simp only [Nat.zero_add, Nat.add_zero, Nat.reduceAdd]; rfl) | rfl)) rfl rfl rfl H3 ?_
  clear H3; intro a4 H4
  refine plain (y_loadB rfl z_agg30 rfl (by repeat (first | exact Mh | apply Mt)) q_ix_c2_1) rfl rfl rfl H4 ?_
  clear H4; intro a5 H5
  refine plain (y_move rfl rfl) rfl rfl rfl H5 ?_
  clear H5; intro a6 H6
  refine plain (y_ixR rfl Try.underlying30 z_size38 rfl rfl (by omega) (by omega) (rd_row (by repeat (first | exact Mh | apply Mt))) (by rw [Pool.wc_len hL]; omega)) rfl rfl rfl H6 ?_
  clear H6; intro a7 H7
  refine plain (y_loadAS rfl z_agg38 z_size38 rfl (rd_row (by repeat (first | exact Mh | apply Mt))) (show _ = Pool.Wait.cells (L.getD i Pool.Wait.zero) from Pool.wc_take hL i hi) hwi.len (by decide)) rfl rfl rfl H7 ?_
  clear H7; intro a8 H8
  refine st_alloc rfl z_zeroN38 rfl rfl rfl H8 ?_
  clear H8; intro b9 a9 wx9 H9
  refine st_storeN rfl z_size38 rfl rfl (agg_cells _) (by repeat (first | exact Uh | apply Ut)) (q_one_c8b32b32c4 rfl rfl rfl rfl rfl rfl rfl rfl rfl rfl rfl rfl) (q_len_c8b32b32c4 (by assumption) (by assumption)) (q_len_c8b32b32c4 (by assumption) (by assumption)) (q_spl_c8b32b32c4_0_c8b32b32c4 (by assumption) (by assumption) (by assumption) (by assumption)) (by decide) rfl rfl H9 ?_
  clear H9; intro wx10 H10
  refine fin ?_
  refine then_n ?_
  refine wp_seq ?_
  refine hreg [] (fun _ h => (h.sub (by first | exact S0 | exact S1 | repeat (first | exact S1 | exact S0 | apply S2 | apply S3)))) (by kernel_rfl) H10 ?_
  clear H10; intro wx11 H11
  refine htake 0 rfl (by kernel_rfl) (y_move rfl rfl) rfl rfl rfl (fun _ h => (h.sub (by first | exact S0 | exact S1 | repeat (first | exact S1 | exact S0 | apply S2 | apply S3)))) H11 ?_
  clear H11; intro a12 H12
  refine htake 2 rfl (by kernel_rfl) (y_move rfl rfl) rfl rfl rfl (fun _ h => (h.sub (by first | exact S0 | exact S1 | repeat (first | exact S1 | exact S0 | apply S2 | apply S3)))) H12 ?_
  clear H12; intro a13 H13
  refine htake 3 rfl (by kernel_rfl) (y_nilCheck rfl rfl) rfl rfl rfl (fun _ h => (h.sub (by first | exact S0 | exact S1 | repeat (first | exact S1 | exact S0 | apply S2 | apply S3)))) H13 ?_
  clear H13; intro a14 H14
  refine htake 4 rfl (by kernel_rfl) (y_fieldB rfl z_field63_1 rfl (by first | (simp only [Nat.zero_add, Nat.add_zero, Nat.reduceAdd]; rfl) | rfl)) rfl rfl rfl (fun _ h => (h.sub (by first | exact S0 | exact S1 | repeat (first | exact S1 | exact S0 | apply S2 | apply S3)))) H14 ?_
  clear H14; intro a15 H15
  refine htake 6 rfl (by kernel_rfl) (y_move rfl rfl) rfl rfl rfl (fun _ h => (h.sub (by first | exact S0 | exact S1 | repeat (first | exact S1 | exact S0 | apply S2 | apply S3)))) H15 ?_
  clear H15; intro a16 H16
  refine htake 9 rfl (by kernel_rfl) (y_move rfl rfl) rfl rfl rfl (fun _ h => (h.sub (by first | exact S0 | exact S1 | repeat (first | exact S1 | exact S0 | apply S2 | apply S3)))) H16 ?_
  clear H16; intro a17 H17
  refine htake 10 rfl (by kernel_rfl) (y_nilCheck rfl rfl) rfl rfl rfl (fun _ h => (h.sub (by first | exact S0 | exact S1 | repeat (first | exact S1 | exact S0 | apply S2 | apply S3)))) H17 ?_
  clear H17; intro a18 H18
  refine htake 11 rfl (by kernel_rfl) (y_fieldB rfl z_field63_1 rfl (by first | (simp only [Nat.zero_add, Nat.add_zero, Nat.reduceAdd]; rfl) | rfl)) rfl rfl rfl (fun _ h => (h.sub (by first | exact S0 | exact S1 | repeat (first | exact S1 | exact S0 | apply S2 | apply S3)))) H18 ?_
  clear H18; intro a19 H19
  refine htake 13 rfl (by kernel_rfl) (y_move rfl rfl) rfl rfl rfl (fun _ h => (h.sub (by first | exact S0 | exact S1 | repeat (first | exact S1 | exact S0 | apply S2 | apply S3)))) H19 ?_
  clear H19; intro a20 H20
  refine htake 14 rfl (by kernel_rfl) (y_add rfl rfl rfl (by first | exact w64 (by omega) (by omega) | rfl)) rfl rfl rfl (fun _ h => (h.sub (by first | exact S0 | exact S1 | repeat (first | exact S1 | exact S0 | apply S2 | apply S3)))) H20 ?_
  clear H20; intro a21 H21
  refine hgo3 1 5 12 rfl rfl rfl (by kernel_rfl) ?_ ?_ ?_
  · skip
    refine st_buildSlice rfl Try.underlying30 z_size38 z_zero38 rfl rfl rfl (show _ = some ([] : List Value) from rfl) rfl rfl rfl H21 ?_
    clear H21; intro b22 a22 wx22 H22
    refine hfin (H22.sep.sub (by first | exact S0 | exact S1 | repeat (first | exact S1 | exact S0 | apply S2 | apply S3))) ?_
    refine hgo2 5 12 rfl rfl (by kernel_rfl) ?_ ?_
    · skip
      refine plain (y_loadB rfl z_agg30 rfl (by repeat (first | exact Mh | apply Mt)) q_ix_c2_1) rfl rfl rfl H22 ?_
      clear H22; intro a23 H23
      refine hfin (H23.sep.sub (by first | exact S0 | exact S1 | repeat (first | exact S1 | exact S0 | apply S2 | apply S3))) ?_
      refine htake 7 rfl (by kernel_rfl) (y_slS_hi rfl Try.underlying30 z_size38 rfl rfl (by omega) (by omega) (by omega)) rfl rfl rfl (fun _ h => (h.sub (by first | exact S0 | exact S1 | repeat (first | exact S1 | exact S0 | apply S2 | apply S3)))) H23 ?_
      clear H23; intro a24 H24
      refine hgo2 8 12 rfl rfl (by kernel_rfl) ?_ ?_
      · skip
        replace H24 := H24.asRow (b := b22) (size := 76) (m := 0) (by repeat (first | exact Uh | apply Ut)) rfl (by unfold maxLen; omega)
        refine st_append rfl z_slice30 z_notint30 rfl rfl (fun _ => (by repeat (first | exact Uh | apply Ut))) (fun w hs => Src.slice ((Pool.rdp hL (rd_row (by repeat (first | exact Mh | apply Mt))) ((i : Int).toNat)) w hs) (by rw [Pool.wc_len (hL.take _), List.length_take, Nat.min_eq_left (show (i : Int).toNat ≤ L.length by omega)]) (Pool.wc_cell _)) (by unfold maxLen at *; first | omega | (simp only [List.length_cons, List.length_nil, List.length_append, List.length_map]; omega)) (by omega) rfl rfl rfl H24 ?_
        clear H24; intro v25 a25 wx25 hnil25 H25
        obtain ⟨Ar25, cr25, hvr25, hRr25, hmr25⟩ := row_shape (v := v25) H25.sep (by repeat (first | exact Mh | apply Mt))
        subst hvr25
        refine hfin (H25.sep.sub (by first | exact S0 | exact S1 | repeat (first | exact S1 | exact S0 | apply S2 | apply S3))) ?_
        refine hgo 12 rfl (by kernel_rfl) ?_
        refine plain (y_loadB rfl z_agg30 rfl (by repeat (first | exact Mh | apply Mt)) q_ix_c2_1) rfl rfl rfl H25 ?_
        clear H25; intro a26 H26
        refine hfin (H26.sep.sub (by first | exact S0 | exact S1 | repeat (first | exact S1 | exact S0 | apply S2 | apply S3))) ?_
        refine htake 15 rfl (by kernel_rfl) (y_slS_lo rfl Try.underlying30 z_size38 rfl rfl (by omega) (by omega)) rfl rfl rfl (fun _ h => (h.sub (by first | exact S0 | exact S1 | repeat (first | exact S1 | exact S0 | apply S2 | apply S3)))) H26 ?_
        clear H26; intro a27 H27
        refine hgo 16 rfl (by kernel_rfl) ?_
        refine st_append rfl z_slice30 z_notint30 rfl rfl (fun _ => (by repeat (first | exact Uh | apply Ut))) (fun w hs => Src.slice ((Pool.rds hL (rd_row (by repeat (first | exact Mh | apply Mt))) (((i : Int) + 1).toNat) cc hcap) w hs) (by rw [Pool.wc_len (hL.drop _), List.length_drop]) (Pool.wc_cell _)) (by unfold maxLen at *; first | omega | (simp only [List.length_cons, List.length_nil, List.length_append, List.length_map]; omega)) (by omega) rfl rfl rfl H27 ?_
        clear H27; intro v28 a28 wx28 hnil28 H28
        obtain ⟨ArT, crT, hvrT, hRrT, hmrT⟩ := row_shape (v := v28) H28.sep (by repeat (first | exact Mh | apply Mt))
        subst hvrT
        refine hfin (H28.sep.sub (by first | exact S0 | exact S1 | repeat (first | exact S1 | exact S0 | apply S2 | apply S3))) ?_
        refine htake 17 rfl (by kernel_rfl) (y_nilCheck rfl rfl) rfl rfl rfl (fun _ h => (h.sub (by first | exact S0 | exact S1 | repeat (first | exact S1 | exact S0 | apply S2 | apply S3)))) H28 ?_
        clear H28; intro a29 H29
        refine htake 18 rfl (by kernel_rfl) (y_fieldB rfl z_field63_1 rfl (by first | (simp only [Nat.zero_add, Nat.add_zero, Nat.reduceAdd]; rfl) | rfl)) rfl rfl rfl (fun _ h => (h.sub (by first | exact S0 | exact S1 | repeat (first | exact S1 | exact S0 | apply S2 | apply S3)))) H29 ?_
        clear H29; intro a30 H30
        refine hgo 19 rfl (by kernel_rfl) ?_
        refine st_store1N rfl z_size30 rfl rfl rfl (by repeat (first | exact Uh | apply Ut)) q_len_c2 q_set_c2_1 (by decide) rfl rfl H30 ?_
        clear H30; intro wx31 H31
        refine hfin (H31.sep.sub (by first | exact S0 | exact S1 | repeat (first | exact S1 | exact S0 | apply S2 | apply S3))) ?_
        refine hdone (by kernel_rfl) ?_
        refine then_n ?_
        refine wp_seq ?_
        refine reg ?_
        refine plain (y_loadAB rfl z_agg38 z_size38 rfl (by repeat (first | exact Mh | apply Mt)) (q_ld_c8b32b32c4_0_76 (by assumption) (by assumption)) (q_len_c8b32b32c4 (by assumption) (by assumption))) rfl rfl rfl H31 ?_
        clear H31; intro a32 H32
        refine st_storeN rfl z_size38 rfl rfl (agg_cells _) (by repeat (first | exact Uh | apply Ut)) (q_one_c8b32b32c4 rfl rfl rfl rfl rfl rfl rfl rfl rfl rfl rfl rfl) (q_len_c8b32b32c4 (by assumption) (by assumption)) (q_len_c8b32b32c4 (by assumption) (by assumption)) (q_spl_c8b32b32c4_0_c8b32b32c4 (by assumption) (by assumption) (by assumption) (by assumption)) (by decide) rfl rfl H32 ?_
        clear H32; intro wx33 H33
        refine fin ?_
        refine then_n ?_
        refine wp_ret ?_
        -- return 1
        refine retc rfl H33 rfl z_agg38 z_size38 (by repeat (first | exact Mh | apply Mt)) (q_len_c8b32b32c4 (by assumption) (by assumption)) ?_
        have hsx := H33.sep.sub (List.Sublist.cons_cons _ (List.Sublist.cons _ (List.Sublist.cons _ (List.Sublist.cons _ (List.Sublist.refl _)))))
        simp only [List.nil_append, Int.toNat_natCast, Nat.zero_add, Pool.cut_erase, Pool.len_erase hi] at hsx
        exact ⟨_, _, rfl, ⟨rfl, _, rfl⟩, hsx⟩
      · skip
        refine plain (y_loadB rfl z_agg30 rfl (by repeat (first | exact Mh | apply Mt)) q_ix_c2_1) rfl rfl rfl H24 ?_
        clear H24; intro a34 H34
        refine hfin (H34.sep.sub (by first | exact S0 | exact S1 | repeat (first | exact S1 | exact S0 | apply S2 | apply S3))) ?_
        refine htake 15 rfl (by kernel_rfl) (y_slS_lo rfl Try.underlying30 z_size38 rfl rfl (by omega) (by omega)) rfl rfl rfl (fun _ h => (h.sub (by first | exact S0 | exact S1 | repeat (first | exact S1 | exact S0 | apply S2 | apply S3)))) H34 ?_
        clear H34; intro a35 H35
        refine hgo 8 rfl (by kernel_rfl) ?_
        replace H35 := H35.asRow (b := b22) (size := 76) (m := 0) (by repeat (first | exact Uh | apply Ut)) rfl (by unfold maxLen; omega)
        refine st_append rfl z_slice30 z_notint30 rfl rfl (fun _ => (by repeat (first | exact Uh | apply Ut))) (fun w hs => Src.slice ((Pool.rdp hL (rd_row (by repeat (first | exact Mh | apply Mt))) ((i : Int).toNat)) w hs) (by rw [Pool.wc_len (hL.take _), List.length_take, Nat.min_eq_left (show (i : Int).toNat ≤ L.length by omega)]) (Pool.wc_cell _)) (by unfold maxLen at *; first | omega | (simp only [List.length_cons, List.length_nil, List.length_append, List.length_map]; omega)) (by omega) rfl rfl rfl H35 ?_
        clear H35; intro v36 a36 wx36 hnil36 H36
        obtain ⟨Ar36, cr36, hvr36, hRr36, hmr36⟩ := row_shape (v := v36) H36.sep (by repeat (first | exact Mh | apply Mt))
        subst hvr36
        refine hfin (H36.sep.sub (by first | exact S0 | exact S1 | repeat (first | exact S1 | exact S0 | apply S2 | apply S3))) ?_
        refine hgo 16 rfl (by kernel_rfl) ?_
        refine st_append rfl z_slice30 z_notint30 rfl rfl (fun _ => (by repeat (first | exact Uh | apply Ut))) (fun w hs => Src.slice ((Pool.rds hL (rd_row (by repeat (first | exact Mh | apply Mt))) (((i : Int) + 1).toNat) cc hcap) w hs) (by rw [Pool.wc_len (hL.drop _), List.length_drop]) (Pool.wc_cell _)) (by unfold maxLen at *; first | omega | (simp only [List.length_cons, List.length_nil, List.length_append, List.length_map]; omega)) (by omega) rfl rfl rfl H36 ?_
        clear H36; intro v37 a37 wx37 hnil37 H37
        obtain ⟨ArT, crT, hvrT, hRrT, hmrT⟩ := row_shape (v := v37) H37.sep (by repeat (first | exact Mh | apply Mt))
        subst hvrT
        refine hfin (H37.sep.sub (by first | exact S0 | exact S1 | repeat (first | exact S1 | exact S0 | apply S2 | apply S3))) ?_
        refine htake 17 rfl (by kernel_rfl) (y_nilCheck rfl rfl) rfl rfl rfl (fun _ h => (h.sub (by first | exact S0 | exact S1 | repeat (first | exact S1 | exact S0 | apply S2 | apply S3)))) H37 ?_
        clear H37; intro a38 H38
        refine htake 18 rfl (by kernel_rfl) (y_fieldB rfl z_field63_1 rfl (by first | (simp only [Nat.zero_add, Nat.add_zero, Nat.reduceAdd]; rfl) | rfl)) rfl rfl rfl (fun _ h => (h.sub (by first | exact S0 | exact S1 | repeat (first | exact S1 | exact S0 | apply S2 | apply S3)))) H38 ?_
        clear H38; intro a39 H39
        refine hgo 19 rfl (by kernel_rfl) ?_
        refine st_store1N rfl z_size30 rfl rfl rfl (by repeat (first | exact Uh | apply Ut)) q_len_c2 q_set_c2_1 (by decide) rfl rfl H39 ?_
        clear H39; intro wx40 H40
        refine hfin (H40.sep.sub (by first | exact S0 | exact S1 | repeat (first | exact S1 | exact S0 | apply S2 | apply S3))) ?_
        refine hdone (by kernel_rfl) ?_
        refine then_n ?_
        refine wp_seq ?_
        refine reg ?_
        refine plain (y_loadAB rfl z_agg38 z_size38 rfl (by repeat (first | exact Mh | apply Mt)) (q_ld_c8b32b32c4_0_76 (by assumption) (by assumption)) (q_len_c8b32b32c4 (by assumption) (by assumption))) rfl rfl rfl H40 ?_
        clear H40; intro a41 H41
        refine st_storeN rfl z_size38 rfl rfl (agg_cells _) (by repeat (first | exact Uh | apply Ut)) (q_one_c8b32b32c4 rfl rfl rfl rfl rfl rfl rfl rfl rfl rfl rfl rfl) (q_len_c8b32b32c4 (by assumption) (by assumption)) (q_len_c8b32b32c4 (by assumption) (by assumption)) (q_spl_c8b32b32c4_0_c8b32b32c4 (by assumption) (by assumption) (by assumption) (by assumption)) (by decide) rfl rfl H41 ?_
        clear H41; intro wx42 H42
        refine fin ?_
        refine then_n ?_
        refine wp_ret ?_
        -- return 2
        refine retc rfl H42 rfl z_agg38 z_size38 (by repeat (first | exact Mh | apply Mt)) (q_len_c8b32b32c4 (by assumption) (by assumption)) ?_
        have hsx := H42.sep.sub (List.Sublist.cons_cons _ (List.Sublist.cons _ (List.Sublist.cons _ (List.Sublist.cons _ (List.Sublist.refl _)))))
        simp only [List.nil_append, Int.toNat_natCast, Nat.zero_add, Pool.cut_erase, Pool.len_erase hi] at hsx
        exact ⟨_, _, rfl, ⟨rfl, _, rfl⟩, hsx⟩
    · skip
      refine plain (y_loadB rfl z_agg30 rfl (by repeat (first | exact Mh | apply Mt)) q_ix_c2_1) rfl rfl rfl H22 ?_
      clear H22; intro a43 H43
      refine hfin (H43.sep.sub (by first | exact S0 | exact S1 | repeat (first | exact S1 | exact S0 | apply S2 | apply S3))) ?_
      refine htake 15 rfl (by kernel_rfl) (y_slS_lo rfl Try.underlying30 z_size38 rfl rfl (by omega) (by omega)) rfl rfl rfl (fun _ h => (h.sub (by first | exact S0 | exact S1 | repeat (first | exact S1 | exact S0 | apply S2 | apply S3)))) H43 ?_
      clear H43; intro a44 H44
      refine hgo 5 rfl (by kernel_rfl) ?_
      refine plain (y_loadB rfl z_agg30 rfl (by repeat (first | exact Mh | apply Mt)) q_ix_c2_1) rfl rfl rfl H44 ?_
      clear H44; intro a45 H45
      refine hfin (H45.sep.sub (by first | exact S0 | exact S1 | repeat (first | exact S1 | exact S0 | apply S2 | apply S3))) ?_
      refine htake 7 rfl (by kernel_rfl) (y_slS_hi rfl Try.underlying30 z_size38 rfl rfl (by omega) (by omega) (by omega)) rfl rfl rfl (fun _ h => (h.sub (by first | exact S0 | exact S1 | repeat (first | exact S1 | exact S0 | apply S2 | apply S3)))) H45 ?_
      clear H45; intro a46 H46
      refine hgo 8 rfl (by kernel_rfl) ?_
      replace H46 := H46.asRow (b := b22) (size := 76) (m := 0) (by repeat (first | exact Uh | apply Ut)) rfl (by unfold maxLen; omega)
      refine st_append rfl z_slice30 z_notint30 rfl rfl (fun _ => (by repeat (first | exact Uh | apply Ut))) (fun w hs => Src.slice ((Pool.rdp hL (rd_row (by repeat (first | exact Mh | apply Mt))) ((i : Int).toNat)) w hs) (by rw [Pool.wc_len (hL.take _), List.length_take, Nat.min_eq_left (show (i : Int).toNat ≤ L.length by omega)]) (Pool.wc_cell _)) (by unfold maxLen at *; first | omega | (simp only [List.length_cons, List.length_nil, List.length_append, List.length_map]; omega)) (by omega) rfl rfl rfl H46 ?_
      clear H46; intro v47 a47 wx47 hnil47 H47
      obtain ⟨Ar47, cr47, hvr47, hRr47, hmr47⟩ := row_shape (v := v47) H47.sep (by repeat (first | exact Mh | apply Mt))
      subst hvr47
      refine hfin (H47.sep.sub (by first | exact S0 | exact S1 | repeat (first | exact S1 | exact S0 | apply S2 | apply S3))) ?_
      refine hgo 16 rfl (by kernel_rfl) ?_
      refine st_append rfl z_slice30 z_notint30 rfl rfl (fun _ => (by repeat (first | exact Uh | apply Ut))) (fun w hs => Src.slice ((Pool.rds hL (rd_row (by repeat (first | exact Mh | apply Mt))) (((i : Int) + 1).toNat) cc hcap) w hs) (by rw [Pool.wc_len (hL.drop _), List.length_drop]) (Pool.wc_cell _)) (by unfold maxLen at *; first | omega | (simp only [List.length_cons, List.length_nil, List.length_append, List.length_map]; omega)) (by omega) rfl rfl rfl H47 ?_
      clear H47; intro v48 a48 wx48 hnil48 H48
      obtain ⟨ArT, crT, hvrT, hRrT, hmrT⟩ := row_shape (v := v48) H48.sep (by repeat (first | exact Mh | apply Mt))
      subst hvrT
      refine hfin (H48.sep.sub (by first | exact S0 | exact S1 | repeat (first | exact S1 | exact S0 | apply S2 | apply S3))) ?_
      refine htake 17 rfl (by kernel_rfl) (y_nilCheck rfl rfl) rfl rfl rfl (fun _ h => (h.sub (by first | exact S0 | exact S1 | repeat (first | exact S1 | exact S0 | apply S2 | apply S3)))) H48 ?_
      clear H48; intro a49 H49
      refine htake 18 rfl (by kernel_rfl) (y_fieldB rfl z_field63_1 rfl (by first | (simp only [Nat.zero_add, Nat.add_zero, Nat.reduceAdd]; rfl) | rfl)) rfl rfl rfl (fun _ h => (h.sub (by first | exact S0 | exact S1 | repeat (first | exact S1 | exact S0 | apply S2 | apply S3)))) H49 ?_
      clear H49; intro a50 H50
      refine hgo 19 rfl (by kernel_rfl) ?_
      refine st_store1N rfl z_size30 rfl rfl rfl (by repeat (first | exact Uh | apply Ut)) q_len_c2 q_set_c2_1 (by decide) rfl rfl H50 ?_
      clear H50; intro wx51 H51
      refine hfin (H51.sep.sub (by first | exact S0 | exact S1 | repeat (first | exact S1 | exact S0 | apply S2 | apply S3))) ?_
      refine hdone (by kernel_rfl) ?_
      refine then_n ?_
      refine wp_seq ?_
      refine reg ?_
      refine plain (y_loadAB rfl z_agg38 z_size38 rfl (by repeat (first | exact Mh | apply Mt)) (q_ld_c8b32b32c4_0_76 (by assumption) (by assumption)) (q_len_c8b32b32c4 (by assumption) (by assumption))) rfl rfl rfl H51 ?_
      clear H51; intro a52 H52
      refine st_storeN rfl z_size38 rfl rfl (agg_cells _) (by repeat (first | exact Uh | apply Ut)) (q_one_c8b32b32c4 rfl rfl rfl rfl rfl rfl rfl rfl rfl rfl rfl rfl) (q_len_c8b32b32c4 (by assumption) (by assumption)) (q_len_c8b32b32c4 (by assumption) (by assumption)) (q_spl_c8b32b32c4_0_c8b32b32c4 (by assumption) (by assumption) (by assumption) (by assumption)) (by decide) rfl rfl H52 ?_
      clear H52; intro wx53 H53
      refine fin ?_
      refine then_n ?_
      refine wp_ret ?_
      -- return 3
      refine retc rfl H53 rfl z_agg38 z_size38 (by repeat (first | exact Mh | apply Mt)) (q_len_c8b32b32c4 (by assumption) (by assumption)) ?_
      have hsx := H53.sep.sub (List.Sublist.cons_cons _ (List.Sublist.cons _ (List.Sublist.cons _ (List.Sublist.cons _ (List.Sublist.refl _)))))
      simp only [List.nil_append, Int.toNat_natCast, Nat.zero_add, Pool.cut_erase, Pool.len_erase hi] at hsx
      exact ⟨_, _, rfl, ⟨rfl, _, rfl⟩, hsx⟩
  · skip
    refine plain (y_loadB rfl z_agg30 rfl (by repeat (first | exact Mh | apply Mt)) q_ix_c2_1) rfl rfl rfl H21 ?_
    clear H21; intro a54 H54
    refine hfin (H54.sep.sub (by first | exact S0 | exact S1 | repeat (first | exact S1 | exact S0 | apply S2 | apply S3))) ?_
    refine htake 7 rfl (by kernel_rfl) (y_slS_hi rfl Try.underlying30 z_size38 rfl rfl (by omega) (by omega) (by omega)) rfl rfl rfl (fun _ h => (h.sub (by first | exact S0 | exact S1 | repeat (first | exact S1 | exact S0 | apply S2 | apply S3)))) H54 ?_
    clear H54; intro a55 H55
    refine hgo2 1 12 rfl rfl (by kernel_rfl) ?_ ?_
    · skip
      refine st_buildSlice rfl Try.underlying30 z_size38 z_zero38 rfl rfl rfl (show _ = some ([] : List Value) from rfl) rfl rfl rfl H55 ?_
      clear H55; intro b56 a56 wx56 H56
      refine hfin (H56.sep.sub (by first | exact S0 | exact S1 | repeat (first | exact S1 | exact S0 | apply S2 | apply S3))) ?_
      refine hgo2 8 12 rfl rfl (by kernel_rfl) ?_ ?_
      · skip
        replace H56 := H56.asRow (b := b56) (size := 76) (m := 0) (by repeat (first | exact Uh | apply Ut)) rfl (by unfold maxLen; omega)
        refine st_append rfl z_slice30 z_notint30 rfl rfl (fun _ => (by repeat (first | exact Uh | apply Ut))) (fun w hs => Src.slice ((Pool.rdp hL (rd_row (by repeat (first | exact Mh | apply Mt))) ((i : Int).toNat)) w hs) (by rw [Pool.wc_len (hL.take _), List.length_take, Nat.min_eq_left (show (i : Int).toNat ≤ L.length by omega)]) (Pool.wc_cell _)) (by unfold maxLen at *; first | omega | (simp only [List.length_cons, List.length_nil, List.length_append, List.length_map]; omega)) (by omega) rfl rfl rfl H56 ?_
        clear H56; intro v57 a57 wx57 hnil57 H57
        obtain ⟨Ar57, cr57, hvr57, hRr57, hmr57⟩ := row_shape (v := v57) H57.sep (by repeat (first | exact Mh | apply Mt))
        subst hvr57
        refine hfin (H57.sep.sub (by first | exact S0 | exact S1 | repeat (first | exact S1 | exact S0 | apply S2 | apply S3))) ?_
        refine hgo 12 rfl (by kernel_rfl) ?_
        refine plain (y_loadB rfl z_agg30 rfl (by repeat (first | exact Mh | apply Mt)) q_ix_c2_1) rfl rfl rfl H57 ?_
        clear H57; intro a58 H58
        refine hfin (H58.sep.sub (by first | exact S0 | exact S1 | repeat (first | exact S1 | exact S0 | apply S2 | apply S3))) ?_
        refine htake 15 rfl (by kernel_rfl) (y_slS_lo rfl Try.underlying30 z_size38 rfl rfl (by omega) (by omega)) rfl rfl rfl (fun _ h => (h.sub (by first | exact S0 | exact S1 | repeat (first | exact S1 | exact S0 | apply S2 | apply S3)))) H58 ?_
        clear H58; intro a59 H59
        refine hgo 16 rfl (by kernel_rfl) ?_
        refine st_append rfl z_slice30 z_notint30 rfl rfl (fun _ => (by repeat (first | exact Uh | apply Ut))) (fun w hs => Src.slice ((Pool.rds hL (rd_row (by repeat (first | exact Mh | apply Mt))) (((i : Int) + 1).toNat) cc hcap) w hs) (by rw [Pool.wc_len (hL.drop _), List.length_drop]) (Pool.wc_cell _)) (by unfold maxLen at *; first | omega | (simp only [List.length_cons, List.length_nil, List.length_append, List.length_map]; omega)) (by omega) rfl rfl rfl H59 ?_
        clear H59; intro v60 a60 wx60 hnil60 H60
        obtain ⟨ArT, crT, hvrT, hRrT, hmrT⟩ := row_shape (v := v60) H60.sep (by repeat (first | exact Mh | apply Mt))
        subst hvrT
        refine hfin (H60.sep.sub (by first | exact S0 | exact S1 | repeat (first | exact S1 | exact S0 | apply S2 | apply S3))) ?_
        refine htake 17 rfl (by kernel_rfl) (y_nilCheck rfl rfl) rfl rfl rfl (fun _ h => (h.sub (by first | exact S0 | exact S1 | repeat (first | exact S1 | exact S0 | apply S2 | apply S3)))) H60 ?_
        clear H60; intro a61 H61
        refine htake 18 rfl (by kernel_rfl) (y_fieldB rfl z_field63_1 rfl (by first | (simp only [Nat.zero_add, Nat.add_zero, Nat.reduceAdd]; rfl) | rfl)) rfl rfl rfl (fun _ h => (h.sub (by first | exact S0 | exact S1 | repeat (first | exact S1 | exact S0 | apply S2 | apply S3)))) H61 ?_
        clear H61; intro a62 H62
        refine hgo 19 rfl (by kernel_rfl) ?_
        refine st_store1N rfl z_size30 rfl rfl rfl (by repeat (first | exact Uh | apply Ut)) q_len_c2 q_set_c2_1 (by decide) rfl rfl H62 ?_
        clear H62; intro wx63 H63
        refine hfin (H63.sep.sub (by first | exact S0 | exact S1 | repeat (first | exact S1 | exact S0 | apply S2 | apply S3))) ?_
        refine hdone (by kernel_rfl) ?_
        refine then_n ?_
        refine wp_seq ?_
        refine reg ?_
        refine plain (y_loadAB rfl z_agg38 z_size38 rfl (by repeat (first | exact Mh | apply Mt)) (q_ld_c8b32b32c4_0_76 (by assumption) (by assumption)) (q_len_c8b32b32c4 (by assumption) (by assumption))) rfl rfl rfl H63 ?_
        clear H63; intro a64 H64
        refine st_storeN rfl z_size38 rfl rfl (agg_cells _) (by repeat (first | exact Uh | apply Ut)) (q_one_c8b32b32c4 rfl rfl rfl rfl rfl rfl rfl rfl rfl rfl rfl rfl) (q_len_c8b32b32c4 (by assumption) (by assumption)) (q_len_c8b32b32c4 (by assumption) (by assumption)) (q_spl_c8b32b32c4_0_c8b32b32c4 (by assumption) (by assumption) (by assumption) (by assumption)) (by decide) rfl rfl H64 ?_
        clear H64; intro wx65 H65
        refine fin ?_
        refine then_n ?_
        refine wp_ret ?_
        -- return 4
        refine retc rfl H65 rfl z_agg38 z_size38 (by repeat (first | exact Mh | apply Mt)) (q_len_c8b32b32c4 (by assumption) (by assumption)) ?_
        have hsx := H65.sep.sub (List.Sublist.cons_cons _ (List.Sublist.cons _ (List.Sublist.cons _ (List.Sublist.cons _ (List.Sublist.refl _)))))
        simp only [List.nil_append, Int.toNat_natCast, Nat.zero_add, Pool.cut_erase, Pool.len_erase hi] at hsx
        exact ⟨_, _, rfl, ⟨rfl, _, rfl⟩, hsx⟩
      · skip
        refine plain (y_loadB rfl z_agg30 rfl (by repeat (first | exact Mh | apply Mt)) q_ix_c2_1) rfl rfl rfl H56 ?_
        clear H56; intro a66 H66
        refine hfin (H66.sep.sub (by first | exact S0 | exact S1 | repeat (first | exact S1 | exact S0 | apply S2 | apply S3))) ?_
        refine htake 15 rfl (by kernel_rfl) (y_slS_lo rfl Try.underlying30 z_size38 rfl rfl (by omega) (by omega)) rfl rfl rfl (fun _ h => (h.sub (by first | exact S0 | exact S1 | repeat (first | exact S1 | exact S0 | apply S2 | apply S3)))) H66 ?_
        clear H66; intro a67 H67
        refine hgo 8 rfl (by kernel_rfl) ?_
        replace H67 := H67.asRow (b := b56) (size := 76) (m := 0) (by repeat (first | exact Uh | apply Ut)) rfl (by unfold maxLen; omega)
        refine st_append rfl z_slice30 z_notint30 rfl rfl (fun _ => (by repeat (first | exact Uh | apply Ut))) (fun w hs => Src.slice ((Pool.rdp hL (rd_row (by repeat (first | exact Mh | apply Mt))) ((i : Int).toNat)) w hs) (by rw [Pool.wc_len (hL.take _), List.length_take, Nat.min_eq_left (show (i : Int).toNat ≤ L.length by omega)]) (Pool.wc_cell _)) (by unfold maxLen at *; first | omega | (simp only [List.length_cons, List.length_nil, List.length_append, List.length_map]; omega)) (by omega) rfl rfl rfl H67 ?_
        clear H67; intro v68 a68 wx68 hnil68 H68
        obtain ⟨Ar68, cr68, hvr68, hRr68, hmr68⟩ := row_shape (v := v68) H68.sep (by repeat (first | exact Mh | apply Mt))
        subst hvr68
        refine hfin (H68.sep.sub (by first | exact S0 | exact S1 | repeat (first | exact S1 | exact S0 | apply S2 | apply S3))) ?_
        refine hgo 16 rfl (by kernel_rfl) ?_
        refine st_append rfl z_slice30 z_notint30 rfl rfl (fun _ => (by repeat (first | exact Uh | apply Ut))) (fun w hs => Src.slice ((Pool.rds hL (rd_row (by repeat (first | exact Mh | apply Mt))) (((i : Int) + 1).toNat) cc hcap) w hs) (by rw [Pool.wc_len (hL.drop _), List.length_drop]) (Pool.wc_cell _)) (by unfold maxLen at *; first | omega | (simp only [List.length_cons, List.length_nil, List.length_append, List.length_map]; omega)) (by omega) rfl rfl rfl H68 ?_
        clear H68; intro v69 a69 wx69 hnil69 H69
        obtain ⟨ArT, crT, hvrT, hRrT, hmrT⟩ := row_shape (v := v69) H69.sep (by repeat (first | exact Mh | apply Mt))
        subst hvrT
        refine hfin (H69.sep.sub (by first | exact S0 | exact S1 | repeat (first | exact S1 | exact S0 | apply S2 | apply S3))) ?_
        refine htake 17 rfl (by kernel_rfl) (y_nilCheck rfl rfl) rfl rfl rfl (fun _ h => (h.sub (by first | exact S0 | exact S1 | repeat (first | exact S1 | exact S0 | apply S2 | apply S3)))) H69 ?_
        clear H69; intro a70 H70
        refine htake 18 rfl (by kernel_rfl) (y_fieldB rfl z_field63_1 rfl (by first | (simp only [Nat.zero_add, Nat.add_zero, Nat.reduceAdd]; rfl) | rfl)) rfl rfl rfl (fun _ h => (h.sub (by first | exact S0 | exact S1 | repeat (first | exact S1 | exact S0 | apply S2 | apply S3)))) H70 ?_
        clear H70; intro a71 H71
        refine hgo 19 rfl (by kernel_rfl) ?_
        refine st_store1N rfl z_size30 rfl rfl rfl (by repeat (first | exact Uh | apply Ut)) q_len_c2 q_set_c2_1 (by decide) rfl rfl H71 ?_
        clear H71; intro wx72 H72
        refine hfin (H72.sep.sub (by first | exact S0 | exact S1 | repeat (first | exact S1 | exact S0 | apply S2 | apply S3))) ?_
        refine hdone (by kernel_rfl) ?_
        refine then_n ?_
        refine wp_seq ?_
        refine reg ?_
        refine plain (y_loadAB rfl z_agg38 z_size38 rfl (by repeat (first | exact Mh | apply Mt)) (q_ld_c8b32b32c4_0_76 (by assumption) (by assumption)) (q_len_c8b32b32c4 (by assumption) (by assumption))) rfl rfl rfl H72 ?_
        clear H72; intro a73 H73
        refine st_storeN rfl z_size38 rfl rfl (agg_cells _) (by repeat (first | exact Uh | apply Ut)) (q_one_c8b32b32c4 rfl rfl rfl rfl rfl rfl rfl rfl rfl rfl rfl rfl) (q_len_c8b32b32c4 (by assumption) (by assumption)) (q_len_c8b32b32c4 (by assumption) (by assumption)) (q_spl_c8b32b32c4_0_c8b32b32c4 (by assumption) (by assumption) (by assumption) (by assumption)) (by decide) rfl rfl H73 ?_
        clear H73; intro wx74 H74
        refine fin ?_
        refine then_n ?_
        refine wp_ret ?_
        -- return 5
        refine retc rfl H74 rfl z_agg38 z_size38 (by repeat (first | exact Mh | apply Mt)) (q_len_c8b32b32c4 (by assumption) (by assumption)) ?_
        have hsx := H74.sep.sub (List.Sublist.cons_cons _ (List.Sublist.cons _ (List.Sublist.cons _ (List.Sublist.cons _ (List.Sublist.refl _)))))
        simp only [List.nil_append, Int.toNat_natCast, Nat.zero_add, Pool.cut_erase, Pool.len_erase hi] at hsx
        exact ⟨_, _, rfl, ⟨rfl, _, rfl⟩, hsx⟩
    · skip
      refine plain (y_loadB rfl z_agg30 rfl (by repeat (first | exact Mh | apply Mt)) q_ix_c2_1) rfl rfl rfl H55 ?_
      clear H55; intro a75 H75
      refine hfin (H75.sep.sub (by first | exact S0 | exact S1 | repeat (first | exact S1 | exact S0 | apply S2 | apply S3))) ?_
      refine htake 15 rfl (by kernel_rfl) (y_slS_lo rfl Try.underlying30 z_size38 rfl rfl (by omega) (by omega)) rfl rfl rfl (fun _ h => (h.sub (by first | exact S0 | exact S1 | repeat (first | exact S1 | exact S0 | apply S2 | apply S3)))) H75 ?_
      clear H75; intro a76 H76
      refine hgo 1 rfl (by kernel_rfl) ?_
      refine st_buildSlice rfl Try.underlying30 z_size38 z_zero38 rfl rfl rfl (show _ = some ([] : List Value) from rfl) rfl rfl rfl H76 ?_
      clear H76; intro b77 a77 wx77 H77
      refine hfin (H77.sep.sub (by first | exact S0 | exact S1 | repeat (first | exact S1 | exact S0 | apply S2 | apply S3))) ?_
      refine hgo 8 rfl (by kernel_rfl) ?_
      replace H77 := H77.asRow (b := b77) (size := 76) (m := 0) (by repeat (first | exact Uh | apply Ut)) rfl (by unfold maxLen; omega)
      refine st_append rfl z_slice30 z_notint30 rfl rfl (fun _ => (by repeat (first | exact Uh | apply Ut))) (fun w hs => Src.slice ((Pool.rdp hL (rd_row (by repeat (first | exact Mh | apply Mt))) ((i : Int).toNat)) w hs) (by rw [Pool.wc_len (hL.take _), List.length_take, Nat.min_eq_left (show (i : Int).toNat ≤ L.length by omega)]) (Pool.wc_cell _)) (by unfold maxLen at *; first | omega | (simp only [List.length_cons, List.length_nil, List.length_append, List.length_map]; omega)) (by omega) rfl rfl rfl H77 ?_
      clear H77; intro v78 a78 wx78 hnil78 H78
      obtain ⟨Ar78, cr78, hvr78, hRr78, hmr78⟩ := row_shape (v := v78) H78.sep (by repeat (first | exact Mh | apply Mt))
      subst hvr78
      refine hfin (H78.sep.sub (by first | exact S0 | exact S1 | repeat (first | exact S1 | exact S0 | apply S2 | apply S3))) ?_
      refine hgo 16 rfl (by kernel_rfl) ?_
      refine st_append rfl z_slice30 z_notint30 rfl rfl (fun _ => (by repeat (first | exact Uh | apply Ut))) (fun w hs => Src.slice ((Pool.rds hL (rd_row (by repeat (first | exact Mh | apply Mt))) (((i : Int) + 1).toNat) cc hcap) w hs) (by rw [Pool.wc_len (hL.drop _), List.length_drop]) (Pool.wc_cell _)) (by unfold maxLen at *; first | omega | (simp only [List.length_cons, List.length_nil, List.length_append, List.length_map]; omega)) (by omega) rfl rfl rfl H78 ?_
      clear H78; intro v79 a79 wx79 hnil79 H79
      obtain ⟨ArT, crT, hvrT, hRrT, hmrT⟩ := row_shape (v := v79) H79.sep (by repeat (first | exact Mh | apply Mt))
      subst hvrT
      refine hfin (H79.sep.sub (by first | exact S0 | exact S1 | repeat (first | exact S1 | exact S0 | apply S2 | apply S3))) ?_
      refine htake 17 rfl (by kernel_rfl) (y_nilCheck rfl rfl) rfl rfl rfl (fun _ h => (h.sub (by first | exact S0 | exact S1 | repeat (first | exact S1 | exact S0 | apply S2 | apply S3)))) H79 ?_
      clear H79; intro a80 H80
      refine htake 18 rfl (by kernel_rfl) (y_fieldB rfl z_field63_1 rfl (by first | (simp only [Nat.zero_add, Nat.add_zero, Nat.reduceAdd]; rfl) | rfl)) rfl rfl rfl (fun _ h => (h.sub (by first | exact S0 | exact S1 | repeat (first | exact S1 | exact S0 | apply S2 | apply S3)))) H80 ?_
      clear H80; intro a81 H81
      refine hgo 19 rfl (by kernel_rfl) ?_
      refine st_store1N rfl z_size30 rfl rfl rfl (by repeat (first | exact Uh | apply Ut)) q_len_c2 q_set_c2_1 (by decide) rfl rfl H81 ?_
      clear H81; intro wx82 H82
      refine hfin (H82.sep.sub (by first | exact S0 | exact S1 | repeat (first | exact S1 | exact S0 | apply S2 | apply S3))) ?_
      refine hdone (by kernel_rfl) ?_
      refine then_n ?_
      refine wp_seq ?_
      refine reg ?_
      refine plain (y_loadAB rfl z_agg38 z_size38 rfl (by repeat (first | exact Mh | apply Mt)) (q_ld_c8b32b32c4_0_76 (by assumption) (by assumption)) (q_len_c8b32b32c4 (by assumption) (by assumption))) rfl rfl rfl H82 ?_
      clear H82; intro a83 H83
      refine st_storeN rfl z_size38 rfl rfl (agg_cells _) (by repeat (first | exact Uh | apply Ut)) (q_one_c8b32b32c4 rfl rfl rfl rfl rfl rfl rfl rfl rfl rfl rfl rfl) (q_len_c8b32b32c4 (by assumption) (by assumption)) (q_len_c8b32b32c4 (by assumption) (by assumption)) (q_spl_c8b32b32c4_0_c8b32b32c4 (by assumption) (by assumption) (by assumption) (by assumption)) (by decide) rfl rfl H83 ?_
      clear H83; intro wx84 H84
      refine fin ?_
      refine then_n ?_
      refine wp_ret ?_
      -- return 6
      refine retc rfl H84 rfl z_agg38 z_size38 (by repeat (first | exact Mh | apply Mt)) (q_len_c8b32b32c4 (by assumption) (by assumption)) ?_
      have hsx := H84.sep.sub (List.Sublist.cons_cons _ (List.Sublist.cons _ (List.Sublist.cons _ (List.Sublist.cons _ (List.Sublist.refl _)))))
      simp only [List.nil_append, Int.toNat_natCast, Nat.zero_add, Pool.cut_erase, Pool.len_erase hi] at hsx
      exact ⟨_, _, rfl, ⟨rfl, _, rfl⟩, hsx⟩
  · skip
    refine plain (y_loadB rfl z_agg30 rfl (by repeat (first | exact Mh | apply Mt)) q_ix_c2_1) rfl rfl rfl H21 ?_
    clear H21; intro a85 H85
    refine hfin (H85.sep.sub (by first | exact S0 | exact S1 | repeat (first | exact S1 | exact S0 | apply S2 | apply S3))) ?_
    refine htake 15 rfl (by kernel_rfl) (y_slS_lo rfl Try.underlying30 z_size38 rfl rfl (by omega) (by omega)) rfl rfl rfl (fun _ h => (h.sub (by first | exact S0 | exact S1 | repeat (first | exact S1 | exact S0 | apply S2 | apply S3)))) H85 ?_
    clear H85; intro a86 H86
    refine hgo2 1 5 rfl rfl (by kernel_rfl) ?_ ?_
    · skip
      refine st_buildSlice rfl Try.underlying30 z_size38 z_zero38 rfl rfl rfl (show _ = some ([] : List Value) from rfl) rfl rfl rfl H86 ?_
      clear H86; intro b87 a87 wx87 H87
      refine hfin (H87.sep.sub (by first | exact S0 | exact S1 | repeat (first | exact S1 | exact S0 | apply S2 | apply S3))) ?_
      refine hgo 5 rfl (by kernel_rfl) ?_
      refine plain (y_loadB rfl z_agg30 rfl (by repeat (first | exact Mh | apply Mt)) q_ix_c2_1) rfl rfl rfl H87 ?_
      clear H87; intro a88 H88
      refine hfin (H88.sep.sub (by first | exact S0 | exact S1 | repeat (first | exact S1 | exact S0 | apply S2 | apply S3))) ?_
      refine htake 7 rfl (by kernel_rfl) (y_slS_hi rfl Try.underlying30 z_size38 rfl rfl (by omega) (by omega) (by omega)) rfl rfl rfl (fun _ h => (h.sub (by first | exact S0 | exact S1 | repeat (first | exact S1 | exact S0 | apply S2 | apply S3)))) H88 ?_
      clear H88; intro a89 H89
      refine hgo 8 rfl (by kernel_rfl) ?_
      replace H89 := H89.asRow (b := b87) (size := 76) (m := 0) (by repeat (first | exact Uh | apply Ut)) rfl (by unfold maxLen; omega)
      refine st_append rfl z_slice30 z_notint30 rfl rfl (fun _ => (by repeat (first | exact Uh | apply Ut))) (fun w hs => Src.slice ((Pool.rdp hL (rd_row (by repeat (first | exact Mh | apply Mt))) ((i : Int).toNat)) w hs) (by rw [Pool.wc_len (hL.take _), List.length_take, Nat.min_eq_left (show (i : Int).toNat ≤ L.length by omega)]) (Pool.wc_cell _)) (by unfold maxLen at *; first | omega | (simp only [List.length_cons, List.length_nil, List.length_append, List.length_map]; omega)) (by omega) rfl rfl rfl H89 ?_
      clear H89; intro v90 a90 wx90 hnil90 H90
      obtain ⟨Ar90, cr90, hvr90, hRr90, hmr90⟩ := row_shape (v := v90) H90.sep (by repeat (first | exact Mh | apply Mt))
      subst hvr90
      refine hfin (H90.sep.sub (by first | exact S0 | exact S1 | repeat (first | exact S1 | exact S0 | apply S2 | apply S3))) ?_
      refine hgo 16 rfl (by kernel_rfl) ?_
      refine st_append rfl z_slice30 z_notint30 rfl rfl (fun _ => (by repeat (first | exact Uh | apply Ut))) (fun w hs => Src.slice ((Pool.rds hL (rd_row (by repeat (first | exact Mh | apply Mt))) (((i : Int) + 1).toNat) cc hcap) w hs) (by rw [Pool.wc_len (hL.drop _), List.length_drop]) (Pool.wc_cell _)) (by unfold maxLen at *; first | omega | (simp only [List.length_cons, List.length_nil, List.length_append, List.length_map]; omega)) (by omega) rfl rfl rfl H90 ?_
      clear H90; intro v91 a91 wx91 hnil91 H91
      obtain ⟨ArT, crT, hvrT, hRrT, hmrT⟩ := row_shape (v := v91) H91.sep (by repeat (first | exact Mh | apply Mt))
      subst hvrT
      refine hfin (H91.sep.sub (by first | exact S0 | exact S1 | repeat (first | exact S1 | exact S0 | apply S2 | apply S3))) ?_
      refine htake 17 rfl (by kernel_rfl) (y_nilCheck rfl rfl) rfl rfl rfl (fun _ h => (h.sub (by first | exact S0 | exact S1 | repeat (first | exact S1 | exact S0 | apply S2 | apply S3)))) H91 ?_
      clear H91; intro a92 H92
      refine htake 18 rfl (by kernel_rfl) (y_fieldB rfl z_field63_1 rfl (by first | (simp only [Nat.zero_add, Nat.add_zero, Nat.reduceAdd]; rfl) | rfl)) rfl rfl rfl (fun _ h => (h.sub (by first | exact S0 | exact S1 | repeat (first | exact S1 | exact S0 | apply S2 | apply S3)))) H92 ?_
      clear H92; intro a93 H93
      refine hgo 19 rfl (by kernel_rfl) ?_
      refine st_store1N rfl z_size30 rfl rfl rfl (by repeat (first | exact Uh | apply Ut)) q_len_c2 q_set_c2_1 (by decide) rfl rfl H93 ?_
      clear H93; intro wx94 H94
      refine hfin (H94.sep.sub (by first | exact S0 | exact S1 | repeat (first | exact S1 | exact S0 | apply S2 | apply S3))) ?_
      refine hdone (by kernel_rfl) ?_
      refine then_n ?_
      refine wp_seq ?_
      refine reg ?_
      refine plain (y_loadAB rfl z_agg38 z_size38 rfl (by repeat (first | exact Mh | apply Mt)) (q_ld_c8b32b32c4_0_76 (by assumption) (by assumption)) (q_len_c8b32b32c4 (by assumption) (by assumption))) rfl rfl rfl H94 ?_
      clear H94; intro a95 H95
      refine st_storeN rfl z_size38 rfl rfl (agg_cells _) (by repeat (first | exact Uh | apply Ut)) (q_one_c8b32b32c4 rfl rfl rfl rfl rfl rfl rfl rfl rfl rfl rfl rfl) (q_len_c8b32b32c4 (by assumption) (by assumption)) (q_len_c8b32b32c4 (by assumption) (by assumption)) (q_spl_c8b32b32c4_0_c8b32b32c4 (by assumption) (by assumption) (by assumption) (by assumption)) (by decide) rfl rfl H95 ?_
      clear H95; intro wx96 H96
      refine fin ?_
      refine then_n ?_
      refine wp_ret ?_
      -- return 7
      refine retc rfl H96 rfl z_agg38 z_size38 (by repeat (first | exact Mh | apply Mt)) (q_len_c8b32b32c4 (by assumption) (by assumption)) ?_
      have hsx := H96.sep.sub (List.Sublist.cons_cons _ (List.Sublist.cons _ (List.Sublist.cons _ (List.Sublist.cons _ (List.Sublist.refl _)))))
      simp only [List.nil_append, Int.toNat_natCast, Nat.zero_add, Pool.cut_erase, Pool.len_erase hi] at hsx
      exact ⟨_, _, rfl, ⟨rfl, _, rfl⟩, hsx⟩
    · skip
      refine plain (y_loadB rfl z_agg30 rfl (by repeat (first | exact Mh | apply Mt)) q_ix_c2_1) rfl rfl rfl H86 ?_
      clear H86; intro a97 H97
      refine hfin (H97.sep.sub (by first | exact S0 | exact S1 | repeat (first | exact S1 | exact S0 | apply S2 | apply S3))) ?_
      refine htake 7 rfl (by kernel_rfl) (y_slS_hi rfl Try.underlying30 z_size38 rfl rfl (by omega) (by omega) (by omega)) rfl rfl rfl (fun _ h => (h.sub (by first | exact S0 | exact S1 | repeat (first | exact S1 | exact S0 | apply S2 | apply S3)))) H97 ?_
      clear H97; intro a98 H98
      refine hgo 1 rfl (by kernel_rfl) ?_
      refine st_buildSlice rfl Try.underlying30 z_size38 z_zero38 rfl rfl rfl (show _ = some ([] : List Value) from rfl) rfl rfl rfl H98 ?_
      clear H98; intro b99 a99 wx99 H99
      refine hfin (H99.sep.sub (by first | exact S0 | exact S1 | repeat (first | exact S1 | exact S0 | apply S2 | apply S3))) ?_
      refine hgo 8 rfl (by kernel_rfl) ?_
      replace H99 := H99.asRow (b := b99) (size := 76) (m := 0) (by repeat (first | exact Uh | apply Ut)) rfl (by unfold maxLen; omega)
      refine st_append rfl z_slice30 z_notint30 rfl rfl (fun _ => (by repeat (first | exact Uh | apply Ut))) (fun w hs => Src.slice ((Pool.rdp hL (rd_row (by repeat (first | exact Mh | apply Mt))) ((i : Int).toNat)) w hs) (by rw [Pool.wc_len (hL.take _), List.length_take, Nat.min_eq_left (show (i : Int).toNat ≤ L.length by omega)]) (Pool.wc_cell _)) (by unfold maxLen at *; first | omega | (simp only [List.length_cons, List.length_nil, List.length_append, List.length_map]; omega)) (by omega) rfl rfl rfl H99 ?_
      clear H99; intro v100 a100 wx100 hnil100 H100
      obtain ⟨Ar100, cr100, hvr100, hRr100, hmr100⟩ := row_shape (v := v100) H100.sep (by repeat (first | exact Mh | apply Mt))
      subst hvr100
      refine hfin (H100.sep.sub (by first | exact S0 | exact S1 | repeat (first | exact S1 | exact S0 | apply S2 | apply S3))) ?_
      refine hgo 16 rfl (by kernel_rfl) ?_
      refine st_append rfl z_slice30 z_notint30 rfl rfl (fun _ => (by repeat (first | exact Uh | apply Ut))) (fun w hs => Src.slice ((Pool.rds hL (rd_row (by repeat (first | exact Mh | apply Mt))) (((i : Int) + 1).toNat) cc hcap) w hs) (by rw [Pool.wc_len (hL.drop _), List.length_drop]) (Pool.wc_cell _)) (by unfold maxLen at *; first | omega | (simp only [List.length_cons, List.length_nil, List.length_append, List.length_map]; omega)) (by omega) rfl rfl rfl H100 ?_
      clear H100; intro v101 a101 wx101 hnil101 H101
      obtain ⟨ArT, crT, hvrT, hRrT, hmrT⟩ := row_shape (v := v101) H101.sep (by repeat (first | exact Mh | apply Mt))
      subst hvrT
      refine hfin (H101.sep.sub (by first | exact S0 | exact S1 | repeat (first | exact S1 | exact S0 | apply S2 | apply S3))) ?_
      refine htake 17 rfl (by kernel_rfl) (y_nilCheck rfl rfl) rfl rfl rfl (fun _ h => (h.sub (by first | exact S0 | exact S1 | repeat (first | exact S1 | exact S0 | apply S2 | apply S3)))) H101 ?_
      clear H101; intro a102 H102
      refine htake 18 rfl (by kernel_rfl) (y_fieldB rfl z_field63_1 rfl (by first | (simp only [Nat.zero_add, Nat.add_zero, Nat.reduceAdd]; rfl) | rfl)) rfl rfl rfl (fun _ h => (h.sub (by first | exact S0 | exact S1 | repeat (first | exact S1 | exact S0 | apply S2 | apply S3)))) H102 ?_
      clear H102; intro a103 H103
      refine hgo 19 rfl (by kernel_rfl) ?_
      refine st_store1N rfl z_size30 rfl rfl rfl (by repeat (first | exact Uh | apply Ut)) q_len_c2 q_set_c2_1 (by decide) rfl rfl H103 ?_
      clear H103; intro wx104 H104
      refine hfin (H104.sep.sub (by first | exact S0 | exact S1 | repeat (first | exact S1 | exact S0 | apply S2 | apply S3))) ?_
      refine hdone (by kernel_rfl) ?_
      refine then_n ?_
      refine wp_seq ?_
      refine reg ?_
      refine plain (y_loadAB rfl z_agg38 z_size38 rfl (by repeat (first | exact Mh | apply Mt)) (q_ld_c8b32b32c4_0_76 (by assumption) (by assumption)) (q_len_c8b32b32c4 (by assumption) (by assumption))) rfl rfl rfl H104 ?_
      clear H104; intro a105 H105
      refine st_storeN rfl z_size38 rfl rfl (agg_cells _) (by repeat (first | exact Uh | apply Ut)) (q_one_c8b32b32c4 rfl rfl rfl rfl rfl rfl rfl rfl rfl rfl rfl rfl) (q_len_c8b32b32c4 (by assumption) (by assumption)) (q_len_c8b32b32c4 (by assumption) (by assumption)) (q_spl_c8b32b32c4_0_c8b32b32c4 (by assumption) (by assumption) (by assumption) (by assumption)) (by decide) rfl rfl H105 ?_
      clear H105; intro wx106 H106
      refine fin ?_
      refine then_n ?_
      refine wp_ret ?_
      -- return 8
      refine retc rfl H106 rfl z_agg38 z_size38 (by repeat (first | exact Mh | apply Mt)) (q_len_c8b32b32c4 (by assumption) (by assumption)) ?_
      have hsx := H106.sep.sub (List.Sublist.cons_cons _ (List.Sublist.cons _ (List.Sublist.cons _ (List.Sublist.cons _ (List.Sublist.refl _)))))
      simp only [List.nil_append, Int.toNat_natCast, Nat.zero_add, Pool.cut_erase, Pool.len_erase hi] at hsx
      exact ⟨_, _, rfl, ⟨rfl, _, rfl⟩, hsx⟩

end Go.Proofs.Ytbdkgmkaakoigaa.P_Tk
