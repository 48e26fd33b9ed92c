/- Part of a proof about given Go functions: contracts of functions, or plain laws. -/
import Derived.Test.YtlhddgkbbdfacaaDoorS8
import Derived.Test.YtlhddgkbbdfacaaDoorS6
import Derived.Test.YtlhddgkbbdfacaaDoorS7
/- Chains of blocks, call by call. -/
namespace Go.Tree
open Go.Sx
open Go.Note (Z I64)
open Go.Inbox (BA Block ic bc flat_lenM flat_takeM flat_getM flat_pre memD)
theorem ic_cell (l : List Note.Item) : ∀ u ∈ ic l, u.oneCell' = true := by
  intro u hu
  simp only [ic, List.mem_flatten, List.mem_map] at hu
  obtain ⟨_, ⟨e, _, rfl⟩, hu⟩ := hu
  simp only [Note.Item.cells, List.mem_cons, List.not_mem_nil, or_false] at hu
  rcases hu with rfl | rfl | rfl | rfl <;> rfl
def bl (X : List BA) : List Block := X.map (·.b)
theorem bl_len (X : List BA) : (bl X).length = X.length := by simp [bl]
theorem bl_at {X : List BA} {k : Nat} (h : k < X.length) : (bl X).getD k Block.zero = (X.getD k BA.zero).b := by simp [bl, List.getD_eq_getElem?_getD, h]
theorem bl_app (X Y : List BA) : bl (X ++ Y) = bl X ++ bl Y := by simp [bl]
theorem bl_take (X : List BA) (k : Nat) : bl (X.take k) = (bl X).take k := by simp [bl, List.map_take]
theorem hashes_h (L : List Block) : H32 (hashes L) := hashes_each L
theorem hs_at {L : List Block} {k : Nat} (h : k < L.length) : (hashes L).getD k [] = (hash (L.getD k Block.zero)).1 := by
  simp [hashes, List.getD_eq_getElem?_getD, h]
theorem last_at {X : List BA} (h : 0 < X.length) : (hashes (bl X)).getD (X.length - 1) [] = (hash (last (bl X))).1 := by
  rw [hs_at (by rw [bl_len]; omega)]
  unfold last
  rw [bl_len]
theorem hc_hs (X : List BA) : (hc (hashes (bl X))).length = X.length * 32 := by rw [hc_len (hashes_h _), hashes_len, bl_len]
theorem hs_one (X : List BA) (x : BA) : hashes (bl (X ++ [x])) = hashes (bl X) ++ [(hash x.b).1] := by rw [bl_app]; exact hashes_snoc _ _
/-- Nothing is told of the memory but what is read. -/
def Keeps (I : List It) (w : World) (A : Option Addr) (cs : List Value) : Prop := ∀ w', Frm (fps I) w w' → Rd w' A cs
theorem Keeps.rd {I : List It} {w : World} {A : Option Addr} {cs : List Value} (h : Keeps I w A cs) : Rd w A cs := h w (Frm.refl _ _)
theorem Keeps.at_ {I l : List It} {w w' : World} {A : Option Addr} {cs : List Value} (h : Keeps I w A cs) (hs : Sep (fps I) w w' l) : Rd w' A cs := h w' hs.frm
/-- What lay there when a law began is kept by every call that owns new memory alone. -/
theorem keeps_old {w0 w : World} {l is lr : List It} {A : Option Addr} {cs : List Value} (hR : Rd w0 A cs) (H : Sep [] w0 w l) (hp : Picks l is lr) : Keeps is w A cs := fun w' F => by
  refine hR.frm (S := []) (H.frm.trans F fun b hb => ?_) (fun _ _ => by simp)
  obtain ⟨i, hi, hbi⟩ := mem_fps hb
  have := (H.perm hp.perm.symm).own i (List.mem_append_left _ hi) b hbi
  exact this
/-! ### Mine -/
theorem mine_full {c : Chain} {its : List Note.Item} {salt : Int} (h : 4096 ≤ c.height) : mine c its salt = (c, Z, 25) := if_pos h
theorem mine_bad {c : Chain} {its : List Note.Item} {salt : Int} (h : ¬ 4096 ≤ c.height) (h1 : (hash (behind c.L its salt)).2 ≠ 0) : mine c its salt = (c, Z, (hash (behind c.L its salt)).2) := by
  have e := grow_bad h1
  unfold mine
  rw [if_neg h, e, if_pos h1]
theorem mine_good {c : Chain} {its : List Note.Item} {salt : Int} (h : ¬ 4096 ≤ c.height) (h1 : (hash (behind c.L its salt)).2 = 0) : mine c its salt = (⟨c.L ++ [behind c.L its salt], c.depth, c.deepest⟩, (hash (behind c.L its salt)).1, 0) := by
  have e := grow_ok h1
  unfold mine
  rw [if_neg h, e, if_neg (fun z => z rfl)]
/-- Items of an argument. -/
structure IA where
  l : List Note.Item
  A : Option Addr
  c : Nat
def IA.zero : IA := ⟨[], none, 0⟩
structure IA.Wf (q : IA) : Prop where
  items : ∀ i ∈ q.l, Note.Item.Wf i
  bytes : q.l.length * 40 ≤ 140737488355328
theorem IA.wf_zero : IA.Wf IA.zero := ⟨fun i hi => absurd hi (by simp [IA.zero]), by simp [IA.zero]⟩
def iac (bs : List IA) : List Value := bs.map fun q => .slice q.A q.l.length q.c
theorem iac_at {bs : List IA} {k : Nat} (h : k < bs.length) : (iac bs)[k]? = some (.slice (bs.getD k IA.zero).A (bs.getD k IA.zero).l.length (bs.getD k IA.zero).c) := by
  unfold iac
  rw [List.getElem?_map, List.getElem?_eq_getElem h, List.getD_eq_getElem?_getD, List.getElem?_eq_getElem h]
  rfl
theorem iac_len (bs : List IA) : (iac bs).length = bs.length := by simp [iac]
def itl (bs : List IA) : List (List Note.Item) := bs.map (·.l)
theorem itl_len (bs : List IA) : (itl bs).length = bs.length := by simp [itl]
theorem itl_at {bs : List IA} {k : Nat} (h : k < bs.length) : (itl bs).getD k [] = (bs.getD k IA.zero).l := by simp [itl, List.getD_eq_getElem?_getD, h]
/-! ### Turn -/
theorem turn_neg {c : Chain} {u : Int} {bs : List (List Note.Item)} {salt : Int} (h : u < 0) : turn c u bs salt = (c, 2) := if_pos h
theorem turn_deepR {c : Chain} {u : Int} {bs : List (List Note.Item)} {salt : Int} (h : ¬ u < 0) (h1 : c.height < u) : turn c u bs salt = (c, 32) := by unfold turn; rw [if_neg h, if_pos h1]
theorem turn_few {c : Chain} {u : Int} {bs : List (List Note.Item)} {salt : Int} (h : ¬ u < 0) (h1 : ¬ c.height < u) (h2 : (bs.length : Int) ≤ u) : turn c u bs salt = (c, 2) := by unfold turn; rw [if_neg h, if_neg h1, if_pos h2]
theorem turn_full {c : Chain} {u : Int} {bs : List (List Note.Item)} {salt : Int} (h : ¬ u < 0) (h1 : ¬ c.height < u) (h2 : ¬ (bs.length : Int) ≤ u) (h3 : 4096 < c.height - u + bs.length) : turn c u bs salt = (c, 25) := by unfold turn; rw [if_neg h, if_neg h1, if_neg h2, if_pos h3]
theorem turn_bad {c : Chain} {u : Int} {bs : List (List Note.Item)} {salt : Int} (h : ¬ u < 0) (h1 : ¬ c.height < u) (h2 : ¬ (bs.length : Int) ≤ u) (h3 : ¬ 4096 < c.height - u + bs.length) (h4 : (grows (c.L.take (c.L.length - u.toNat)) salt bs).2 ≠ 0) : turn c u bs salt = (c, (grows (c.L.take (c.L.length - u.toNat)) salt bs).2) := by unfold turn; rw [if_neg h, if_neg h1, if_neg h2, if_neg h3, if_pos h4]
theorem turn_good {c : Chain} {u : Int} {bs : List (List Note.Item)} {salt : Int} (h : ¬ u < 0) (h1 : ¬ c.height < u) (h2 : ¬ (bs.length : Int) ≤ u) (h3 : ¬ 4096 < c.height - u + bs.length) (h4 : (grows (c.L.take (c.L.length - u.toNat)) salt bs).2 = 0) : turn c u bs salt = (⟨(grows (c.L.take (c.L.length - u.toNat)) salt bs).1, c.depth, max c.deepest u⟩, 0) := by unfold turn; rw [if_neg h, if_neg h1, if_neg h2, if_neg h3, if_neg (fun z => z h4)]
end Go.Tree
namespace Go.Tree
open Go.Sx
open Go.Inbox (BA ic)
theorem St.addFz1 {n : Nat} {S : List Nat} {w0 w : World} {ss : List (Nat × Value)} {l : List It} {a : Go.Act} (h : St n S w0 ss l a w) : St n S w0 ss (It.fz [BA.zero] :: l) a w :=
  ⟨h.fr, h.sep.add (Frm.refl _ _) (fun x hx => by rw [List.mem_singleton.1 hx]; exact .inl rfl) (by simp [It.fz, fzb, BA.zero])⟩
end Go.Tree
namespace Go.Tree
open Go.Sx
open Go.Note (Z I64)
open Go.Inbox (BA Block ic bc flat_lenM flat_takeM flat_getM flat_pre memD)
/-- A turn, so far: what stays, and what is new. -/
structure Far (L : List Block) (salt : Int) (bs : List (List Note.Item)) (k : Nat) (Y : List BA) : Prop where
  is : bl Y = (grows L salt (bs.take k)).1
  ok : (grows L salt (bs.take k)).2 = 0
theorem far_0 {L : List Block} {salt : Int} {bs : List (List Note.Item)} {Y : List BA} (h : bl Y = L) : Far L salt bs 0 Y := ⟨h, rfl⟩
theorem far_next {L : List Block} {salt : Int} {bs : List (List Note.Item)} {k : Nat} {Y : List BA} (h : Far L salt bs k Y) (hk : k < bs.length) {x : BA} (hx : x.b = behind (bl Y) (bs.getD k []) salt) (hh : (hash x.b).2 = 0) : Far L salt bs (k + 1) (Y ++ [x]) := by
  rw [hx, h.is] at hh
  have e := grows_step hk h.ok hh
  refine ⟨?_, by rw [e]⟩
  rw [e, bl_app, h.is]
  show _ ++ [x.b] = _
  rw [hx, h.is]
theorem far_fall {L : List Block} {salt : Int} {bs : List (List Note.Item)} {k : Nat} {Y : List BA} (h : Far L salt bs k Y) (hk : k < bs.length) (hh : (hash (behind (bl Y) (bs.getD k []) salt)).2 ≠ 0) : (grows L salt bs).2 = (hash (behind (bl Y) (bs.getD k []) salt)).2 := by
  rw [h.is] at hh ⊢
  exact grows_fall hk h.ok hh
theorem far_len {L : List Block} {salt : Int} {bs : List (List Note.Item)} {k : Nat} {Y : List BA} (h : Far L salt bs k Y) (hk : k ≤ bs.length) : Y.length = L.length + k := by
  have e := grows_len salt (bs.take k) L h.ok
  rw [← h.is, bl_len, List.length_take] at e
  omega
theorem far_all {L : List Block} {salt : Int} {bs : List (List Note.Item)} {k : Nat} {Y : List BA} (h : Far L salt bs k Y) (hk : bs.length ≤ k) : bl Y = (grows L salt bs).1 ∧ (grows L salt bs).2 = 0 := by
  have e := h.is
  have f := h.ok
  rw [List.take_of_length_le hk] at e f
  exact ⟨e, f⟩
theorem rd_pre {X : List BA} (hX : Wfs X) {w : World} {A : Option Addr} (h : Rd w A (bc X)) (k : Nat) : Rd w A (bc (X.take k)) := by rw [bc_pre hX]; exact h.take _
theorem rd_preh {X : List BA} {w : World} {A : Option Addr} (h : Rd w A (hc (hashes (bl X)))) (k : Nat) : Rd w A (hc (hashes (bl (X.take k)))) := by
  rw [bl_take, hashes_take, ← hc_takes k (hashes_h _)]
  exact h.take _
end Go.Tree
namespace Go.Tree
open Go.Sx
open Go.Note (Z I64)
open Go.Inbox (BA Block ic bc flat_lenM flat_takeM flat_getM flat_pre memD)
/-! ### The reference: blocks whose items lie in what was handed in -/
def ofIA (L : List Block) (q : IA) (salt : Int) : BA := ⟨behind L q.l salt, q.A, q.c⟩
def growX (Y : List BA) (q : IA) (salt : Int) : List BA := if (hash (behind (bl Y) q.l salt)).2 ≠ 0 then [] else Y ++ [ofIA (bl Y) q salt]
theorem growX_bad {Y : List BA} {q : IA} {salt : Int} (h : (hash (behind (bl Y) q.l salt)).2 ≠ 0) : growX Y q salt = [] := if_pos h
theorem growX_ok {Y : List BA} {q : IA} {salt : Int} (h : (hash (behind (bl Y) q.l salt)).2 = 0) : growX Y q salt = Y ++ [ofIA (bl Y) q salt] := if_neg (fun z => z h)
def mineX (Y : List BA) (q : IA) (salt : Int) : List BA := if 4097 ≤ (Y.length : Int) ∨ (hash (behind (bl Y) q.l salt)).2 ≠ 0 then Y else Y ++ [ofIA (bl Y) q salt]
theorem mineX_no {Y : List BA} {q : IA} {salt : Int} (h : 4097 ≤ (Y.length : Int) ∨ (hash (behind (bl Y) q.l salt)).2 ≠ 0) : mineX Y q salt = Y := if_pos h
theorem mineX_ok {Y : List BA} {q : IA} {salt : Int} (h : ¬ 4097 ≤ (Y.length : Int)) (h1 : (hash (behind (bl Y) q.l salt)).2 = 0) : mineX Y q salt = Y ++ [ofIA (bl Y) q salt] := if_neg (fun z => z.elim h (fun z => z h1))
theorem mineX_is (Y : List BA) (q : IA) (salt dp de : Int) : bl (mineX Y q salt) = (mine ⟨bl Y, dp, de⟩ q.l salt).1.L := by
  have hh : Chain.height (⟨bl Y, dp, de⟩ : Chain) = (Y.length : Int) - 1 := by show ((bl Y).length : Int) - 1 = _; rw [bl_len]
  by_cases h : 4097 ≤ (Y.length : Int)
  · rw [mineX_no (.inl h), mine_full (by omega)]
  · by_cases h1 : (hash (behind (bl Y) q.l salt)).2 = 0
    · rw [mineX_ok h h1, mine_good (by omega) h1, bl_app]
      rfl
    · rw [mineX_no (.inr h1), mine_bad (by omega) h1]
/-- A turn's blocks, one after the other. -/
def growsX (Y : List BA) (salt : Int) : List IA → List BA
  | [] => Y
  | q :: r => if (hash (behind (bl Y) q.l salt)).2 ≠ 0 then Y else growsX (Y ++ [ofIA (bl Y) q salt]) salt r
theorem growsX_is (salt : Int) : ∀ (bs : List IA) (Y : List BA), bl (growsX Y salt bs) = (grows (bl Y) salt (itl bs)).1
  | [], Y => rfl
  | q :: r, Y => by
    show bl (if _ then _ else _) = (grows (bl Y) salt (q.l :: itl r)).1
    by_cases h : (hash (behind (bl Y) q.l salt)).2 = 0
    · rw [if_neg (fun z => z h), growsX_is salt r, grows_cons (by rw [grow_ok h]), grow_ok h, bl_app]
      rfl
    · rw [if_pos h, grows_stop (by rw [grow_bad h]; exact h)]
theorem growsX_app (salt : Int) : ∀ (l m : List IA) (Y : List BA), (grows (bl Y) salt (itl l)).2 = 0 → growsX Y salt (l ++ m) = growsX (growsX Y salt l) salt m
  | [], m, Y, _ => rfl
  | q :: l, m, Y, h => by
    by_cases hg : (hash (behind (bl Y) q.l salt)).2 = 0
    · have e1 : growsX Y salt ((q :: l) ++ m) = growsX (Y ++ [ofIA (bl Y) q salt]) salt (l ++ m) := if_neg (fun z => z hg)
      have e2 : growsX Y salt (q :: l) = growsX (Y ++ [ofIA (bl Y) q salt]) salt l := if_neg (fun z => z hg)
      have e3 : bl (Y ++ [ofIA (bl Y) q salt]) = (grow (bl Y) q.l salt).1 := by rw [grow_ok hg, bl_app]; rfl
      rw [e1, e2]
      refine growsX_app salt l m _ ?_
      rw [e3]
      have : (grows (bl Y) salt (q.l :: itl l)).2 = 0 := h
      rwa [grows_cons (by rw [grow_ok hg])] at this
    · have : (grows (bl Y) salt (q.l :: itl l)).2 = 0 := h
      rw [grows_stop (by rw [grow_bad hg]; exact hg), grow_bad hg] at this
      exact absurd this hg
theorem growsX_step {Y : List BA} {salt : Int} {bs : List IA} {k : Nat} (hk : k < bs.length) (h : (grows (bl Y) salt (itl (bs.take k))).2 = 0) (h1 : (hash (behind (bl (growsX Y salt (bs.take k))) (bs.getD k IA.zero).l salt)).2 = 0) :
    growsX Y salt (bs.take (k + 1)) = growsX Y salt (bs.take k) ++ [ofIA (bl (growsX Y salt (bs.take k))) (bs.getD k IA.zero) salt] := by
  rw [Oct.take_succ IA.zero hk, growsX_app salt _ _ _ h]
  exact if_neg (fun z => z h1)
theorem itl_take (bs : List IA) (k : Nat) : itl (bs.take k) = (itl bs).take k := by simp [itl, List.map_take]
theorem far_x {Y : List BA} {salt : Int} {bs : List IA} {k : Nat} (h : (grows (bl Y) salt (itl (bs.take k))).2 = 0) : Far (bl Y) salt (itl bs) k (growsX Y salt (bs.take k)) := by
  refine ⟨?_, by rw [← itl_take]; exact h⟩
  rw [growsX_is, itl_take]
/-- What a chain of the reference's is behind a turn. -/
def turnX (Y : List BA) (u : Int) (bs : List IA) (salt : Int) : List BA :=
  if (turn ⟨bl Y, 0, 0⟩ u (itl bs) salt).2 = 0 then growsX (Y.take (Y.length - u.toNat)) salt bs else Y
theorem turn_any (L : List Block) (dp de dp' de' u : Int) (bs : List (List Note.Item)) (salt : Int) : (turn ⟨L, dp, de⟩ u bs salt).2 = (turn ⟨L, dp', de'⟩ u bs salt).2 ∧ (turn ⟨L, dp, de⟩ u bs salt).1.L = (turn ⟨L, dp', de'⟩ u bs salt).1.L := by
  have hh : Chain.height ⟨L, dp, de⟩ = Chain.height ⟨L, dp', de'⟩ := rfl
  unfold turn
  rw [hh]
  dsimp only
  repeat' split
  all_goals exact ⟨rfl, rfl⟩
theorem turnX_ok {Y : List BA} {u dp de : Int} {bs : List IA} {salt : Int} (h : (turn ⟨bl Y, dp, de⟩ u (itl bs) salt).2 = 0) : turnX Y u bs salt = growsX (Y.take (Y.length - u.toNat)) salt bs := if_pos (by rw [(turn_any (bl Y) 0 0 dp de u (itl bs) salt).1]; exact h)
theorem turnX_no {Y : List BA} {u dp de : Int} {bs : List IA} {salt : Int} (h : (turn ⟨bl Y, dp, de⟩ u (itl bs) salt).2 ≠ 0) : turnX Y u bs salt = Y := if_neg (by rw [(turn_any (bl Y) 0 0 dp de u (itl bs) salt).1]; exact h)
theorem turnX_is (Y : List BA) (u : Int) (bs : List IA) (salt dp de : Int) : bl (turnX Y u bs salt) = (turn ⟨bl Y, dp, de⟩ u (itl bs) salt).1.L := by
  by_cases h : (turn ⟨bl Y, dp, de⟩ u (itl bs) salt).2 = 0
  · rw [turnX_ok h, growsX_is, (turn_ok h).2.2, bl_take]
    dsimp only
    rw [bl_len]
  · rw [turnX_no h, turn_err h]
/-- All of a list's blocks have their items where they were, or from what is handed in. -/
def From (Q : BA → Prop) (q : IA) : Prop := ∀ L salt, Q (ofIA L q salt)
theorem mineX_all {Q : BA → Prop} {Y : List BA} {q : IA} {salt : Int} (h : ∀ y ∈ Y, Q y) (hq : ∀ L, (hash (behind L q.l salt)).2 = 0 → Q (ofIA L q salt)) : ∀ y ∈ mineX Y q salt, Q y := by
  unfold mineX
  split
  · exact h
  · rename_i h0
    intro y hy
    rcases List.mem_append.1 hy with hy | hy
    · exact h y hy
    · rw [List.mem_singleton.1 hy]
      exact hq _ (Decidable.of_not_not fun z => h0 (.inr z))
theorem growsX_all {Q : BA → Prop} {salt : Int} : ∀ (bs : List IA) (Y : List BA), (∀ y ∈ Y, Q y) → (∀ q ∈ bs, ∀ L, (hash (behind L q.l salt)).2 = 0 → Q (ofIA L q salt)) → ∀ y ∈ growsX Y salt bs, Q y
  | [], Y, h, _ => h
  | q :: r, Y, h, hq => by
    show ∀ y ∈ (if (hash (behind (bl Y) q.l salt)).2 ≠ 0 then Y else growsX (Y ++ [ofIA (bl Y) q salt]) salt r), Q y
    split
    · exact h
    · rename_i h0
      refine growsX_all r _ (fun y hy => ?_) (fun p hp => hq p (List.mem_cons_of_mem _ hp))
      rcases List.mem_append.1 hy with hy | hy
      · exact h y hy
      · rw [List.mem_singleton.1 hy]
        exact hq q List.mem_cons_self _ (Decidable.of_not_not h0)
theorem turnX_all {Q : BA → Prop} {Y : List BA} {u : Int} {bs : List IA} {salt : Int} (h : ∀ y ∈ Y, Q y) (hq : ∀ q ∈ bs, ∀ L, (hash (behind L q.l salt)).2 = 0 → Q (ofIA L q salt)) : ∀ y ∈ turnX Y u bs salt, Q y := by
  unfold turnX
  split
  · exact growsX_all bs _ (fun y hy => h y (List.mem_of_mem_take hy)) hq
  · exact h
theorem ofIA_w0 {L : List Block} {q : IA} {salt : Int} (hq : q.Wf) (hh : (hash (behind L q.l salt)).2 = 0) : W0 (ofIA L q salt) := by
  have h1 := (okBlock_is _).1 (hash_ok hh).1
  refine ⟨?_, ?_, hash_len _, hq.items, hq.bytes⟩
  · have := h1.1
    show I64 (behind L q.l salt).number
    unfold I64
    omega
  · have := h1.2.1
    show I64 (behind L q.l salt).salt
    unfold I64
    omega
end Go.Tree
namespace Go.Tree
theorem grow_h32 (L : List Inbox.Block) (its : List Note.Item) (salt : Int) : (grow L its salt).2.1.length = 32 := by
  unfold grow
  split
  · rfl
  · exact hash_len _
theorem grow_err2 (L : List Inbox.Block) (its : List Note.Item) (salt : Int) : (grow L its salt).2.2 = (hash (behind L its salt)).2 := by
  unfold grow
  split
  · rfl
  · rename_i h
    exact (Decidable.of_not_not h).symm
end Go.Tree
namespace Go.Tree
open Go.Sx
open Go.Inbox (BA ic bc)
/-- A row that is there from the first round on. -/
def rowIf (E : TypeId) (k : Nat) (v : Value) (Y : List BA) : It := if k = 0 then It.fz [] else It.row E 35 v Y.length (bc Y)
theorem rowIf_succ (E : TypeId) (k : Nat) (v : Value) (Y : List BA) : rowIf E (k + 1) v Y = It.row E 35 v Y.length (bc Y) := if_neg (Nat.succ_ne_zero k)
theorem rowIf_pos {E : TypeId} {k : Nat} {v : Value} {Y : List BA} (h : ¬ k = 0) : rowIf E k v Y = It.row E 35 v Y.length (bc Y) := if_neg h
theorem rowIf_rd {E : TypeId} {k : Nat} {v : Value} {Y : List BA} {w : World} (h : ¬ k = 0) (hp : (rowIf E k v Y).P w) : ∃ A c, v = .slice A Y.length c ∧ Rd w A (bc Y) := by
  rw [rowIf_pos h] at hp
  obtain ⟨A, c, e, hr, _⟩ := Row.rd hp
  exact ⟨A, c, e, hr⟩
theorem St.addIf {n : Nat} {S : List Nat} {w0 w : World} {ss : List (Nat × Value)} {l : List It} {a : Go.Act} {E : TypeId} {v : Value} {Y : List BA} (h : St n S w0 ss l a w) : St n S w0 ss (rowIf E 0 v Y :: l) a w := St.addFz h
end Go.Tree

/- What the tree must give at any rate. -/
namespace Go.Tree
open Go.Note (Z num)
open Go.Inbox (Block BA)
open Go.Note
def aw0 : List UInt8 := [88, 243, 169, 135, 250, 4, 5, 110, 26, 62, 3, 167, 34, 0, 3, 112, 26, 205, 46, 32, 86, 34, 235, 212, 242, 249, 119, 172, 50, 1, 168, 231]
theorem bare_ok {n : Int} {p : List UInt8} (hp : p.length = 32) (h : 0 ≤ n ∧ n ≤ 1099511627776) : (hash ⟨n, 0, p, []⟩).2 = 0 ∧ (hash ⟨n, 0, p, []⟩).1 = Sha.sum (Oct.list (texts ⟨n, 0, p, []⟩)).1 := by
  have h1 : (Oct.list (texts ⟨n, 0, p, []⟩)).2 = 0 := by
    refine list_small (by simp [texts]) ?_
    have h0 := num_len (n := 0) (by omega)
    have h2 := num_len (n := n) (by omega)
    simp only [texts, List.map_nil, List.flatten_cons, List.flatten_nil, List.length_append, List.length_nil]
    omega
  rw [hash_fine (by rw [okBlock_is]; exact ⟨h, ⟨by dsimp only; omega, by dsimp only; omega⟩, Nat.zero_le _⟩) rfl h1]
  exact ⟨rfl, rfl⟩
theorem aw_z : (hash Block.zero).1 = aw0 := by
  have h := (bare_ok (n := 0) (p := Z) Note.Z_len (by omega)).2
  rw [show Block.zero = ⟨0, 0, Z, []⟩ from rfl, h]
  have e : (Oct.list (texts ⟨0, 0, Z, []⟩)).1 = Sha.tz0T := by
    rw [Oct.list_ok (by simp [texts]) (by simp only [texts, List.map_nil]; rw [Note.num0]; decide)]
    unfold texts Oct.listL Oct.textL
    simp only [List.map_cons, List.map_nil, List.length_cons, List.length_nil, List.flatten_cons, List.flatten_nil, Note.num0]
    rw [show Z.length = 32 from Note.Z_len, Note.numL_small (by omega) (by omega), Note.numL_small (by omega) (by omega), Note.numL_small (by omega) (by omega)]
    decide
  rw [e, Sha.sum_tz0]
  rfl
theorem aw_b : (hash ⟨1, 0, aw0, []⟩).1 ≠ aw0 := by
  have h := (bare_ok (n := 1) (p := aw0) (by decide) (by omega)).2
  rw [h]
  have e : (Oct.list (texts ⟨1, 0, aw0, []⟩)).1 = Sha.tz1T := by
    rw [Oct.list_ok (by simp [texts]) (by simp only [texts, List.map_nil]; rw [Note.num0, Note.num1]; decide)]
    unfold texts Oct.listL Oct.textL
    simp only [List.map_cons, List.map_nil, List.length_cons, List.length_nil, List.flatten_cons, List.flatten_nil, Note.num0, Note.num1]
    rw [show aw0.length = 32 by decide, Note.numL_small (by omega) (by omega), Note.numL_small (by omega) (by omega), Note.numL_small (by omega) (by omega), Note.numL_small (by omega) (by omega)]
    decide
  rw [e, Sha.sum_tz1]
  intro h
  have h1 := congrArg (fun l => l.getD 0 0) h
  revert h1
  decide
def awB1 : Block := ⟨1, 0, aw0, []⟩
def awB2 : Block := ⟨2, 0, (hash awB1).1, []⟩
theorem aw_bh1 : behind [Block.zero] [] 0 = awB1 := by
  show (⟨1, 0, (hash Block.zero).1, []⟩ : Block) = _
  rw [aw_z]; rfl
theorem aw_bh2 : behind [Block.zero, awB1] [] 0 = awB2 := rfl
theorem aw_ok1 : (hash awB1).2 = 0 := (bare_ok (by decide) (by omega)).1
theorem aw_ok2 : (hash awB2).2 = 0 := (bare_ok (hash_len _) (by omega)).1
theorem aw_m1 (dp de : Int) : mine ⟨[Block.zero], dp, de⟩ [] 0 = (⟨[Block.zero, awB1], dp, de⟩, (hash awB1).1, 0) := by
  rw [mine_good (by show ¬ 4096 ≤ (1 : Int) - 1; omega) (by rw [aw_bh1]; exact aw_ok1), aw_bh1]; rfl
theorem aw_m2 (dp de : Int) : mine ⟨[Block.zero, awB1], dp, de⟩ [] 0 = (⟨[Block.zero, awB1, awB2], dp, de⟩, (hash awB2).1, 0) := by
  rw [mine_good (by show ¬ 4096 ≤ (2 : Int) - 1; omega) (by rw [aw_bh2]; exact aw_ok2), aw_bh2]; rfl
theorem aw_find : find (hashes [Block.zero, awB1, awB2]) (hash awB1).1 = (1, true) := by
  refine find_at (k := 1) (by simp [hashes]) rfl (fun j hj => ?_)
  have : j = 0 := by omega
  subst this
  show (hash Block.zero).1 ≠ _
  rw [aw_z]
  exact fun h => aw_b h.symm
theorem aw_x1 {X : List BA} {dp : Int} (h : bl X = (mine ⟨bl [BA.zero], dp, 0⟩ [] 0).1.L) : bl X = [Block.zero, awB1] := by
  rw [h, show bl [BA.zero] = [Block.zero] from rfl, aw_m1]
theorem aw_mx1 (dp de : Int) : mine ⟨bl [BA.zero], dp, de⟩ [] 0 = (⟨[Block.zero, awB1], dp, de⟩, (hash awB1).1, 0) := aw_m1 dp de
theorem aw_x2 {X Y : List BA} {dp : Int} (h : bl X = [Block.zero, awB1]) (hY : bl Y = (mine ⟨bl X, dp, 0⟩ [] 0).1.L) : bl Y = [Block.zero, awB1, awB2] := by
  rw [hY, h, aw_m2]
theorem aw_l1 {X : List BA} (h : bl X = [Block.zero, awB1]) : X.length = 2 := by rw [← bl_len X, h]; rfl
theorem aw_l2 {X : List BA} (h : bl X = [Block.zero, awB1, awB2]) : X.length = 3 := by rw [← bl_len X, h]; rfl
theorem aw_fin {X : List BA} (h : bl X = [Block.zero, awB1, awB2]) : Chain.final ⟨bl X, 1, 0⟩ = 1 := by rw [h]; rfl
theorem aw_fd {X : List BA} (h : bl X = [Block.zero, awB1, awB2]) : find (hashes (bl X)) (hash awB1).1 = (1, true) := by rw [h]; exact aw_find
end Go.Tree

/- What a call of a chain is among the arguments. -/
namespace Go.Tree
open Go.Note (Z num)
open Go.Inbox (Block BA)
open Go.Sx
structure Act where
  kind : Int
  under : Int
  salt : Int
  bs : List IA
  D : Option Addr
  cd : Nat
def Act.zero : Act := ⟨0, 0, 0, [], none, 0⟩
def Act.cells (x : Act) : List Value := [i64 x.kind, i64 x.under, i64 x.salt, .slice x.D x.bs.length x.cd]
structure Act.Wf (W : World) (x : Act) : Prop where
  kind : Note.I64 x.kind
  under : Note.I64 x.under
  salt : Note.I64 x.salt
  ok : ∀ q ∈ x.bs, IA.Wf q
  rd : Rd W x.D (iac x.bs)
  rds : ∀ q ∈ x.bs, Rd W q.A (Inbox.ic q.l)
  len : x.bs.length ≤ 9223372036854775807
  cap : x.bs.length ≤ x.cd
theorem iac_flat (bs : List IA) : (bs.map fun q => [Value.slice q.A q.l.length q.c]).flatten = iac bs := by
  induction bs with
  | nil => rfl
  | cons q r ih => simp only [List.map_cons, List.flatten_cons, ih]; rfl
end Go.Tree

/- Chains under a list of calls. -/
namespace Go.Tree
open Go.Note (Z num I64)
open Go.Inbox (Block BA bc ic flat_lenM flat_takeM flat_getM memD)
open Go.Sx
structure Grown (X : List BA) (de : Int) : Prop where
  wf : Wfs X
  pos : 0 < X.length
  len : X.length ≤ 4097
  dpi : I64 de
  dp0 : 0 ≤ de
  link : Linked (bl X)
theorem grown_new : Grown [BA.zero] 0 := ⟨Wfs.one w0_zero, by decide, by decide, by decide, by decide, linked_zero⟩
theorem Grown.small {X : List BA} {de : Int} (h : Grown X de) : ∀ y ∈ X, y.b.items.length ≤ 32 := fun y hy => by
  obtain ⟨k, hk, e⟩ := List.getElem_of_mem hy
  have h1 := (h.link.ok k (by rw [bl_len]; exact hk)).1
  rw [bl_at hk] at h1
  have h2 := hash_items h1
  rw [List.getD_eq_getElem?_getD, List.getElem?_eq_getElem hk, e] at h2
  exact h2
theorem bl_h {X : List BA} {dp de : Int} : (⟨bl X, dp, de⟩ : Chain).height = (X.length : Int) - 1 := by show ((bl X).length : Int) - 1 = _; rw [bl_len]
theorem len_of {X : List BA} {c : Chain} (h : bl X = c.L) : X.length = c.L.length := by rw [← h, bl_len]
theorem Grown.mine {X X' : List BA} {dp de : Int} (h : Grown X de) {its : List Note.Item} {salt : Int} (hX : bl X' = (mine ⟨bl X, dp, de⟩ its salt).1.L) (hW : Wfs X') : Grown X' de := by
  have h1 := mine_some (c := ⟨bl X, dp, de⟩) (by show 0 < (bl X).length; rw [bl_len]; exact h.pos) its salt
  have h2 := height_le_mine (c := ⟨bl X, dp, de⟩) (by rw [bl_h]; have := h.len; omega) its salt
  have h3 := linked_mine (c := ⟨bl X, dp, de⟩) h.link its salt
  have h4 := len_of hX
  unfold Chain.height at h2
  exact ⟨hW, by omega, by omega, h.dpi, h.dp0, by rw [hX]; exact h3⟩
theorem Grown.turn {X X' : List BA} {dp de u : Int} (h : Grown X de) {bs : List (List Note.Item)} {salt : Int} (hu : I64 u) (hX : bl X' = (turn ⟨bl X, dp, de⟩ u bs salt).1.L) (hW : Wfs X') : Grown X' (turn ⟨bl X, dp, de⟩ u bs salt).1.deepest := by
  have h1 := turn_some (c := ⟨bl X, dp, de⟩) (by show 0 < (bl X).length; rw [bl_len]; exact h.pos) u bs salt
  have h2 := height_le_turn (c := ⟨bl X, dp, de⟩) (by rw [bl_h]; have := h.len; omega) u bs salt
  have h3 := linked_turn (c := ⟨bl X, dp, de⟩) h.link u bs salt
  have h4 := len_of hX
  have h5 := (turn_deep ⟨bl X, dp, de⟩ u bs salt).2
  unfold Chain.height at h2
  have h6 := h.dpi; have h7 := h.dp0
  unfold I64 at h6 hu
  refine ⟨hW, by omega, by omega, ?_, ?_, by rw [hX]; exact h3⟩
  · unfold I64
    rcases h5 with e | e <;> rw [e] <;> dsimp only <;> omega
  · rcases h5 with e | e <;> rw [e] <;> dsimp only <;> omega
theorem take_all {X N : List BA} {n : Int} (hn : n = (X.length : Int) - 1) (h0 : 0 < X.length) (h : bl N = (bl X).take (n + 1).toNat) : bl N = bl X := by
  rw [h, List.take_of_length_le (by rw [bl_len]; omega)]
theorem len_bl {X N : List BA} (h : bl N = bl X) : N.length = X.length := by rw [← bl_len, h, bl_len]
theorem at_bl {X N : List BA} (h : bl N = bl X) {k : Nat} (hk : k < X.length) : (N.getD k BA.zero).b = (X.getD k BA.zero).b := by rw [← bl_at hk, ← bl_at (by rw [len_bl h]; exact hk), h]
theorem Grown.ok {X : List BA} {de : Int} (h : Grown X de) {k : Nat} (hk : k < X.length) : (hash (X.getD k BA.zero).b).2 = 0 ∧ (X.getD k BA.zero).b.number = (k : Int) := by
  have := h.link.ok k (by rw [bl_len]; exact hk)
  rw [bl_at hk] at this
  exact ⟨this.1, this.2.1⟩
theorem Grown.next {X : List BA} {de : Int} (h : Grown X de) {k : Nat} (hk : k + 1 < X.length) : (X.getD (k + 1) BA.zero).b.parent = (hash (X.getD k BA.zero).b).1 := by
  have := h.link.next k (by rw [bl_len]; exact hk)
  rw [bl_at hk, bl_at (by omega)] at this
  exact this
theorem Grown.fin {X : List BA} {dp de : Int} (h : Grown X de) (hd : 0 ≤ dp) : 0 ≤ (⟨bl X, dp, de⟩ : Chain).final ∧ (⟨bl X, dp, de⟩ : Chain).final ≤ (X.length : Int) - 1 := by
  have := final_ge (c := ⟨bl X, dp, de⟩) (by show 0 < (bl X).length; rw [bl_len]; exact h.pos) hd
  rw [bl_h] at this
  exact this
structure Did (X X2 : List BA) (dp de u : Int) (m : Nat) (t : Chain × Int) : Prop where
  u0 : 0 ≤ u
  uh : u ≤ (X.length : Int) - 1
  lt : u < m
  len : X2.length = X.length - u.toNat + m
  pre : (bl X2).take (X.length - u.toNat) = (bl X).take (X.length - u.toNat)
  deep : t.1.deepest = max de u
theorem did {X X2 : List BA} {dp de u : Int} {bs : List IA} {salt : Int} (h : (turn ⟨bl X, dp, de⟩ u (itl bs) salt).2 = 0) (hX : bl X2 = (turn ⟨bl X, dp, de⟩ u (itl bs) salt).1.L) : Did X X2 dp de u bs.length (turn ⟨bl X, dp, de⟩ u (itl bs) salt) := by
  obtain ⟨⟨h1, h2, h3, h4⟩, h5, h6⟩ := turn_ok h
  have h7 := turn_len h
  have h8 := len_of hX
  rw [bl_h] at h2
  rw [itl_len] at h3 h7
  refine ⟨h1, h2, h3, ?_, ?_, by rw [h6]⟩
  · rw [h8, h7]; show (bl X).length - u.toNat + _ = _; rw [bl_len]
  · rw [hX, h6]
    dsimp only
    obtain ⟨r, hr⟩ := grows_pre salt (itl bs) ((bl X).take ((bl X).length - u.toNat))
    rw [← hr, bl_len, List.take_append_of_le_length (by rw [List.length_take, bl_len]; omega), List.take_take]
    congr 1
    omega
/-! ### The list of calls -/
def acs (l : List Act) : List Value := (l.map Act.cells).flatten
theorem acs_len (l : List Act) : (acs l).length = l.length * 4 := flat_lenM l fun _ _ => rfl
theorem acs_take (l : List Act) (k : Nat) (hk : k < l.length) : ((acs l).drop (k * 4)).take 4 = Act.cells (l.getD k Act.zero) := flat_takeM _ l k (fun _ _ => rfl) hk
theorem atA {w : World} {l : List Act} (h : ∀ x ∈ l, Act.Wf w x) {k : Nat} (hk : k < l.length) : Act.Wf w (l.getD k Act.zero) := h _ (memD _ hk)
abbrev q0 (x : Act) : IA := x.bs.getD 0 IA.zero
theorem Act.Wf.q0 {w : World} {x : Act} (h : Act.Wf w x) : IA.Wf (q0 x) ∧ Rd w (Tree.q0 x).A (ic (Tree.q0 x).l) := by
  by_cases e : 0 < x.bs.length
  · exact ⟨h.ok _ (memD _ e), h.rds _ (memD _ e)⟩
  · have : x.bs = [] := List.length_eq_zero_iff.1 (by omega)
    unfold Tree.q0
    rw [this]
    exact ⟨IA.wf_zero, Rd.nil _ _⟩
abbrev fewb (x : Act) : List IA := x.bs.take 12
theorem Act.Wf.few {w : World} {x : Act} (h : Act.Wf w x) : (∀ q ∈ fewb x, IA.Wf q) ∧ (fewb x).length ≤ 1000000 ∧ Rd w x.D (iac (fewb x)) ∧ ∀ q ∈ fewb x, Rd w q.A (ic q.l) := by
  refine ⟨fun q hq => h.ok q (List.mem_of_mem_take hq), by rw [List.length_take]; omega, ?_, fun q hq => h.rds q (List.mem_of_mem_take hq)⟩
  have : iac (fewb x) = (iac x.bs).take 12 := by unfold iac; rw [List.map_take]
  rw [this]
  exact h.rd.take _
end Go.Tree

/- Both programs' chains, call by call. -/
namespace Go.Tree
open Go.Note (Z num I64)
open Go.Inbox (Block BA bc ic memD)
open Go.Sx
theorem keeps_sub {I : List It} {w wc : World} {A : Option Addr} {cs : List Value} {l is lr : List It} (hK : Keeps I w A cs) (H : Sep (fps I) w wc l) (hp : Picks l is lr) : Keeps is wc A cs := fun w' F => hK w' (H.frm.trans F fun b hb => by
  obtain ⟨i, hi, hbi⟩ := mem_fps hb
  exact H.own i (hp.perm.symm.subset (List.mem_append_left _ hi)) b hbi)
structure ActK (I : List It) (w : World) (x : Act) : Prop where
  wf : Act.Wf w x
  kd : Keeps I w x.D (iac x.bs)
  kq : ∀ q ∈ x.bs, Keeps I w q.A (ic q.l)
theorem ActK.q0 {I : List It} {w : World} {x : Act} (h : ActK I w x) : Keeps I w (Tree.q0 x).A (ic (Tree.q0 x).l) := by
  by_cases e : 0 < x.bs.length
  · exact h.kq _ (memD _ e)
  · have : x.bs = [] := List.length_eq_zero_iff.1 (by omega)
    unfold Tree.q0
    rw [this]
    exact fun _ _ => Rd.nil _ _
theorem ActK.few {I : List It} {w : World} {x : Act} (h : ActK I w x) : Keeps I w x.D (iac (fewb x)) ∧ ∀ q ∈ fewb x, Keeps I w q.A (ic q.l) := by
  refine ⟨fun w' F => ?_, fun q hq => h.kq q (List.mem_of_mem_take hq)⟩
  have : iac (fewb x) = (iac x.bs).take 12 := by unfold iac; rw [List.map_take]
  rw [this]
  exact (h.kd w' F).take _
theorem actK_old {w0 w : World} {l is lr : List It} {x : Act} (h : Act.Wf w0 x) (hw : Act.Wf w x) (H : Sep [] w0 w l) (hp : Picks l is lr) : ActK is w x := ⟨hw, keeps_old h.rd H hp, fun q hq => keeps_old (h.rds q hq) H hp⟩
theorem Act.Wf.at_ {w0 w : World} {l : List It} {x : Act} (h : Act.Wf w0 x) (H : Sep [] w0 w l) : Act.Wf w x := ⟨h.kind, h.under, h.salt, h.ok, Rd.frm h.rd H.frm (by simp), fun q hq => Rd.frm (h.rds q hq) H.frm (by simp), h.len, h.cap⟩
def doX (Y : List BA) (x : Act) : List BA := if x.kind < 2 then mineX Y (q0 x) x.salt else turnX Y x.under (fewb x) x.salt
theorem doX_mine {Y : List BA} {x : Act} (h : x.kind < 2) : doX Y x = mineX Y (q0 x) x.salt := if_pos h
theorem doX_turn {Y : List BA} {x : Act} (h : ¬ x.kind < 2) : doX Y x = turnX Y x.under (fewb x) x.salt := if_neg h
def QOld (w : World) (y : BA) : Prop := W0 y ∧ Rd w y.A (ic y.b.items)
theorem doX_all {w : World} {Y : List BA} {x : Act} (h : ∀ y ∈ Y, QOld w y) (hx : Act.Wf w x) : ∀ y ∈ doX Y x, QOld w y := by
  by_cases hk : x.kind < 2
  · rw [doX_mine hk]
    exact mineX_all h fun L hh => ⟨ofIA_w0 hx.q0.1 hh, hx.q0.2⟩
  · rw [doX_turn hk]
    exact turnX_all h fun q hq L hh => ⟨ofIA_w0 (hx.few.1 q hq) hh, hx.few.2.2.2 q hq⟩
theorem mine_h32 (c : Chain) (its : List Note.Item) (salt : Int) : (mine c its salt).2.1.length = 32 := by
  unfold mine
  split
  · exact Note.Z_len
  split
  · exact Note.Z_len
  · exact grow_h32 _ _ _
theorem w0_any (A : Option Addr) (c : Nat) : W0 ⟨Block.zero, A, c⟩ := ⟨w0_zero.number, w0_zero.salt, w0_zero.parent, w0_zero.items, w0_zero.bytes⟩
theorem q_zero (w : World) : ∀ y ∈ [BA.zero], QOld w y := fun y hy => by rw [List.mem_singleton.1 hy]; exact ⟨w0_zero, .inl rfl⟩
theorem fin_eq {X Y : List BA} {dp de : Int} (h : bl Y = bl X) : (⟨bl X, dp, de⟩ : Chain).final = (⟨bl Y, dp, de⟩ : Chain).final := by rw [h]
def bkAt (X : List BA) (n : Int) : Block := if n < 0 ∨ (X.length : Int) ≤ n then Block.zero else (X.getD n.toNat BA.zero).b
def erAt (X : List BA) (n : Int) : Int := if n < 0 ∨ (X.length : Int) ≤ n then 31 else 0
theorem bkAt_out {X : List BA} {n : Int} (h : n < 0 ∨ (X.length : Int) ≤ n) : bkAt X n = Block.zero ∧ erAt X n = 31 := ⟨if_pos h, if_pos h⟩
theorem bkAt_in {X : List BA} {n : Int} (h : ¬ (n < 0 ∨ (X.length : Int) ≤ n)) : bkAt X n = (X.getD n.toNat BA.zero).b ∧ erAt X n = 0 := ⟨if_neg h, if_neg h⟩
theorem bkAt_par {X : List BA} (hX : Wfs X) (n : Int) : (bkAt X n).parent.length = 32 := by
  by_cases h : n < 0 ∨ (X.length : Int) ≤ n
  · rw [(bkAt_out h).1]; exact Note.Z_len
  · rw [(bkAt_in h).1]; exact (hX.at_ (by omega)).parent
def hhAt (X : List BA) (n : Int) : List UInt8 := if n < 0 ∨ (X.length : Int) ≤ n then Z else (hash (X.getD n.toNat BA.zero).b).1
theorem hhAt_len (X : List BA) (n : Int) : (hhAt X n).length = 32 := by
  unfold hhAt
  split
  · exact Note.Z_len
  · exact hash_len _
theorem hhAt_out {X : List BA} {n : Int} (h : n < 0 ∨ (X.length : Int) ≤ n) : hhAt X n = Z := if_pos h
theorem hhAt_in {X : List BA} {n : Int} (h : ¬ (n < 0 ∨ (X.length : Int) ≤ n)) : hhAt X n = (hash (X.getD n.toNat BA.zero).b).1 := if_neg h
theorem find_le {hs : List (List UInt8)} {h : List UInt8} {n : Nat} (hn : n < hs.length) (he : hs.getD n [] = h) : ∃ j, j ≤ n ∧ find hs h = ((j : Int), true) := by
  have key : ∀ m, m ≤ n → hs.getD m [] = h → ∃ j, j ≤ m ∧ find hs h = ((j : Int), true) := by
    intro m
    induction m using Nat.strongRecOn with
    | ind m ih =>
      intro hm hme
      by_cases hx : ∃ j, j < m ∧ hs.getD j [] = h
      · obtain ⟨j, hj, hje⟩ := hx
        obtain ⟨i, hi, hf⟩ := ih j hj (by omega) hje
        exact ⟨i, by omega, hf⟩
      · exact ⟨m, Nat.le_refl _, find_at (by omega) hme fun j hj e => hx ⟨j, hj, e⟩⟩
  exact key n (Nat.le_refl _) he
theorem find_blk {X : List BA} {n : Nat} (hn : n < X.length) : ∃ j, j ≤ n ∧ find (hashes (bl X)) (hash (X.getD n BA.zero).b).1 = ((j : Int), true) :=
  find_le (by rw [hashes_len, bl_len]; exact hn) (by rw [hs_at (by rw [bl_len]; exact hn), bl_at hn])
end Go.Tree

/- Own words: an effect in a drawn region, said shortly. -/
set_option linter.unusedVariables false
namespace Go.Sx
open Go.RowKit
variable {P : Program} {S : List Nat} {w0 w : World} {l ls : List It} {a : Act} {rl : List Oper} {Q : Exit → Act → World → Prop} {fuel : Nat} {listed : Array Bool}
theorem hfinA (H : Sep S w0 w l) (h : wpAnyH P .any rl.toArray (NoPanic Q) (fun w => Sep S w0 w ls) fuel listed a w) (hs : ls.Sublist l := by repeat (first | exact S1 | exact S0 | apply S2 | apply S3)) : wpList P rl.toArray (HQ P rl Q (fun w => Sep S w0 w ls) fuel listed) [] a w := hfin (H.sub hs) h
end Go.Sx
