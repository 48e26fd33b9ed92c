/- Part of a proof about given Go functions: contracts of functions, or plain laws. -/
import Derived.Test.YtlhddgkbbdfacaaDoorS7
import Derived.Test.YtlhddgkbbdfacaaDoorS5
import Derived.Test.YtlhddgkbbdfacaaDoorS6
import Derived.RangeFuncRecord
import Derived.RangeFuncCalls
import Derived.Test.YtlhddgkbbdfacaaDoorS4
/- Chains of blocks, call by call. -/
namespace Go.Tree
open Go.Sx
open Go.Note (Z I64)
open Go.Inbox (BA Block ic bc flat_lenM flat_takeM flat_getM flat_pre memD)
theorem ic_cell (l : List Note.Item) : ∀ u ∈ ic l, u.oneCell' = true := by
  intro u hu
  simp only [ic, List.mem_flatten, List.mem_map] at hu
  obtain ⟨_, ⟨e, _, rfl⟩, hu⟩ := hu
  simp only [Note.Item.cells, List.mem_cons, List.not_mem_nil, or_false] at hu
  rcases hu with rfl | rfl | rfl | rfl <;> rfl
def bl (X : List BA) : List Block := X.map (·.b)
theorem bl_len (X : List BA) : (bl X).length = X.length := by simp [bl]
theorem bl_at {X : List BA} {k : Nat} (h : k < X.length) : (bl X).getD k Block.zero = (X.getD k BA.zero).b := by simp [bl, List.getD_eq_getElem?_getD, h]
theorem bl_app (X Y : List BA) : bl (X ++ Y) = bl X ++ bl Y := by simp [bl]
theorem bl_take (X : List BA) (k : Nat) : bl (X.take k) = (bl X).take k := by simp [bl, List.map_take]
theorem hashes_h (L : List Block) : H32 (hashes L) := hashes_each L
theorem hs_at {L : List Block} {k : Nat} (h : k < L.length) : (hashes L).getD k [] = (hash (L.getD k Block.zero)).1 := by
  simp [hashes, List.getD_eq_getElem?_getD, h]
theorem last_at {X : List BA} (h : 0 < X.length) : (hashes (bl X)).getD (X.length - 1) [] = (hash (last (bl X))).1 := by
  rw [hs_at (by rw [bl_len]; omega)]
  unfold last
  rw [bl_len]
theorem hc_hs (X : List BA) : (hc (hashes (bl X))).length = X.length * 32 := by rw [hc_len (hashes_h _), hashes_len, bl_len]
theorem hs_one (X : List BA) (x : BA) : hashes (bl (X ++ [x])) = hashes (bl X) ++ [(hash x.b).1] := by rw [bl_app]; exact hashes_snoc _ _
/-- Nothing is told of the memory but what is read. -/
def Keeps (I : List It) (w : World) (A : Option Addr) (cs : List Value) : Prop := ∀ w', Frm (fps I) w w' → Rd w' A cs
theorem Keeps.rd {I : List It} {w : World} {A : Option Addr} {cs : List Value} (h : Keeps I w A cs) : Rd w A cs := h w (Frm.refl _ _)
theorem Keeps.at_ {I l : List It} {w w' : World} {A : Option Addr} {cs : List Value} (h : Keeps I w A cs) (hs : Sep (fps I) w w' l) : Rd w' A cs := h w' hs.frm
/-- What lay there when a law began is kept by every call that owns new memory alone. -/
theorem keeps_old {w0 w : World} {l is lr : List It} {A : Option Addr} {cs : List Value} (hR : Rd w0 A cs) (H : Sep [] w0 w l) (hp : Picks l is lr) : Keeps is w A cs := fun w' F => by
  refine hR.frm (S := []) (H.frm.trans F fun b hb => ?_) (fun _ _ => by simp)
  obtain ⟨i, hi, hbi⟩ := mem_fps hb
  have := (H.perm hp.perm.symm).own i (List.mem_append_left _ hi) b hbi
  exact this
/-! ### Mine -/
theorem mine_full {c : Chain} {its : List Note.Item} {salt : Int} (h : 4096 ≤ c.height) : mine c its salt = (c, Z, 25) := if_pos h
theorem mine_bad {c : Chain} {its : List Note.Item} {salt : Int} (h : ¬ 4096 ≤ c.height) (h1 : (hash (behind c.L its salt)).2 ≠ 0) : mine c its salt = (c, Z, (hash (behind c.L its salt)).2) := by
  have e := grow_bad h1
  unfold mine
  rw [if_neg h, e, if_pos h1]
theorem mine_good {c : Chain} {its : List Note.Item} {salt : Int} (h : ¬ 4096 ≤ c.height) (h1 : (hash (behind c.L its salt)).2 = 0) : mine c its salt = (⟨c.L ++ [behind c.L its salt], c.depth, c.deepest⟩, (hash (behind c.L its salt)).1, 0) := by
  have e := grow_ok h1
  unfold mine
  rw [if_neg h, e, if_neg (fun z => z rfl)]
/-- Items of an argument. -/
structure IA where
  l : List Note.Item
  A : Option Addr
  c : Nat
def IA.zero : IA := ⟨[], none, 0⟩
structure IA.Wf (q : IA) : Prop where
  items : ∀ i ∈ q.l, Note.Item.Wf i
  bytes : q.l.length * 40 ≤ 140737488355328
theorem IA.wf_zero : IA.Wf IA.zero := ⟨fun i hi => absurd hi (by simp [IA.zero]), by simp [IA.zero]⟩
def iac (bs : List IA) : List Value := bs.map fun q => .slice q.A q.l.length q.c
theorem iac_at {bs : List IA} {k : Nat} (h : k < bs.length) : (iac bs)[k]? = some (.slice (bs.getD k IA.zero).A (bs.getD k IA.zero).l.length (bs.getD k IA.zero).c) := by
  unfold iac
  rw [List.getElem?_map, List.getElem?_eq_getElem h, List.getD_eq_getElem?_getD, List.getElem?_eq_getElem h]
  rfl
theorem iac_len (bs : List IA) : (iac bs).length = bs.length := by simp [iac]
def itl (bs : List IA) : List (List Note.Item) := bs.map (·.l)
theorem itl_len (bs : List IA) : (itl bs).length = bs.length := by simp [itl]
theorem itl_at {bs : List IA} {k : Nat} (h : k < bs.length) : (itl bs).getD k [] = (bs.getD k IA.zero).l := by simp [itl, List.getD_eq_getElem?_getD, h]
/-! ### Turn -/
theorem turn_neg {c : Chain} {u : Int} {bs : List (List Note.Item)} {salt : Int} (h : u < 0) : turn c u bs salt = (c, 2) := if_pos h
theorem turn_deepR {c : Chain} {u : Int} {bs : List (List Note.Item)} {salt : Int} (h : ¬ u < 0) (h1 : c.height < u) : turn c u bs salt = (c, 32) := by unfold turn; rw [if_neg h, if_pos h1]
theorem turn_few {c : Chain} {u : Int} {bs : List (List Note.Item)} {salt : Int} (h : ¬ u < 0) (h1 : ¬ c.height < u) (h2 : (bs.length : Int) ≤ u) : turn c u bs salt = (c, 2) := by unfold turn; rw [if_neg h, if_neg h1, if_pos h2]
theorem turn_full {c : Chain} {u : Int} {bs : List (List Note.Item)} {salt : Int} (h : ¬ u < 0) (h1 : ¬ c.height < u) (h2 : ¬ (bs.length : Int) ≤ u) (h3 : 4096 < c.height - u + bs.length) : turn c u bs salt = (c, 25) := by unfold turn; rw [if_neg h, if_neg h1, if_neg h2, if_pos h3]
theorem turn_bad {c : Chain} {u : Int} {bs : List (List Note.Item)} {salt : Int} (h : ¬ u < 0) (h1 : ¬ c.height < u) (h2 : ¬ (bs.length : Int) ≤ u) (h3 : ¬ 4096 < c.height - u + bs.length) (h4 : (grows (c.L.take (c.L.length - u.toNat)) salt bs).2 ≠ 0) : turn c u bs salt = (c, (grows (c.L.take (c.L.length - u.toNat)) salt bs).2) := by unfold turn; rw [if_neg h, if_neg h1, if_neg h2, if_neg h3, if_pos h4]
theorem turn_good {c : Chain} {u : Int} {bs : List (List Note.Item)} {salt : Int} (h : ¬ u < 0) (h1 : ¬ c.height < u) (h2 : ¬ (bs.length : Int) ≤ u) (h3 : ¬ 4096 < c.height - u + bs.length) (h4 : (grows (c.L.take (c.L.length - u.toNat)) salt bs).2 = 0) : turn c u bs salt = (⟨(grows (c.L.take (c.L.length - u.toNat)) salt bs).1, c.depth, max c.deepest u⟩, 0) := by unfold turn; rw [if_neg h, if_neg h1, if_neg h2, if_neg h3, if_neg (fun z => z h4)]
end Go.Tree
namespace Go.Tree
open Go.Sx
open Go.Inbox (BA ic)
theorem St.addFz1 {n : Nat} {S : List Nat} {w0 w : World} {ss : List (Nat × Value)} {l : List It} {a : Go.Act} (h : St n S w0 ss l a w) : St n S w0 ss (It.fz [BA.zero] :: l) a w :=
  ⟨h.fr, h.sep.add (Frm.refl _ _) (fun x hx => by rw [List.mem_singleton.1 hx]; exact .inl rfl) (by simp [It.fz, fzb, BA.zero])⟩
end Go.Tree
namespace Go.Tree
open Go.Sx
open Go.Note (Z I64)
open Go.Inbox (BA Block ic bc flat_lenM flat_takeM flat_getM flat_pre memD)
/-- A turn, so far: what stays, and what is new. -/
structure Far (L : List Block) (salt : Int) (bs : List (List Note.Item)) (k : Nat) (Y : List BA) : Prop where
  is : bl Y = (grows L salt (bs.take k)).1
  ok : (grows L salt (bs.take k)).2 = 0
theorem far_0 {L : List Block} {salt : Int} {bs : List (List Note.Item)} {Y : List BA} (h : bl Y = L) : Far L salt bs 0 Y := ⟨h, rfl⟩
theorem far_next {L : List Block} {salt : Int} {bs : List (List Note.Item)} {k : Nat} {Y : List BA} (h : Far L salt bs k Y) (hk : k < bs.length) {x : BA} (hx : x.b = behind (bl Y) (bs.getD k []) salt) (hh : (hash x.b).2 = 0) : Far L salt bs (k + 1) (Y ++ [x]) := by
  rw [hx, h.is] at hh
  have e := grows_step hk h.ok hh
  refine ⟨?_, by rw [e]⟩
  rw [e, bl_app, h.is]
  show _ ++ [x.b] = _
  rw [hx, h.is]
theorem far_fall {L : List Block} {salt : Int} {bs : List (List Note.Item)} {k : Nat} {Y : List BA} (h : Far L salt bs k Y) (hk : k < bs.length) (hh : (hash (behind (bl Y) (bs.getD k []) salt)).2 ≠ 0) : (grows L salt bs).2 = (hash (behind (bl Y) (bs.getD k []) salt)).2 := by
  rw [h.is] at hh ⊢
  exact grows_fall hk h.ok hh
theorem far_len {L : List Block} {salt : Int} {bs : List (List Note.Item)} {k : Nat} {Y : List BA} (h : Far L salt bs k Y) (hk : k ≤ bs.length) : Y.length = L.length + k := by
  have e := grows_len salt (bs.take k) L h.ok
  rw [← h.is, bl_len, List.length_take] at e
  omega
theorem far_all {L : List Block} {salt : Int} {bs : List (List Note.Item)} {k : Nat} {Y : List BA} (h : Far L salt bs k Y) (hk : bs.length ≤ k) : bl Y = (grows L salt bs).1 ∧ (grows L salt bs).2 = 0 := by
  have e := h.is
  have f := h.ok
  rw [List.take_of_length_le hk] at e f
  exact ⟨e, f⟩
theorem rd_pre {X : List BA} (hX : Wfs X) {w : World} {A : Option Addr} (h : Rd w A (bc X)) (k : Nat) : Rd w A (bc (X.take k)) := by rw [bc_pre hX]; exact h.take _
theorem rd_preh {X : List BA} {w : World} {A : Option Addr} (h : Rd w A (hc (hashes (bl X)))) (k : Nat) : Rd w A (hc (hashes (bl (X.take k)))) := by
  rw [bl_take, hashes_take, ← hc_takes k (hashes_h _)]
  exact h.take _
end Go.Tree
namespace Go.Tree
open Go.Sx
open Go.Note (Z I64)
open Go.Inbox (BA Block ic bc flat_lenM flat_takeM flat_getM flat_pre memD)
/-! ### The reference: blocks whose items lie in what was handed in -/
def ofIA (L : List Block) (q : IA) (salt : Int) : BA := ⟨behind L q.l salt, q.A, q.c⟩
/-- All of a list's blocks have their items where they were, or from what is handed in. -/
def From (Q : BA → Prop) (q : IA) : Prop := ∀ L salt, Q (ofIA L q salt)
end Go.Tree
namespace Go.Tree
end Go.Tree
namespace Go.Tree
open Go.Sx
open Go.Inbox (BA ic bc)
end Go.Tree

/- What the tree must give at any rate. -/
namespace Go.Tree
open Go.Note (Z num)
open Go.Inbox (Block BA)
open Go.Note
def aw0 : List UInt8 := [88, 243, 169, 135, 250, 4, 5, 110, 26, 62, 3, 167, 34, 0, 3, 112, 26, 205, 46, 32, 86, 34, 235, 212, 242, 249, 119, 172, 50, 1, 168, 231]
theorem bare_ok {n : Int} {p : List UInt8} (hp : p.length = 32) (h : 0 ≤ n ∧ n ≤ 1099511627776) : (hash ⟨n, 0, p, []⟩).2 = 0 ∧ (hash ⟨n, 0, p, []⟩).1 = Sha.sum (Oct.list (texts ⟨n, 0, p, []⟩)).1 := by
  have h1 : (Oct.list (texts ⟨n, 0, p, []⟩)).2 = 0 := by
    refine list_small (by simp [texts]) ?_
    have h0 := num_len (n := 0) (by omega)
    have h2 := num_len (n := n) (by omega)
    simp only [texts, List.map_nil, List.flatten_cons, List.flatten_nil, List.length_append, List.length_nil]
    omega
  rw [hash_fine (by rw [okBlock_is]; exact ⟨h, ⟨by dsimp only; omega, by dsimp only; omega⟩, Nat.zero_le _⟩) rfl h1]
  exact ⟨rfl, rfl⟩
theorem aw_z : (hash Block.zero).1 = aw0 := by
  have h := (bare_ok (n := 0) (p := Z) Note.Z_len (by omega)).2
  rw [show Block.zero = ⟨0, 0, Z, []⟩ from rfl, h]
  have e : (Oct.list (texts ⟨0, 0, Z, []⟩)).1 = Sha.tz0T := by
    rw [Oct.list_ok (by simp [texts]) (by simp only [texts, List.map_nil]; rw [Note.num0]; decide)]
    unfold texts Oct.listL Oct.textL
    simp only [List.map_cons, List.map_nil, List.length_cons, List.length_nil, List.flatten_cons, List.flatten_nil, Note.num0]
    rw [show Z.length = 32 from Note.Z_len, Note.numL_small (by omega) (by omega), Note.numL_small (by omega) (by omega), Note.numL_small (by omega) (by omega)]
    decide
  rw [e, Sha.sum_tz0]
  rfl
theorem aw_b : (hash ⟨1, 0, aw0, []⟩).1 ≠ aw0 := by
  have h := (bare_ok (n := 1) (p := aw0) (by decide) (by omega)).2
  rw [h]
  have e : (Oct.list (texts ⟨1, 0, aw0, []⟩)).1 = Sha.tz1T := by
    rw [Oct.list_ok (by simp [texts]) (by simp only [texts, List.map_nil]; rw [Note.num0, Note.num1]; decide)]
    unfold texts Oct.listL Oct.textL
    simp only [List.map_cons, List.map_nil, List.length_cons, List.length_nil, List.flatten_cons, List.flatten_nil, Note.num0, Note.num1]
    rw [show aw0.length = 32 by decide, Note.numL_small (by omega) (by omega), Note.numL_small (by omega) (by omega), Note.numL_small (by omega) (by omega), Note.numL_small (by omega) (by omega)]
    decide
  rw [e, Sha.sum_tz1]
  intro h
  have h1 := congrArg (fun l => l.getD 0 0) h
  revert h1
  decide
def awB1 : Block := ⟨1, 0, aw0, []⟩
def awB2 : Block := ⟨2, 0, (hash awB1).1, []⟩
theorem aw_bh1 : behind [Block.zero] [] 0 = awB1 := by
  show (⟨1, 0, (hash Block.zero).1, []⟩ : Block) = _
  rw [aw_z]; rfl
theorem aw_bh2 : behind [Block.zero, awB1] [] 0 = awB2 := rfl
theorem aw_ok1 : (hash awB1).2 = 0 := (bare_ok (by decide) (by omega)).1
theorem aw_ok2 : (hash awB2).2 = 0 := (bare_ok (hash_len _) (by omega)).1
theorem aw_m1 (dp de : Int) : mine ⟨[Block.zero], dp, de⟩ [] 0 = (⟨[Block.zero, awB1], dp, de⟩, (hash awB1).1, 0) := by
  rw [mine_good (by show ¬ 4096 ≤ (1 : Int) - 1; omega) (by rw [aw_bh1]; exact aw_ok1), aw_bh1]; rfl
theorem aw_m2 (dp de : Int) : mine ⟨[Block.zero, awB1], dp, de⟩ [] 0 = (⟨[Block.zero, awB1, awB2], dp, de⟩, (hash awB2).1, 0) := by
  rw [mine_good (by show ¬ 4096 ≤ (2 : Int) - 1; omega) (by rw [aw_bh2]; exact aw_ok2), aw_bh2]; rfl
theorem aw_find : find (hashes [Block.zero, awB1, awB2]) (hash awB1).1 = (1, true) := by
  refine find_at (k := 1) (by simp [hashes]) rfl (fun j hj => ?_)
  have : j = 0 := by omega
  subst this
  show (hash Block.zero).1 ≠ _
  rw [aw_z]
  exact fun h => aw_b h.symm
theorem aw_x1 {X : List BA} {dp : Int} (h : bl X = (mine ⟨bl [BA.zero], dp, 0⟩ [] 0).1.L) : bl X = [Block.zero, awB1] := by
  rw [h, show bl [BA.zero] = [Block.zero] from rfl, aw_m1]
theorem aw_mx1 (dp de : Int) : mine ⟨bl [BA.zero], dp, de⟩ [] 0 = (⟨[Block.zero, awB1], dp, de⟩, (hash awB1).1, 0) := aw_m1 dp de
theorem aw_x2 {X Y : List BA} {dp : Int} (h : bl X = [Block.zero, awB1]) (hY : bl Y = (mine ⟨bl X, dp, 0⟩ [] 0).1.L) : bl Y = [Block.zero, awB1, awB2] := by
  rw [hY, h, aw_m2]
theorem aw_l1 {X : List BA} (h : bl X = [Block.zero, awB1]) : X.length = 2 := by rw [← bl_len X, h]; rfl
theorem aw_l2 {X : List BA} (h : bl X = [Block.zero, awB1, awB2]) : X.length = 3 := by rw [← bl_len X, h]; rfl
theorem aw_fin {X : List BA} (h : bl X = [Block.zero, awB1, awB2]) : Chain.final ⟨bl X, 1, 0⟩ = 1 := by rw [h]; rfl
theorem aw_fd {X : List BA} (h : bl X = [Block.zero, awB1, awB2]) : find (hashes (bl X)) (hash awB1).1 = (1, true) := by rw [h]; exact aw_find
end Go.Tree

/- What a call of a chain is among the arguments. -/
namespace Go.Tree
open Go.Note (Z num)
open Go.Inbox (Block BA)
open Go.Sx
structure Act where
  kind : Int
  under : Int
  salt : Int
  bs : List IA
  D : Option Addr
  cd : Nat
def Act.zero : Act := ⟨0, 0, 0, [], none, 0⟩
def Act.cells (x : Act) : List Value := [i64 x.kind, i64 x.under, i64 x.salt, .slice x.D x.bs.length x.cd]
structure Act.Wf (W : World) (x : Act) : Prop where
  kind : Note.I64 x.kind
  under : Note.I64 x.under
  salt : Note.I64 x.salt
  ok : ∀ q ∈ x.bs, IA.Wf q
  rd : Rd W x.D (iac x.bs)
  rds : ∀ q ∈ x.bs, Rd W q.A (Inbox.ic q.l)
  len : x.bs.length ≤ 9223372036854775807
  cap : x.bs.length ≤ x.cd
theorem iac_flat (bs : List IA) : (bs.map fun q => [Value.slice q.A q.l.length q.c]).flatten = iac bs := by
  induction bs with
  | nil => rfl
  | cons q r ih => simp only [List.map_cons, List.flatten_cons, ih]; rfl
end Go.Tree

/- Chains under a list of calls. -/
namespace Go.Tree
open Go.Note (Z num I64)
open Go.Inbox (Block BA bc ic flat_lenM flat_takeM flat_getM memD)
open Go.Sx
structure Grown (X : List BA) (de : Int) : Prop where
  wf : Wfs X
  pos : 0 < X.length
  len : X.length ≤ 4097
  dpi : I64 de
  dp0 : 0 ≤ de
  link : Linked (bl X)
theorem grown_new : Grown [BA.zero] 0 := ⟨Wfs.one w0_zero, by decide, by decide, by decide, by decide, linked_zero⟩
theorem Grown.small {X : List BA} {de : Int} (h : Grown X de) : ∀ y ∈ X, y.b.items.length ≤ 32 := fun y hy => by
  obtain ⟨k, hk, e⟩ := List.getElem_of_mem hy
  have h1 := (h.link.ok k (by rw [bl_len]; exact hk)).1
  rw [bl_at hk] at h1
  have h2 := hash_items h1
  rw [List.getD_eq_getElem?_getD, List.getElem?_eq_getElem hk, e] at h2
  exact h2
theorem bl_h {X : List BA} {dp de : Int} : (⟨bl X, dp, de⟩ : Chain).height = (X.length : Int) - 1 := by show ((bl X).length : Int) - 1 = _; rw [bl_len]
theorem len_of {X : List BA} {c : Chain} (h : bl X = c.L) : X.length = c.L.length := by rw [← h, bl_len]
theorem Grown.mine {X X' : List BA} {dp de : Int} (h : Grown X de) {its : List Note.Item} {salt : Int} (hX : bl X' = (mine ⟨bl X, dp, de⟩ its salt).1.L) (hW : Wfs X') : Grown X' de := by
  have h1 := mine_some (c := ⟨bl X, dp, de⟩) (by show 0 < (bl X).length; rw [bl_len]; exact h.pos) its salt
  have h2 := height_le_mine (c := ⟨bl X, dp, de⟩) (by rw [bl_h]; have := h.len; omega) its salt
  have h3 := linked_mine (c := ⟨bl X, dp, de⟩) h.link its salt
  have h4 := len_of hX
  unfold Chain.height at h2
  exact ⟨hW, by omega, by omega, h.dpi, h.dp0, by rw [hX]; exact h3⟩
theorem Grown.turn {X X' : List BA} {dp de u : Int} (h : Grown X de) {bs : List (List Note.Item)} {salt : Int} (hu : I64 u) (hX : bl X' = (turn ⟨bl X, dp, de⟩ u bs salt).1.L) (hW : Wfs X') : Grown X' (turn ⟨bl X, dp, de⟩ u bs salt).1.deepest := by
  have h1 := turn_some (c := ⟨bl X, dp, de⟩) (by show 0 < (bl X).length; rw [bl_len]; exact h.pos) u bs salt
  have h2 := height_le_turn (c := ⟨bl X, dp, de⟩) (by rw [bl_h]; have := h.len; omega) u bs salt
  have h3 := linked_turn (c := ⟨bl X, dp, de⟩) h.link u bs salt
  have h4 := len_of hX
  have h5 := (turn_deep ⟨bl X, dp, de⟩ u bs salt).2
  unfold Chain.height at h2
  have h6 := h.dpi; have h7 := h.dp0
  unfold I64 at h6 hu
  refine ⟨hW, by omega, by omega, ?_, ?_, by rw [hX]; exact h3⟩
  · unfold I64
    rcases h5 with e | e <;> rw [e] <;> dsimp only <;> omega
  · rcases h5 with e | e <;> rw [e] <;> dsimp only <;> omega
theorem take_all {X N : List BA} {n : Int} (hn : n = (X.length : Int) - 1) (h0 : 0 < X.length) (h : bl N = (bl X).take (n + 1).toNat) : bl N = bl X := by
  rw [h, List.take_of_length_le (by rw [bl_len]; omega)]
theorem Grown.ok {X : List BA} {de : Int} (h : Grown X de) {k : Nat} (hk : k < X.length) : (hash (X.getD k BA.zero).b).2 = 0 ∧ (X.getD k BA.zero).b.number = (k : Int) := by
  have := h.link.ok k (by rw [bl_len]; exact hk)
  rw [bl_at hk] at this
  exact ⟨this.1, this.2.1⟩
theorem Grown.next {X : List BA} {de : Int} (h : Grown X de) {k : Nat} (hk : k + 1 < X.length) : (X.getD (k + 1) BA.zero).b.parent = (hash (X.getD k BA.zero).b).1 := by
  have := h.link.next k (by rw [bl_len]; exact hk)
  rw [bl_at hk, bl_at (by omega)] at this
  exact this
theorem up_eq {X : List BA} {c : Chain} {dp de : Int} (hX : bl X = c.L) (hd : c.depth = dp) : (⟨bl X, dp, de⟩ : Chain).upto (⟨bl X, dp, de⟩ : Chain).final = c.upto c.final := by
  subst hd
  rw [hX]
  rfl
theorem Grown.finMine {X X2 : List BA} {dp de de2 : Int} (h : Grown X de) (hd : 0 ≤ dp) {its : List Note.Item} {salt : Int} (hX : bl X2 = (Tree.mine ⟨bl X, dp, de⟩ its salt).1.L) :
    (⟨bl X, dp, de⟩ : Chain).upto (⟨bl X, dp, de⟩ : Chain).final <+: (⟨bl X2, dp, de2⟩ : Chain).upto (⟨bl X2, dp, de2⟩ : Chain).final := by
  have h1 := mine_final (c := ⟨bl X, dp, de⟩) (by show 0 < (bl X).length; rw [bl_len]; exact h.pos) hd its salt
  rw [up_eq hX (mine_pre ⟨bl X, dp, de⟩ its salt).2.1]
  exact h1
theorem Grown.finTurn {X X2 : List BA} {dp de de2 u : Int} (h : Grown X de) (hd : 0 ≤ dp) (hu : u ≤ dp) {bs : List (List Note.Item)} {salt : Int} (hX : bl X2 = (Tree.turn ⟨bl X, dp, de⟩ u bs salt).1.L) :
    (⟨bl X, dp, de⟩ : Chain).upto (⟨bl X, dp, de⟩ : Chain).final <+: (⟨bl X2, dp, de2⟩ : Chain).upto (⟨bl X2, dp, de2⟩ : Chain).final := by
  have h1 := turn_final (c := ⟨bl X, dp, de⟩) (by show 0 < (bl X).length; rw [bl_len]; exact h.pos) hd hu bs salt
  rw [up_eq hX (turn_deep ⟨bl X, dp, de⟩ u bs salt).1]
  exact h1
theorem deep_le {c : Chain} {u d : Int} {bs : List (List Note.Item)} {salt : Int} (h : c.deepest ≤ d) (hu : u ≤ d) : (Tree.turn c u bs salt).1.deepest ≤ d := by
  rcases (turn_deep c u bs salt).2 with e | e <;> rw [e] <;> omega
theorem Grown.fin {X : List BA} {dp de : Int} (h : Grown X de) (hd : 0 ≤ dp) : 0 ≤ (⟨bl X, dp, de⟩ : Chain).final ∧ (⟨bl X, dp, de⟩ : Chain).final ≤ (X.length : Int) - 1 := by
  have := final_ge (c := ⟨bl X, dp, de⟩) (by show 0 < (bl X).length; rw [bl_len]; exact h.pos) hd
  rw [bl_h] at this
  exact this
theorem pre_len {W N : List BA} (h : bl W <+: bl N) : W.length ≤ N.length := by have := h.length_le; rwa [bl_len, bl_len] at this
theorem pre_bl {W N : List BA} (h : bl W <+: bl N) : bl W = bl (N.take W.length) := by
  obtain ⟨r, hr⟩ := h
  rw [bl_take, ← hr, ← bl_len W, List.take_left']
  rfl
structure Did (X X2 : List BA) (dp de u : Int) (m : Nat) (t : Chain × Int) : Prop where
  u0 : 0 ≤ u
  uh : u ≤ (X.length : Int) - 1
  lt : u < m
  len : X2.length = X.length - u.toNat + m
  pre : (bl X2).take (X.length - u.toNat) = (bl X).take (X.length - u.toNat)
  deep : t.1.deepest = max de u
theorem did {X X2 : List BA} {dp de u : Int} {bs : List IA} {salt : Int} (h : (turn ⟨bl X, dp, de⟩ u (itl bs) salt).2 = 0) (hX : bl X2 = (turn ⟨bl X, dp, de⟩ u (itl bs) salt).1.L) : Did X X2 dp de u bs.length (turn ⟨bl X, dp, de⟩ u (itl bs) salt) := by
  obtain ⟨⟨h1, h2, h3, h4⟩, h5, h6⟩ := turn_ok h
  have h7 := turn_len h
  have h8 := len_of hX
  rw [bl_h] at h2
  rw [itl_len] at h3 h7
  refine ⟨h1, h2, h3, ?_, ?_, by rw [h6]⟩
  · rw [h8, h7]; show (bl X).length - u.toNat + _ = _; rw [bl_len]
  · rw [hX, h6]
    dsimp only
    obtain ⟨r, hr⟩ := grows_pre salt (itl bs) ((bl X).take ((bl X).length - u.toNat))
    rw [← hr, bl_len, List.take_append_of_le_length (by rw [List.length_take, bl_len]; omega), List.take_take]
    congr 1
    omega
/-! ### The list of calls -/
def acs (l : List Act) : List Value := (l.map Act.cells).flatten
theorem acs_len (l : List Act) : (acs l).length = l.length * 4 := flat_lenM l fun _ _ => rfl
theorem acs_get {l : List Act} {k j : Nat} (hk : k < l.length) (hj : j < 4) : (acs l)[k * 4 + j]? = (Act.cells (l.getD k Act.zero))[j]? := flat_getM Act.zero (fun _ _ => rfl) hk hj
theorem acs_0 {l : List Act} {k : Nat} (hk : k < l.length) : (acs l)[k * 4]? = some (i64 (l.getD k Act.zero).kind) := (acs_get hk (j := 0) (by omega)).trans rfl
theorem acs_1 {l : List Act} {k : Nat} (hk : k < l.length) : (acs l)[k * 4 + 1]? = some (i64 (l.getD k Act.zero).under) := (acs_get hk (j := 1) (by omega)).trans rfl
theorem acs_2 {l : List Act} {k : Nat} (hk : k < l.length) : (acs l)[k * 4 + 2]? = some (i64 (l.getD k Act.zero).salt) := (acs_get hk (j := 2) (by omega)).trans rfl
theorem acs_3 {l : List Act} {k : Nat} (hk : k < l.length) : (acs l)[k * 4 + 3]? = some (Value.slice (l.getD k Act.zero).D (l.getD k Act.zero).bs.length (l.getD k Act.zero).cd) := (acs_get hk (j := 3) (by omega)).trans rfl
theorem atA {w : World} {l : List Act} (h : ∀ x ∈ l, Act.Wf w x) {k : Nat} (hk : k < l.length) : Act.Wf w (l.getD k Act.zero) := h _ (memD _ hk)
abbrev q0 (x : Act) : IA := x.bs.getD 0 IA.zero
theorem Act.Wf.q0 {w : World} {x : Act} (h : Act.Wf w x) : IA.Wf (q0 x) ∧ Rd w (Tree.q0 x).A (ic (Tree.q0 x).l) := by
  by_cases e : 0 < x.bs.length
  · exact ⟨h.ok _ (memD _ e), h.rds _ (memD _ e)⟩
  · have : x.bs = [] := List.length_eq_zero_iff.1 (by omega)
    unfold Tree.q0
    rw [this]
    exact ⟨IA.wf_zero, Rd.nil _ _⟩
abbrev fewb (x : Act) : List IA := x.bs.take 12
theorem Act.Wf.few {w : World} {x : Act} (h : Act.Wf w x) : (∀ q ∈ fewb x, IA.Wf q) ∧ (fewb x).length ≤ 1000000 ∧ Rd w x.D (iac (fewb x)) ∧ ∀ q ∈ fewb x, Rd w q.A (ic q.l) := by
  refine ⟨fun q hq => h.ok q (List.mem_of_mem_take hq), by rw [List.length_take]; omega, ?_, fun q hq => h.rds q (List.mem_of_mem_take hq)⟩
  have : iac (fewb x) = (iac x.bs).take 12 := by unfold iac; rw [List.map_take]
  rw [this]
  exact h.rd.take _
end Go.Tree

/- Own words: an effect in a drawn region, said shortly. -/
set_option linter.unusedVariables false
namespace Go.Sx
open Go.RowKit
variable {P : Program} {S : List Nat} {w0 w : World} {l ls : List It} {a : Act} {rl : List Oper} {Q : Exit → Act → World → Prop} {fuel : Nat} {listed : Array Bool}
theorem hfinA (H : Sep S w0 w l) (h : wpAnyH P .any rl.toArray (NoPanic Q) (fun w => Sep S w0 w ls) fuel listed a w) (hs : ls.Sublist l := by repeat (first | exact S1 | exact S0 | apply S2 | apply S3)) : wpList P rl.toArray (HQ P rl Q (fun w => Sep S w0 w ls) fuel listed) [] a w := hfin (H.sub hs) h
end Go.Sx

/- Own words for walks: a range over a function. -/
set_option linter.unusedVariables false
set_option linter.unusedSimpArgs false
namespace Go.Sx
open Go.RowKit

variable {P : Program} {n : Nat} {S : List Nat} {w0 : World} {ss : List (Nat × Value)} {l : List It}
variable {ops : Array Oper} {Q : Exit → Act → World → Prop} {rest : List Oper} {o : Oper} {a : Act} {w : World}

def noDeferB (o : Oper) : Bool := match o.op with
  | .defer _ => false
  | _ => true

/-- What the plain walk says of an operation holds in a round, too. -/
theorem upon_round {r m : Nat} {next next' : Act → World → Prop} (hn : ∀ a w, next a w → next' a w) : ∀ {x : Result Next}, o.upon P a next Q x → o.uponIn (Fence.wide.inRound r) m P a next' Q x := by
  intro x h
  match x with
  | .ok (.value v) w' => exact hn _ _ h
  | .ok .skip w' => exact hn _ _ h
  | .ok (.defer d) w' => exact hn _ _ h
  | .ok (.enter f args) w' =>
    refine ⟨fun hh => by simp [Fence.wide] at hh, CallsIn.inRound r (CallsIn.mono (callsIn_wide.2 h) ?_)⟩
    intro e w'' he
    cases e with
    | returned v => exact hn _ _ he
    | panicked c => exact he
    | outgrown => exact he
  | .ok (.row row args) w' =>
    refine ⟨fun hh => by simp [Fence.wide] at hh, ?_⟩
    intro c cs _
    obtain ⟨v, w'', h1, h2⟩ := h c cs
    exact ⟨v, w'', hn _ _ h1, stepsIn_wide.2 h2⟩
  | .halt (.panic v) w' => exact h
  | .ok (.round ..) w' => exact (h : False).elim

theorem list_round {r m : Nat} (hQ : ¬ LetsOut Q) : ∀ (rl : List Oper) (a : Act) (w : World), rl.all noDeferB = true → wpList P ops Q rl a w → wpListIn (Fence.wide.inRound r) m P ops Q rl a w
  | [], _, _, _, h => h
  | o :: rl, a, w, hc, h => by
    obtain ⟨h1, h2⟩ : noDeferB o = true ∧ rl.all noDeferB = true := by simpa [List.all_cons] using hc
    unfold wpList at h
    unfold wpListIn
    by_cases hw : Region.wanted o (yielded ops a.tmps) = true
    · rw [if_pos hw] at h ⊢
      rcases h with h | h
      · refine ⟨fun f _ => trivial, ?_⟩
        show o.uponIn _ m P a _ Q ((Oper.semAt (some r) a.eval o).run P w)
        rw [Oper.semAt_some r _ o (fun c e => by unfold noDeferB at h1; rw [e] at h1; simp at h1)]
        exact upon_round (fun a w hh => list_round hQ rl a w h2 hh) h
      · exact absurd h.2 hQ
    · rw [if_neg hw] at h ⊢
      exact ⟨fun f _ => trivial, list_round hQ rl _ _ h2 h⟩

/-- A region in a round, walked by the plain words. -/
theorem reg_round {r m id : Nat} {rl : List Oper} (hQ : ¬ LetsOut Q) (hc : rl.all noDeferB = true) (h : wpList P rl.toArray Q rl a w) : (Code.region id rl.toArray false).wpIn (Fence.wide.inRound r) m P Q a w :=
  wpIn_region_lit (list_round hQ rl a w hc h)

/-- A region walked at the wide fence. -/
theorem reg_wide {id : Nat} {rl : List Oper} (h : wpListIn Fence.wide 1 P rl.toArray Q rl a w) : (Code.region id rl.toArray false).wp P Q a w := wpIn_wide.1 (wpIn_region_lit h)

theorem plainW {d : Nat} {v : Value} (hy : Yld P n S w0 ss l o v) (hw : wantB ops ss o = some true) (hd : o.dst = some d) (hn : Nat.ble (d + 1) n = true) (H : St n S w0 ss l a w)
    (K : ∀ a', St n S w0 ((d, v) :: ss) l a' w → wpListIn Fence.wide 1 P ops Q rest a' w) : wpListIn Fence.wide 1 P ops Q (o :: rest) a w := by
  unfold wpListIn
  rw [if_pos (wanted_of H.fr hw)]
  refine ⟨fun f _ => trivial, ?_⟩
  show o.uponIn _ 1 P a _ Q ((Oper.semAt none a.eval o).run P w)
  rw [Oper.semAt_none, hy a w H.fr H.sep]
  show wpListIn Fence.wide 1 P ops Q rest (a.put o.dst v) w
  rw [hd]
  exact K _ ⟨H.fr.put (Nat.lt_of_succ_le (Nat.le_of_ble_eq_true hn)) v, H.sep⟩

/-- A call of yield: the round is asked for; what it leaves is told by two lists of items. -/
theorem yieldW {d r : Nat} {g : Operand} {xs : List Operand} {ts : Array TypeId} {args : List Value} {G : World → Prop} {B : World → Prop}
    (ho : o.op = .call { callee := .value g, args := xs.toArray, argTypes := ts }) (hg : evO ss g = some (.func (.yield r) #[] #[])) (ha : evs ss xs = some args)
    (hw : wantB ops ss o = some true) (hd : o.dst = some d) (hn : Nat.ble (d + 1) n = true) (H : St n S w0 ss l a w)
    (hy : YieldAt Fence.wide 0 P r args.toArray w fun e W' => (e = .returned (.bool true) ∧ G W') ∨ (e = .returned (.bool false) ∧ B W'))
    (KG : ∀ w' a', G w' → Fr n ((d, .bool true) :: ss) a' → wpListIn Fence.wide 1 P ops Q rest a' w')
    (KB : ∀ w' a', B w' → Fr n ((d, .bool false) :: ss) a' → wpListIn Fence.wide 1 P ops Q rest a' w') : wpListIn Fence.wide 1 P ops Q (o :: rest) a w := by
  unfold wpListIn
  rw [if_pos (wanted_of H.fr hw)]
  refine ⟨fun f _ => trivial, ?_⟩
  obtain ⟨fn, tmps, assign, body, hy1, hR⟩ := hy
  have hx : (execOp a.eval o).run P w = .ok (.round r fn tmps assign body) w := by
    have h1 := evs_map H.fr ha
    simp [execOp, ho, resolve, H.fr.ev hg, Deferred.ofValue, invoke, List.map_toArray, h1, hy1]
  show o.uponIn _ 1 P a _ Q ((Oper.semAt none a.eval o).run P w)
  rw [Oper.semAt_none, hx]
  refine ⟨fun hh => by simp [Fence.wide] at hh, hR.mono ?_⟩
  rintro e W' (⟨rfl, h⟩ | ⟨rfl, h⟩)
  · show wpListIn Fence.wide 1 P ops Q rest (a.put o.dst _) W'
    rw [hd]
    exact KG _ _ h (H.fr.put (Nat.lt_of_succ_le (Nat.le_of_ble_eq_true hn)) _)
  · show wpListIn Fence.wide 1 P ops Q rest (a.put o.dst _) W'
    rw [hd]
    exact KB _ _ h (H.fr.put (Nat.lt_of_succ_le (Nat.le_of_ble_eq_true hn)) _)

/-! ### A frame that bears a mark among its deferred calls -/
def under (ds : List Deferred) (Q : Exit → Act → World → Prop) : Exit → Act → World → Prop := fun e a w => ∃ d1, a.defers = d1 ++ ds ∧ Q e { tmps := a.tmps, defers := d1 } w
theorem lets_under {ds : List Deferred} (h : LetsOut Q) : LetsOut (under ds Q) := by
  obtain ⟨a, w, h⟩ := h
  exact ⟨{ tmps := a.tmps, defers := a.defers ++ ds }, w, _, rfl, h⟩
theorem put_under (t : Array Value) (d1 ds : List Deferred) (dst : Option Tmp) (v : Value) : ∃ t', Act.put { tmps := t, defers := d1 } dst v = { tmps := t', defers := d1 } ∧ Act.put { tmps := t, defers := d1 ++ ds } dst v = { tmps := t', defers := d1 ++ ds } := by
  cases dst with
  | none => exact ⟨t, rfl, rfl⟩
  | some d => exact ⟨_, rfl, rfl⟩
theorem list_under (ds : List Deferred) : ∀ (rl : List Oper) (t : Array Value) (d1 : List Deferred) (w : World), wpList P ops Q rl { tmps := t, defers := d1 } w → wpList P ops (under ds Q) rl { tmps := t, defers := d1 ++ ds } w
  | [], t, d1, w, h => ⟨d1, rfl, h⟩
  | o :: rl, t, d1, w, h => by
    unfold wpList at h ⊢
    by_cases hw : Region.wanted o (yielded ops t) = true
    · rw [if_pos hw] at h ⊢
      rcases h with h | h
      · refine .inl ?_
        unfold Oper.wp at h ⊢
        have e : Act.eval { tmps := t, defers := d1 ++ ds } = Act.eval { tmps := t, defers := d1 } := by funext x; cases x <;> rfl
        rw [e]
        generalize (execOp (Act.eval { tmps := t, defers := d1 }) o).run P w = x at h
        match x with
        | .ok (.value v) w' =>
          obtain ⟨t', e1, e2⟩ := put_under t d1 ds o.dst v
          have h' : wpList P ops Q rl (Act.put { tmps := t, defers := d1 } o.dst v) w' := h
          show wpList P ops (under ds Q) rl (Act.put { tmps := t, defers := d1 ++ ds } o.dst v) w'
          rw [e1] at h'; rw [e2]; exact list_under ds rl _ _ _ h'
        | .ok .skip w' =>
          obtain ⟨t', e1, e2⟩ := put_under t d1 ds o.dst undef
          have h' : wpList P ops Q rl (Act.put { tmps := t, defers := d1 } o.dst undef) w' := h
          show wpList P ops (under ds Q) rl (Act.put { tmps := t, defers := d1 ++ ds } o.dst undef) w'
          rw [e1] at h'; rw [e2]; exact list_under ds rl _ _ _ h'
        | .ok (.defer d) w' =>
          obtain ⟨t', e1, e2⟩ := put_under t (d :: d1) ds o.dst undef
          have h' : wpList P ops Q rl (Act.put { tmps := t, defers := d :: d1 } o.dst undef) w' := h
          show wpList P ops (under ds Q) rl (Act.put { tmps := t, defers := (d :: d1) ++ ds } o.dst undef) w'
          rw [e1] at h'; rw [e2]; exact list_under ds rl _ _ _ h'
        | .ok (.enter f args) w' =>
          refine Calls.mono (h : Calls P f args w' _) ?_
          intro e w'' he
          cases e with
          | returned v =>
            obtain ⟨t', e1, e2⟩ := put_under t d1 ds o.dst v
            have h' : wpList P ops Q rl (Act.put { tmps := t, defers := d1 } o.dst v) w'' := he
            show wpList P ops (under ds Q) rl (Act.put { tmps := t, defers := d1 ++ ds } o.dst v) w''
            rw [e1] at h'; rw [e2]; exact list_under ds rl _ _ _ h'
          | panicked c => exact ⟨d1, rfl, he⟩
          | outgrown => exact lets_under he
        | .ok (.row row args) w' =>
          refine Rows.mono (h : Rows P row args w' _) ?_
          intro v w'' he
          obtain ⟨t', e1, e2⟩ := put_under t d1 ds o.dst v
          show wpList P ops (under ds Q) rl (Act.put { tmps := t, defers := d1 ++ ds } o.dst v) w''
          rw [e1] at he; rw [e2]; exact list_under ds rl _ _ _ he
        | .halt (.panic v) w' => exact ⟨d1, rfl, h⟩
      · exact .inr ⟨h.1, lets_under h.2⟩
    · rw [if_neg hw] at h ⊢
      obtain ⟨t', e1, e2⟩ := put_under t d1 ds o.dst undef
      rw [e1] at h; rw [e2]; exact list_under ds rl _ _ _ h

/-! ### The loop's record and the block for deferred calls are items as others -/
theorem Frm.putObj (w : World) (r : Nat) (o : Obj) : Frm [r] w (w.putObj r o) :=
  ⟨rfl, rfl, rfl, by simp, fun k _ hn => World.putObj_heap_other (fun e => hn (by simp [e]))⟩
theorem Sep.putObj {S : List Nat} {w0 w : World} {l l' : List It} {r : Nat} {o o' : Obj} (h : Sep S w0 w l) (u : Upd l (It.obj r o) (It.obj r o') l') (hm : It.obj r o ∈ l) : Sep S w0 (w.putObj r o') l' :=
  h.upd u (Frm.putObj w r o') (World.putObj_heap_same ((It.obj r o).lt w (h.all _ hm) r (by simp [It.obj]))) (fun b hb => .inl hb)

/-- What is known when a round's body is left. -/
def RQ (S : List Nat) (w0 : World) (x : It) (G B : List It → Prop) : Exit → Act → World → Prop
  | .normal, _, w => ∃ lb, Sep S w0 w (x :: lb) ∧ G lb
  | .ret, _, w => ∃ lb, Sep S w0 w (x :: lb) ∧ B lb
  | _, _, _ => False

theorem yield_of {r : Nat} {rc : LoopState → Option Code → Loop} {ps : Array Tmp} {assign body : Code} {tm : Array Value} {fn : FuncId} {D : Nat} {args : List Value} {G B : List It → Prop}
    (hrc : ∀ st pe, rc st pe = { state := st, pending := pe, fn, tmps := tm, params := ps, assign, body, defers := D }) (hps : args.length = ps.size) (hs : Sep S w0 w (It.obj r (.loop (rc .ready none)) :: l))
    (h : assign.wpIn (Fence.wide.inRound r) 0 P (Exit.then (fun a1 w2 => ∃ la, Sep S w0 w2 (It.obj r (.loop (rc .ready none)) :: la) ∧ ∀ w3, Sep S w0 w3 (It.obj r (.loop (rc .busy none)) :: la) → body.wpIn (Fence.wide.inRound r) 0 P (RQ S w0 (It.obj r (.loop (rc .busy none))) G B) a1 w3) (fun _ _ _ => False))
      { tmps := (ps.zip args.toArray).foldl (fun t (p, v) => t.setIfInBounds p v) tm, defers := [] } w) :
    YieldAt Fence.wide 0 P r args.toArray w fun e W' => (e = .returned (.bool true) ∧ ∃ lb, G lb ∧ Sep S w0 W' (It.obj r (.loop (rc .ready none)) :: lb)) ∨ (e = .returned (.bool false) ∧ ∃ lb, B lb ∧ Sep S w0 W' (It.obj r (.loop (rc .done (some .ret))) :: lb)) := by
  have hl : w.heap[r]? = some (.loop (rc .ready none)) := hs.all _ List.mem_cons_self
  have hy := run_yield (P := P) (args := args.toArray) hl (by rw [hrc]; simpa using hps)
  rw [hrc] at hy
  refine ⟨_, _, _, _, hy, roundIn_of_wpIn trivial (wpIn_mono h ?_)⟩
  intro e a1 w2 hq
  cases e with
  | normal =>
    obtain ⟨la, hs2, hb⟩ := hq
    have hl2 : w2.heap[r]? = some (.loop (rc .ready none)) := hs2.all _ List.mem_cons_self
    have hbr := run_beginRound (P := P) hl2 (by rw [hrc])
    have e2 : ({ rc .ready none with state := .busy } : Loop) = rc .busy none := by simp only [hrc]
    rw [e2] at hbr
    refine ⟨_, hbr, wpIn_mono (hb _ (hs2.putObj (Upd.head _ _ _) List.mem_cons_self)) ?_⟩
    intro e3 a3 w4 hq3
    cases e3 with
    | normal =>
      obtain ⟨lb, hs4, hG⟩ := hq3
      have hl4 : w4.heap[r]? = some (.loop (rc .busy none)) := hs4.all _ List.mem_cons_self
      have he := run_endRound (P := P) none hl4
      have e5 : ({ rc .busy none with state := (if (none : Option Code).isNone then LoopState.ready else .done), pending := none } : Loop) = rc .ready none := by simp [hrc]
      rw [e5] at he
      exact ⟨_, _, he, .inl ⟨rfl, lb, hG, hs4.putObj (Upd.head _ _ _) List.mem_cons_self⟩⟩
    | ret =>
      obtain ⟨lb, hs4, hB⟩ := hq3
      have hl4 : w4.heap[r]? = some (.loop (rc .busy none)) := hs4.all _ List.mem_cons_self
      have he := run_endRound (P := P) (some .ret) hl4
      have e5 : ({ rc .busy none with state := (if (some Code.ret).isNone then LoopState.ready else .done), pending := some .ret } : Loop) = rc .done (some .ret) := by simp [hrc]
      rw [e5] at he
      exact ⟨_, _, he, .inr ⟨rfl, lb, hB, hs4.putObj (Upd.head _ _ _) List.mem_cons_self⟩⟩
    | exit id => exact hq3.elim
    | goto t => exact hq3.elim
    | panic c => exact hq3.elim
    | outgrown => exact hq3.elim
  | ret => exact hq.elim
  | exit id => exact hq.elim
  | goto t => exact hq.elim
  | panic c => exact hq.elim
  | outgrown => exact hq.elim

/-- The statement, over a function value that is bound to what it is a method of. -/
theorem rangeW {g : Operand} {ps : Array Tmp} {assign body : Code} {gf : FuncId} {recv : Value} {lN : List It} {GN : Prop} {GM : List It → Prop}
    (hg : evO ss g = some (.func (.func gf) #[recv] #[])) (hc : callB P gf = true) (H : St n S w0 ss l a w)
    (h : ∀ (fn : FuncId) (r D : Nat) (rc : LoopState → Option Code → Loop) (w1 : World), (∀ st pe, rc st pe = { state := st, pending := pe, fn, tmps := a.tmps, params := ps, assign, body, defers := D }) →
      Sep S w0 w1 (It.obj r (.loop (rc .ready none)) :: It.obj D (.deferred (some [])) :: l) →
      Calls P gf [recv, .func (.yield r) #[] #[]].toArray w1 fun e w2 => ∃ v, e = .returned v ∧
        ((GN ∧ Sep S w0 w2 (It.obj r (.loop (rc .ready none)) :: It.obj D (.deferred (some [])) :: lN)) ∨ (∃ lM, GM lM ∧ Sep S w0 w2 (It.obj r (.loop (rc .done (some .ret))) :: It.obj D (.deferred (some [])) :: lM))))
    (KN : ∀ D w3, GN → Sep S w0 w3 (It.obj D (.deferred (some [])) :: lN) → Q .normal { a with defers := [{ target := .collected D, args := #[] }] } w3)
    (KM : ∀ D w3 lM, GM lM → Sep S w0 w3 (It.obj D (.deferred (some [])) :: lM) → Q .ret { a with defers := [{ target := .collected D, args := #[] }] } w3) :
    (Code.rangeFunc g ps assign body).wp P Q a w := by
  refine wpIn_wide (n := 1).1 (wpIn_rangeFunc ?_)
  intro fn _
  have hs2 := (H.sep.alloc (.deferred (some []))).alloc (.loop { state := .ready, pending := none, fn, tmps := a.tmps, params := ps, assign, body, defers := w.heap.size })
  rw [World.size_alloc] at hs2
  obtain ⟨rc, hrc⟩ : ∃ rc : LoopState → Option Code → Loop, ∀ st pe, rc st pe = { state := st, pending := pe, fn, tmps := a.tmps, params := ps, assign, body, defers := w.heap.size } := ⟨_, fun _ _ => rfl⟩
  rw [← hrc] at hs2
  have e1 := H.fr.ev hg
  have hcall := h fn _ _ rc _ hrc hs2
  refine ⟨_, _, ((w.alloc (.deferred (some []))).alloc (.loop (rc .ready none))), { target := .fn (.func gf) #[], args := #[recv, .func (.yield (w.heap.size + 1)) #[] #[]] }, ((w.alloc (.deferred (some []))).alloc (.loop (rc .ready none))), gf, #[recv, .func (.yield (w.heap.size + 1)) #[] #[]], ((w.alloc (.deferred (some []))).alloc (.loop (rc .ready none))), by rw [hrc]; exact run_enterLoop_outer _ _ _ _ _, ?_, fun _ _ => trivial, ?_, fun hh => absurd (show (none : Option Nat).isSome = true from hh) (by simp), callsIn_wide.2 (hcall.mono ?_)⟩
  · simp only [resolve]
    rw [e1]
    have e2 : (#[Operand.const (Value.func (Fn.yield (w.heap.size + 1)) #[] #[])] : Array Operand).map a.eval = #[Value.func (Fn.yield (w.heap.size + 1)) #[] #[]] := by simp [Act.eval]
    rw [e2]
    simp [Deferred.ofValue]
  · simp [invoke, run_callFunc hc]
  · rintro e w2 ⟨v, rfl, (⟨hG, hs⟩ | ⟨lM, hG, hs⟩)⟩
    · have hl : w2.heap[w.heap.size + 1]? = some (.loop (rc .ready none)) := hs.all _ List.mem_cons_self
      have he := run_endLoop (P := P) hl (by rw [hrc]; simp)
      have e5 : ({ rc .ready none with state := .exhausted } : Loop) = rc .exhausted none := by simp only [hrc]
      have hp : (rc .ready none).pending = none := by rw [hrc]
      rw [e5, hp] at he
      have hs3 := (hs.putObj (o' := .loop (rc .exhausted none)) (Upd.head _ _ _) List.mem_cons_self).sub (List.sublist_cons_self _ _)
      refine ⟨_, _, he, ?_⟩
      have := KN _ _ hG hs3
      show Q .normal { a with defers := _ ++ a.defers } _
      rw [H.fr.df]; exact this
    · have hl : w2.heap[w.heap.size + 1]? = some (.loop (rc .done (some .ret))) := hs.all _ List.mem_cons_self
      have he := run_endLoop (P := P) hl (by rw [hrc]; simp)
      have e5 : ({ rc .done (some .ret) with state := .exhausted } : Loop) = rc .exhausted (some .ret) := by simp only [hrc]
      have hp : (rc .done (some .ret)).pending = some .ret := by rw [hrc]
      rw [e5, hp] at he
      have hs3 := (hs.putObj (o' := .loop (rc .exhausted (some .ret))) (Upd.head _ _ _) List.mem_cons_self).sub (List.sublist_cons_self _ _)
      refine ⟨_, _, he, wpIn_ret ?_⟩
      have := KM _ _ _ hG hs3
      show Q .ret { a with defers := _ ++ a.defers } _
      rw [H.fr.df]; exact this

theorem reg_under {ds : List Deferred} {id : Nat} {rl : List Oper} {t : Array Value} (h : wpList P rl.toArray (fun e b w' => b.defers = [] ∧ Q e { tmps := b.tmps, defers := ds } w') rl { tmps := t, defers := [] } w) :
    (Code.region id rl.toArray false).wp P Q { tmps := t, defers := ds } w :=
  wp_mono (wp_region_lit (by simpa using list_under ds rl t [] w h)) (by
    rintro e ⟨t', d'⟩ w' ⟨d1, h1, h2, h3⟩
    dsimp only at h1 h2 h3
    subst h2
    subst h1
    exact h3)

theorem enterM {f : FuncId} {fn : Func} {c : Code} {args : List Value} {R : Ending → World → Prop} (hf : P.funcs[f]? = some fn) (hb : fn.body = some c) (hn : Nat.ble args.length fn.ntmps = true) (hS : Sep S w0 w l)
    (h : ∀ a, St fn.ntmps S w0 (slots 0 args) l a w → c.wp P (bodyPostM Fence.wide 1 P fn R) a w) : Calls P f args.toArray w R := by
  refine callsIn_wide (n := 1).1 (callsIn_of_wp_marks hf hb trivial (wpIn_wide.2 (h _ ⟨⟨?_, rfl, fun t v ht => ?_⟩, hS⟩)) rfl)
  · have := Nat.le_of_ble_eq_true hn
    simp
    omega
  · have h1 := (find_slots args 0 t v ht).2
    have h2 : t < args.length := (List.getElem?_eq_some_iff.1 (by simpa using h1)).1
    show (args.toArray ++ _)[t]? = some v
    rw [Array.getElem?_append_left (by simpa using h2)]
    simpa using h1

theorem retM {fn : Func} {R : Ending → World → Prop} {t : Array Value} {D m : Nat} (hs : Sep S w0 w (It.obj D (.deferred (some [])) :: l))
    (h : ∀ w', Sep S w0 w' l → ∃ v, (results fn t).run P w' = .ok v w' ∧ R (.returned v) w') : bodyPostM Fence.wide m P fn R .ret { tmps := t, defers := [{ target := .collected D, args := #[] }] } w := by
  have hK : w.heap[D]? = some (.deferred (some [])) := hs.all _ List.mem_cons_self
  refine ⟨by simp, .inl ⟨_, _, rfl, run_takeDeferred hK, ?_⟩⟩
  exact h _ ((hs.putObj (o' := .deferred none) (Upd.head _ _ _) List.mem_cons_self).sub (List.sublist_cons_self _ _))

theorem fr_round {p1 p2 : Nat} {v1 v2 : Value} (F : Fr n ss a) (h1 : p1 < n) (h2 : p2 < n) :
    Fr n ((p2, v2) :: (p1, v1) :: ss) { tmps := ((#[p1, p2] : Array Tmp).zip [v1, v2].toArray).foldl (fun t (p, v) => t.setIfInBounds p v) a.tmps, defers := [] } := by
  have h := (F.put h1 v1).put h2 v2
  have e : (a.put (some p1) v1).put (some p2) v2 = { tmps := (a.tmps.setIfInBounds p1 v1).setIfInBounds p2 v2, defers := a.defers } := rfl
  rw [e, F.df] at h
  simpa using h

theorem run_cc1 {fn : Func} {t ty b t2 ty2 b2 : Nat} {E E2 : TypeId} {v v2 : Value} (hr : fn.results = #[.cell t ty, .cell t2 ty2]) (F : ∀ q x, find ss q = some x → a.tmps[q]? = some x) (hs : Sep S w0 w l) (hv : find ss t = some (.pointer (some ⟨b, 0, none⟩))) (ht : aggB P ty = some false) (hm : It.blk b E [v] ∈ l)
    (hv2 : find ss t2 = some (.pointer (some ⟨b2, 0, none⟩))) (ht2 : aggB P ty2 = some false) (hm2 : It.blk b2 E2 [v2] ∈ l) :
    (results fn a.tmps).run P w = .ok (.tuple #[v, v2]) w := by
  have h1 : a.tmps[t]?.getD undef = .pointer (some ⟨b, 0, none⟩) := by rw [F _ _ hv]; rfl
  have h2 : a.tmps[t2]?.getD undef = .pointer (some ⟨b2, 0, none⟩) := by rw [F _ _ hv2]; rfl
  have c1 : w.cell? ⟨b, 0, none⟩ = some v := by rw [cell_blk (blk_at hm hs)]; rfl
  have c2 : w.cell? ⟨b2, 0, none⟩ = some v2 := by rw [cell_blk (blk_at hm2 hs)]; rfl
  simp [results, hr, h1, h2, loadVar, run_isAgg' ht, run_isAgg' ht2, asAddr, load, Sem.run, c1, c2, Result.andThen]
theorem yield_mono {r m : Nat} {F : Fence} {args : Array Value} {R R' : Ending → World → Prop} (h : YieldAt F m P r args w R) (hr : ∀ e w', R e w' → R' e w') : YieldAt F m P r args w R' := by
  obtain ⟨fn, tm, as, bd, hy, hR⟩ := h
  exact ⟨fn, tm, as, bd, hy, hR.mono hr⟩
theorem no_lets1 {K : Act → World → Prop} : ¬ LetsOut (Exit.then K fun _ _ _ => False) := fun ⟨_, _, h⟩ => h
end Go.Sx

/- Own words: a list of texts among the arguments: its room, and what each text weighs. -/
set_option linter.unusedVariables false
set_option linter.unusedSimpArgs false
namespace Go.Sx
open Go.RowKit Go.WideShapes Go.ChangeAt Go.ChangeShapes
section
variable {H : Type} {enc : TypeId × Value → H} {P : Program} {W : World} {base : Nat} {held : Bool}
theorem weightsAll_mem {e : TypeId} : ∀ {l : List (DataW H)} {d : DataW H} {z : Nat}, d ∈ l → z ∈ d.weights P e → z ∈ DataW.weightsAll P e l
  | [], _, _, h, _ => by cases h
  | x :: l, d, z, h, hz => by
    rw [DataW.weightsAll]
    rcases List.mem_cons.1 h with rfl | h
    · exact List.mem_append_left _ hz
    · exact List.mem_append_right _ (weightsAll_mem h hz)
end
end Go.Sx
