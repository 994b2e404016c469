/- What the claim stands on, part 6: rules of the walk, contracts of the functions, plain laws. -/
import Derived.Test.YtlnidnadpdpciaaKDDesk5
import Derived.Test.YtlnidnadpdpciaaKDDesk4
import Derived.Test.YtlnidnadpdpciaaProg
set_option linter.unusedVariables false
namespace Go.Q
open Go.RowKit
/-! ### an element of a row, opened -/
theorem mid1 {pre cs suf : List Value} {off k : Nat} {u : Value} (ho : off = pre.length + k) (h : cs[k]? = some u) : (pre ++ cs ++ suf)[off]? = some u := by
  have hk := (List.getElem?_eq_some_iff.1 h).1
  rw [ho, List.append_assoc, List.getElem?_append_right (by omega), Nat.add_sub_cancel_left, List.getElem?_append_left hk, h]
theorem midN {pre cs suf vs : List Value} {off k : Nat} (ho : off = pre.length + k) (h : (cs.drop k).take vs.length = vs) (hk : k + vs.length ≤ cs.length) : ((pre ++ cs ++ suf).drop off).take vs.length = vs := by
  rw [ho, List.append_assoc, ← List.drop_drop, List.drop_left, List.drop_append_of_le_length (by omega), List.take_append_of_le_length (by rw [List.length_drop]; omega)]
  exact h
theorem mid_len {pre cs suf vs : List Value} {off k : Nat} (ho : off = pre.length + k) (hk : k + vs.length ≤ cs.length) : off + vs.length ≤ (pre ++ cs ++ suf).length := by
  simp only [List.length_append]; omega
theorem mid_set1 {pre cs suf : List Value} {off k : Nat} {v : Value} (ho : off = pre.length + k) (hk : k < cs.length) : (pre ++ cs ++ suf).set off v = pre ++ cs.set k v ++ suf := by
  rw [ho, List.append_assoc, List.set_append_right _ _ (by omega), Nat.add_sub_cancel_left, List.set_append_left _ _ hk, List.append_assoc]
theorem mid_setN {pre cs suf vs : List Value} {off k : Nat} (ho : off = pre.length + k) (hk : k + vs.length ≤ cs.length) : (pre ++ cs ++ suf).take off ++ vs ++ (pre ++ cs ++ suf).drop (off + vs.length) = pre ++ (cs.take k ++ vs ++ cs.drop (k + vs.length)) ++ suf := by
  have e1 : (pre ++ cs ++ suf).take off = pre ++ cs.take k := by
    rw [ho, List.append_assoc, List.take_append, List.take_of_length_le (by omega), Nat.add_sub_cancel_left, List.take_append_of_le_length (by omega)]
  have e2 : (pre ++ cs ++ suf).drop (off + vs.length) = cs.drop (k + vs.length) ++ suf := by
    rw [ho, List.append_assoc, show pre.length + k + vs.length = pre.length + (k + vs.length) from by omega, ← List.drop_drop, List.drop_left, List.drop_append_of_le_length hk]
  rw [e1, e2]; simp [List.append_assoc]
theorem flat_split {α : Type} {f : α → List Value} : ∀ {l : List α} {i : Nat} {x : α}, l[i]? = some x → l.flatMap f = (l.take i).flatMap f ++ f x ++ (l.drop (i + 1)).flatMap f
  | [], i, x, h => by simp at h
  | y :: l, 0, x, h => by simp at h; subst h; simp
  | y :: l, i + 1, x, h => by
    have := flat_split (f := f) (l := l) (i := i) (x := x) (by simpa using h)
    simp only [List.flatMap_cons, List.take_succ_cons, List.drop_succ_cons]
    rw [this]; simp [List.append_assoc]
theorem flat_setx {α : Type} {f : α → List Value} : ∀ {l : List α} {i : Nat} {x y : α}, l[i]? = some x → (l.set i y).flatMap f = (l.take i).flatMap f ++ f y ++ (l.drop (i + 1)).flatMap f
  | [], i, x, y, h => by simp at h
  | z :: l, 0, x, y, h => by simp
  | z :: l, i + 1, x, y, h => by
    have := flat_setx (f := f) (l := l) (i := i) (x := x) (y := y) (by simpa using h)
    simp only [List.set_cons_succ, List.flatMap_cons, List.take_succ_cons, List.drop_succ_cons]
    rw [this]; simp [List.append_assoc]
/-- An own row is opened at an element: what stands ahead of it, and behind it; another element may be laid there. -/
theorem OwnT.mid {α : Type} {f : α → List Value} {sz : Nat} (hf : ∀ x, (f x).length = sz) (h0 : 0 < sz) {w : World} {base e i c : Nat} {A : Option Addr} {l : List α} {x : α} (hx : l[i]? = some x) (h : OwnT w base e sz f (.slice A l.length c) l) :
    ∃ g pre suf, A = some ⟨g, 0, none⟩ ∧ base ≤ g ∧ pre.length = i * sz ∧ Has w g (rowL (pre ++ f x ++ suf) e) ∧ ∀ (y : α) w', Has w' g (rowL (pre ++ f y ++ suf) e) → OwnT w' base e sz f (.slice A l.length c) (l.set i y) := by
  obtain ⟨hl, h⟩ := h
  have hi := (List.getElem?_eq_some_iff.1 hx).1
  have hil : i * sz ≤ l.length * sz := Nat.mul_le_mul_right _ (by omega)
  rcases h with ⟨_, h0'⟩ | ⟨g, cap, cur, hv, hg, hh, h1, h2, h3, h4⟩
  · exfalso; omega
  · simp only [Value.slice.injEq] at hv
    obtain ⟨rfl, _, rfl⟩ := hv
    have hcl : cur.toList.length = c * sz := by simpa using h3
    have hlc : l.length * sz ≤ c * sz := Nat.mul_le_mul_right _ h1
    have hfl : (l.flatMap f).length = l.length * sz := flat_len hf l
    have hcur : cur.toList = l.flatMap f ++ cur.toList.drop (l.length * sz) := by
      have := (List.take_append_drop (l.length * sz) cur.toList).symm
      rw [h4] at this; exact this
    refine ⟨g, (l.take i).flatMap f, (l.drop (i + 1)).flatMap f ++ cur.toList.drop (l.length * sz), rfl, hg, by rw [flat_len hf, List.length_take]; congr 1; omega, ?_, fun y w' H => ?_⟩
    · have e0 : cur = ⟨(l.take i).flatMap f ++ f x ++ ((l.drop (i + 1)).flatMap f ++ cur.toList.drop (l.length * sz))⟩ := by
        apply Array.ext'
        show cur.toList = _
        rw [flat_split hx] at hcur
        rw [← List.append_assoc]; exact hcur
      show w.heap[g]? = _
      rw [hh]; exact congrArg (fun z => some (Obj.cells z e)) e0
    · have hlen : (((l.take i).flatMap f ++ f y ++ ((l.drop (i + 1)).flatMap f ++ cur.toList.drop (l.length * sz))).length) = c * sz := by
        have e1 : (l.set i y).flatMap f ++ cur.toList.drop (l.length * sz) = (l.take i).flatMap f ++ f y ++ ((l.drop (i + 1)).flatMap f ++ cur.toList.drop (l.length * sz)) := by rw [flat_setx hx]; simp [List.append_assoc]
        rw [← e1, List.length_append, flat_len hf, List.length_set, List.length_drop, hcl]; omega
      show World.ownsRow _ _ _ _ _ (l.set i y).length _
      rw [List.length_set]
      refine ⟨by rw [flat_len hf, List.length_set], .inr ⟨g, c, ⟨(l.take i).flatMap f ++ f y ++ ((l.drop (i + 1)).flatMap f ++ cur.toList.drop (l.length * sz))⟩, rfl, hg, H, h1, h2, by simpa using hlen, ?_⟩⟩
      show List.take (l.length * sz) _ = _
      have e1 : (l.take i).flatMap f ++ f y ++ ((l.drop (i + 1)).flatMap f ++ cur.toList.drop (l.length * sz)) = (l.set i y).flatMap f ++ cur.toList.drop (l.length * sz) := by rw [flat_setx hx]; simp [List.append_assoc]
      rw [e1, List.take_left' (by rw [flat_len hf, List.length_set])]
/-! ### rows that the elements of a row hold -/
def RowsE {α : Type} (w : World) (rv : α → Value) (rs : α → List RowM) (T : Nat → Prop) (l : List α) : Prop :=
  (∀ x ∈ l, RdR w (rv x) (rs x)) ∧ (∀ x ∈ l, rs x ≠ [] → ∀ i, (rv x).ownBlock = some i → T i) ∧ ∀ i, T i → i < w.heap.size
section
variable {α : Type} {w w' : World} {rv : α → Value} {rs : α → List RowM} {T : Nat → Prop} {l : List α}
theorem RowsE.keep {S : Nat → Prop} (h : RowsE w rv rs T l) (K : Keeps S w w') (hS : ∀ i, T i → ¬ S i) : RowsE w' rv rs T l :=
  ⟨fun x hx => by
    by_cases hl : rs x = []
    · exact Rd.keep_nil (by decide) (h.1 x hx) (by rw [hl]; rfl)
    · exact Rd.keep (by decide) (h.1 x hx) K fun b hb => hS b (h.2.1 x hx hl b hb), h.2.1, fun i hi => Nat.lt_of_lt_of_le (h.2.2 i hi) K.size⟩
theorem RowsE.lt (h : RowsE w rv rs T l) : ∀ i, T i → i < w.heap.size := h.2.2
theorem RowsE.nil (w : World) (rv : α → Value) (rs : α → List RowM) : RowsE w rv rs none_ [] := ⟨fun x hx => (by cases hx), fun x hx => (by cases hx), fun i hi => hi.elim⟩
theorem RowsE.add (h : RowsE w rv rs T l) {x : α} (hx : RdR w (rv x) (rs x)) (h0 : rs x = []) : RowsE w rv rs T (l ++ [x]) := by
  refine ⟨fun y hy => ?_, fun y hy hn => ?_, h.2.2⟩
  · rcases List.mem_append.1 hy with hy | hy
    · exact h.1 y hy
    · rw [List.mem_singleton] at hy; subst hy; exact hx
  · rcases List.mem_append.1 hy with hy | hy
    · exact h.2.1 y hy hn
    · rw [List.mem_singleton] at hy; subst hy; exact absurd h0 hn
theorem RowsE.set (h : RowsE w rv rs T l) {k : Nat} {y : α} (hy : RdR w (rv y) (rs y)) (hT : rs y ≠ [] → ∀ i, (rv y).ownBlock = some i → i < w.heap.size) : RowsE w rv rs (fun i => T i ∨ (rs y ≠ [] ∧ (rv y).ownBlock = some i)) (l.set k y) := by
  refine ⟨fun x hx => ?_, fun x hx hn i hi => ?_, fun i hi => ?_⟩
  · rcases List.mem_or_eq_of_mem_set hx with hx | rfl
    · exact h.1 x hx
    · exact hy
  · rcases List.mem_or_eq_of_mem_set hx with hx | rfl
    · exact .inl (h.2.1 x hx hn i hi)
    · exact .inr ⟨hn, hi⟩
  · rcases hi with hi | ⟨hn, hi⟩
    · exact h.2.2 i hi
    · exact hT hn i hi
end
theorem Rd.keepE {S F : Nat → Prop} {sz : Nat} {w w' : World} {v : Value} {xs : List Value} (hsz : 0 < sz) (h : Rd w sz v xs) (hF : xs ≠ [] → ∀ i, v.ownBlock = some i → ¬ F i) (K : Keeps S w w') (hS : ∀ i, S i → F i) : Rd w' sz v xs := by
  by_cases h0 : xs = []
  · exact Rd.keep_nil hsz h h0
  · exact Rd.keep hsz h K fun b hb hs => hF h0 b hb (hS b hs)
theorem RdR.keepE {S F : Nat → Prop} {w w' : World} {v : Value} {rs : List RowM} (h : RdR w v rs) (hF : rs ≠ [] → ∀ i, v.ownBlock = some i → ¬ F i) (K : Keeps S w w') (hS : ∀ i, S i → F i) : RdR w' v rs :=
  Rd.keepE (by decide) h (fun hn => hF (fun q => hn (by rw [q]; rfl))) K hS
/-! ### a desk's calls -/
structure DM where
  op : Opm
  why : Int
  amount : Int
  rows : List RowM
  is : Bool
structure DCall where
  op : Opm
  why : Int
  amount : Int
  A : Option Addr
  c : Nat
  rows : List RowM
  is : Bool
def DCall.cells (x : DCall) : List Value := [i64 x.op.kind, .string (str x.op.frm), .string (str x.op.to), i64 x.op.amount, .string (str x.op.key), i64 x.op.slot, i64 x.op.shard, i64 x.why, i64 x.amount, .slice x.A x.rows.length x.c, .bool x.is]
theorem DCall.two (x : DCall) : x.cells.length = 11 := rfl
theorem DCall.one (x : DCall) : oneCells x.cells = true := rfl
def DCall.m (x : DCall) : DM := ⟨x.op, x.why, x.amount, x.rows, x.is⟩
def DCall.rv (x : DCall) : Value := .slice x.A x.rows.length x.c
/-- The desk in the block d: its calls ms; all that it holds lies in F. -/
def DeskP (w : World) (F : Nat → Prop) (d tD tC : Nat) (ms : List DM) : Prop :=
  ∃ (l : List DCall) (A : Option Addr) (c : Nat) (T : Nat → Prop), l.map DCall.m = ms ∧ Has w d (rowL [.slice A l.length c] tD) ∧ OwnT w 0 tC 11 DCall.cells (.slice A l.length c) l ∧ RowsE w DCall.rv DCall.rows T l ∧
    (∀ i, T i → i ≠ d ∧ F i) ∧ (∀ i, (Value.slice A l.length c).ownBlock = some i → i ≠ d ∧ F i ∧ ¬ T i) ∧ F d ∧ (∀ i, F i → i < w.heap.size) ∧ ms.length ≤ 2000
theorem DeskP.keep {S F : Nat → Prop} {w w' : World} {d tD tC : Nat} {ms : List DM} (h : DeskP w F d tD tC ms) (K : Keeps S w w') (hS : ∀ i, F i → ¬ S i) : DeskP w' F d tD tC ms := by
  obtain ⟨l, A, c, T, h1, h2, h3, h4, h5, h6, h7, h8, h9⟩ := h
  exact ⟨l, A, c, T, h1, h2.keep K (hS d h7), own_keep h3 K (fun i hi => hS i (h6 i hi).2.1), h4.keep K (fun i hi => hS i (h5 i hi).2), h5, h6, h7, fun i hi => Nat.lt_of_lt_of_le (h8 i hi) K.size, h9⟩
theorem DeskP.lt {F : Nat → Prop} {w : World} {d tD tC : Nat} {ms : List DM} (h : DeskP w F d tD tC ms) : ∀ i, F i → i < w.heap.size := by
  obtain ⟨l, A, c, T, h1, h2, h3, h4, h5, h6, h7, h8, h9⟩ := h
  exact h8
theorem DeskP.len {F : Nat → Prop} {w : World} {d tD tC : Nat} {ms : List DM} (h : DeskP w F d tD tC ms) : ms.length ≤ 2000 := by
  obtain ⟨l, A, c, T, h1, h2, h3, h4, h5, h6, h7, h8, h9⟩ := h
  exact h9
/-- A call more. -/
def beginM (ms : List DM) (o : Opm) : List DM × Int := if 2000 ≤ ms.length then (ms, -1) else (ms ++ [⟨o, 0, 0, [], false⟩], (ms.length : Int))
/-- An answer. -/
def hearM (ms : List DM) (n : Int) (p : ReplyM) : List DM × Bool :=
  match ms[n.toNat]? with
  | some x => if n < 0 ∨ x.is = true then (ms, false) else (ms.set n.toNat ⟨x.op, p.why, p.amount, p.rows, true⟩, true)
  | none => (ms, false)
theorem DeskP.wide {F G : Nat → Prop} {w w' : World} {d tD tC : Nat} {ms : List DM} (h : DeskP w F d tD tC ms) (K : Keeps none_ w w') (hFG : ∀ i, F i → G i) (hG : ∀ i, G i → i < w'.heap.size) : DeskP w' G d tD tC ms := by
  obtain ⟨l, A, c, T, h1, h2, h3, h4, h5, h6, h7, h8, h9⟩ := h
  exact ⟨l, A, c, T, h1, h2.keep K (fun h => h), own_keep h3 K (fun i hi h => h), h4.keep K (fun i hi h => h), fun i hi => ⟨(h5 i hi).1, hFG i (h5 i hi).2⟩, fun i hi => ⟨(h6 i hi).1, hFG i (h6 i hi).2.1, (h6 i hi).2.2⟩, hFG d h7, hG, h9⟩
theorem hearM_out (ms : List DM) (n : Int) (p : ReplyM) (hn : n < 0 ∨ (ms.length : Int) ≤ n) : hearM ms n p = (ms, false) := by
  unfold hearM
  cases h : ms[n.toNat]? with
  | none => rfl
  | some x =>
    have := (List.getElem?_eq_some_iff.1 h).1
    dsimp only
    rw [if_pos (.inl (by omega))]
theorem hearM_is {l : List DCall} {k : Nat} {x : DCall} {p : ReplyM} (hx : l[k]? = some x) (hs : x.is = true) : hearM (l.map DCall.m) (k : Int) p = (l.map DCall.m, false) := by
  unfold hearM
  rw [Int.toNat_natCast, List.getElem?_map, hx]
  show (if _ then _ else _) = _
  rw [if_pos (.inr hs)]
theorem hearM_in {l : List DCall} {k : Nat} {x : DCall} {why amount : Int} {rs : List RowM} {A : Option Addr} {c : Nat} (hx : l[k]? = some x) (hs : x.is = false) : hearM (l.map DCall.m) (k : Int) ⟨why, amount, rs⟩ = ((l.set k ⟨x.op, why, amount, A, c, rs, true⟩).map DCall.m, true) := by
  unfold hearM
  rw [Int.toNat_natCast, List.getElem?_map, hx]
  show (if _ then _ else _) = _
  rw [if_neg (fun h => by rcases h with h | h; (omega); (rw [show x.m.is = x.is from rfl, hs] at h; cases h)), List.map_set]
  rfl
theorem deskP_set {w w' : World} {F T : Nat → Prop} {d tD tC k gB c : Nat} {l : List DCall} {A : Option Addr} {x y : DCall} (hA : A = some ⟨gB, 0, none⟩) (hx : l[k]? = some x) (Hd : Has w' d (rowL [.slice A l.length c] tD)) (hO : OwnT w' 0 tC 11 DCall.cells (.slice A l.length c) (l.set k y)) (hR : RowsE w' DCall.rv DCall.rows T l) (hy : RdR w' y.rv y.rows) (hF9 : ∀ i, y.rv.ownBlock = some i → w.heap.size ≤ i ∧ i < w'.heap.size) (hsz : w.heap.size ≤ w'.heap.size)
    (hT7 : ∀ i, T i → i ≠ d ∧ F i) (hV7 : ∀ i, (Value.slice A l.length c).ownBlock = some i → i ≠ d ∧ F i ∧ ¬ T i) (hFd : F d) (hFl : ∀ i, F i → i < w.heap.size) (h20 : l.length ≤ 2000) : DeskP w' (fun i => (F i ∨ w.heap.size ≤ i) ∧ i < w'.heap.size) d tD tC ((l.set k y).map DCall.m) := by
  refine ⟨l.set k y, A, c, fun i => T i ∨ (y.rows ≠ [] ∧ y.rv.ownBlock = some i), rfl, by rw [List.length_set]; exact Hd, by rw [List.length_set]; exact hO, RowsE.set hR hy (fun _ i hi => (hF9 i hi).2), fun i hi => ?_, fun i hi => ?_, ⟨.inl hFd, Nat.lt_of_lt_of_le (hFl d hFd) hsz⟩, fun i hi => hi.2, by rw [List.length_map, List.length_set]; exact h20⟩
  · rcases hi with hi | ⟨_, hi⟩
    · exact ⟨(hT7 i hi).1, .inl (hT7 i hi).2, Nat.lt_of_lt_of_le (hFl i (hT7 i hi).2) hsz⟩
    · have h1 := hF9 i hi
      have h2 := hFl d hFd
      exact ⟨by omega, .inr h1.1, h1.2⟩
  · rw [List.length_set] at hi
    have h1 := hV7 i hi
    have h2 := hFl i h1.2.1
    refine ⟨h1.1, ⟨.inl h1.2.1, by omega⟩, fun h => ?_⟩
    rcases h with h | ⟨_, h⟩
    · exact h1.2.2 h
    · have := (hF9 i h).1
      omega
/-- A call, and its answer. -/
def askM (ms : List DM) (n : Int) : DM := if n < 0 then ⟨⟨0, [], [], 0, [], 0, 0⟩, 0, 0, [], false⟩ else (ms[n.toNat]?).getD ⟨⟨0, [], [], 0, [], 0, 0⟩, 0, 0, [], false⟩
/-- The calls without an answer, and where they stand. -/
def openF : Nat → List DCall → List (Nat × Opm)
  | _, [] => []
  | i, x :: l => if x.is then openF (i + 1) l else (i, x.op) :: openF (i + 1) l
theorem openF_append : ∀ (a b : List DCall) (i : Nat), openF i (a ++ b) = openF i a ++ openF (i + a.length) b
  | [], b, i => rfl
  | x :: a, b, i => by
    have ih := openF_append a b (i + 1)
    rw [show i + 1 + a.length = i + (x :: a).length from by rw [List.length_cons]; omega] at ih
    show (if x.is then openF (i + 1) (a ++ b) else (i, x.op) :: openF (i + 1) (a ++ b)) = (if x.is then openF (i + 1) a else (i, x.op) :: openF (i + 1) a) ++ _
    cases x.is with
    | true => exact ih
    | false => exact congrArg (List.cons _) ih
theorem openF_take {l : List DCall} {k : Nat} {x : DCall} (hx : l[k]? = some x) : openF 0 (l.take (k + 1)) = openF 0 (l.take k) ++ (if x.is then [] else [(k, x.op)]) := by
  have hk := (List.getElem?_eq_some_iff.1 hx).1
  rw [List.take_add_one, hx, openF_append]
  show _ ++ openF (0 + (l.take k).length) [x] = _
  rw [List.length_take, show 0 + min k l.length = k from by omega]
  rfl
theorem openF_split {l : List DCall} {k : Nat} {x : DCall} (hx : l[k]? = some x) (hs : x.is = false) : openF 0 (l.take k) ++ (k, x.op) :: openF (k + 1) (l.drop (k + 1)) = openF 0 l := by
  obtain ⟨q1, q2⟩ := List.getElem?_eq_some_iff.1 hx
  have h1 : l.drop k = x :: l.drop (k + 1) := by rw [← q2]; exact List.drop_eq_getElem_cons q1
  conv => rhs; rw [← List.take_append_drop k l, h1, openF_append]
  rw [List.length_take, show 0 + min k l.length = k from by omega]
  show _ = _ ++ (if x.is then _ else _)
  rw [hs]; rfl
/-- The first fields of an element of a row that is read. -/
theorem RdT.ldp {α : Type} {f : α → List Value} {P : Program} {t : TypeId} {w : World} {sz n c k b off : Nat} {A : Option Addr} {l : List α} {x : α} {vs rest : List Value} (hf : ∀ x, (f x).length = sz) (h : RdT w sz f (.slice A n c) l) (ht : isAgg? P t = some true) (hs : size? P t = some vs.length) (hA : A = some ⟨b, off, none⟩) (hx : l[k]? = some x) (hp : f x = vs ++ rest) :
    Loads P w t ⟨b, off + k * sz, none⟩ (agg vs) :=
  Rd.ldN h ht hs hA fun j u hu => flat_at hf hx j u (by rw [hp, List.getElem?_append_left (List.getElem?_eq_some_iff.1 hu).1]; exact hu)
/-- Behind the calls without an answer that were told. -/
def behind : Nat → List (Nat × Opm) → Nat
  | i, [] => i
  | i, [x] => x.1 + 1
  | i, x :: y :: l => behind i (y :: l)
theorem behind_append (i : Nat) (x : Nat × Opm) : ∀ l : List (Nat × Opm), behind i (l ++ [x]) = x.1 + 1
  | [] => rfl
  | [y] => rfl
  | y :: z :: l => behind_append i x (z :: l)
theorem openF_head : ∀ {l : List DCall} {i : Nat} {x : Nat × Opm} {post : List (Nat × Opm)}, openF i l = x :: post →
    ∃ n y, x.1 = i + n ∧ l[n]? = some y ∧ y.is = false ∧ y.op = x.2 ∧ (∀ j, j < n → ∀ z, l[j]? = some z → z.is = true) ∧ openF (x.1 + 1) (l.drop (n + 1)) = post
  | [], _, _, _, h => by cases h
  | y :: l, i, x, post, h0 => by
    have h : (if y.is then openF (i + 1) l else (i, y.op) :: openF (i + 1) l) = x :: post := h0
    clear h0
    cases hy : y.is with
    | false =>
      rw [hy] at h
      rw [if_neg (by decide), List.cons.injEq] at h
      obtain ⟨rfl, h⟩ := h
      exact ⟨0, y, rfl, rfl, hy, rfl, fun j hj => absurd hj (Nat.not_lt_zero _), h⟩
    | true =>
      rw [hy, if_pos rfl] at h
      obtain ⟨n, z, h1, h2, h3, h4, h5, h6⟩ := openF_head h
      refine ⟨n + 1, z, by omega, h2, h3, h4, fun j hj u hu => ?_, h6⟩
      cases j with
      | zero => cases hu; exact hy
      | succ j => exact h5 j (by omega) u hu
theorem openF_nil : ∀ {l : List DCall} {i : Nat}, openF i l = [] → ∀ (j : Nat) (z : DCall), l[j]? = some z → z.is = true
  | [], _, _, _, _, hz => by cases hz
  | y :: l, i, h, j, z, hz => by
    have h : (if y.is then openF (i + 1) l else (i, y.op) :: openF (i + 1) l) = [] := h
    cases hy : y.is with
    | false => rw [hy] at h; rw [if_neg (by decide)] at h; cases h
    | true =>
      rw [hy, if_pos rfl] at h
      cases j with
      | zero => cases hz; exact hy
      | succ j => exact openF_nil h j z hz
theorem openF_behind {l : List DCall} : ∀ {pre rest : List (Nat × Opm)} {i : Nat}, openF i (l.drop i) = pre ++ rest → i ≤ l.length → i ≤ behind i pre ∧ behind i pre ≤ l.length ∧ openF (behind i pre) (l.drop (behind i pre)) = rest
  | [], rest, i, h, hi => ⟨Nat.le_refl _, hi, h⟩
  | x :: pre, rest, i, h, hi => by
    obtain ⟨n, y, h1, h2, h3, h4, h5, h6⟩ := openF_head h
    rw [List.getElem?_drop] at h2
    have h7 := (List.getElem?_eq_some_iff.1 h2).1
    rw [List.drop_drop, show i + (n + 1) = x.1 + 1 from by omega] at h6
    obtain ⟨q1, q2, q3⟩ := openF_behind (l := l) (pre := pre) (rest := rest) (i := x.1 + 1) h6 (by omega)
    have hb : behind i (x :: pre) = behind (x.1 + 1) pre := by
      cases pre with
      | nil => rfl
      | cons z pre =>
        have : ∀ (i j : Nat) (z : Nat × Opm) (l : List (Nat × Opm)), behind i (z :: l) = behind j (z :: l) := fun i j z l => by
          induction l generalizing z with
          | nil => rfl
          | cons y l ih => exact ih y
        exact this _ _ _ _
    rw [hb]
    exact ⟨by omega, q2, q3⟩
/-- What is told next: all between have an answer. -/
theorem openF_next {l : List DCall} {pre post : List (Nat × Opm)} {x : Nat × Opm} (h : pre ++ x :: post = openF 0 l) : behind 0 pre ≤ x.1 ∧ (∀ j, behind 0 pre ≤ j → j < x.1 → ∀ z, l[j]? = some z → z.is = true) ∧ ∃ y, l[x.1]? = some y ∧ y.is = false ∧ y.op = x.2 := by
  obtain ⟨_, h2, h3⟩ := openF_behind (l := l) (pre := pre) (rest := x :: post) (i := 0) (by rw [List.drop_zero]; exact h.symm) (Nat.zero_le _)
  obtain ⟨n, y, q1, q2, q3, q4, q5, _⟩ := openF_head h3
  rw [List.getElem?_drop] at q2
  refine ⟨by omega, fun j hj hjx z hz => q5 (j - behind 0 pre) (by omega) z (by rw [List.getElem?_drop, show behind 0 pre + (j - behind 0 pre) = j from by omega]; exact hz), y, by rw [q1]; exact q2, q3, q4⟩
theorem openF_last {l : List DCall} {all : List (Nat × Opm)} (h : all = openF 0 l) : behind 0 all ≤ l.length ∧ ∀ j, behind 0 all ≤ j → ∀ z, l[j]? = some z → z.is = true := by
  obtain ⟨_, h2, h3⟩ := openF_behind (l := l) (pre := all) (rest := []) (i := 0) (by rw [List.drop_zero, List.append_nil]; exact h.symm) (Nat.zero_le _)
  exact ⟨h2, fun j hj z hz => openF_nil h3 (j - behind 0 all) z (by rw [List.getElem?_drop, show behind 0 all + (j - behind 0 all) = j from by omega]; exact hz)⟩
theorem openF_congr : ∀ {l l2 : List DCall} {i : Nat}, l.map DCall.m = l2.map DCall.m → openF i l = openF i l2
  | [], [], _, _ => rfl
  | [], _ :: _, _, h => by cases h
  | _ :: _, [], _, h => by cases h
  | x :: l, y :: l2, i, h => by
    rw [List.map_cons, List.map_cons, List.cons.injEq] at h
    have ih := openF_congr (i := i + 1) h.2
    have h1 : x.is = y.is := congrArg DM.is h.1
    have h2 : x.op = y.op := congrArg DM.op h.1
    show (if x.is then openF (i + 1) l else (i, x.op) :: openF (i + 1) l) = (if y.is then openF (i + 1) l2 else (i, y.op) :: openF (i + 1) l2)
    rw [ih, h1, h2]
/-- Elements of two rows of calls that are alike. -/
theorem alike_at {l l2 : List DCall} {k : Nat} {x y : DCall} (h : l.map DCall.m = l2.map DCall.m) (hx : l[k]? = some x) (hy : l2[k]? = some y) : y.m = x.m := by
  have h1 := congrArg (fun z => z[k]?) h
  simp only [List.getElem?_map, hx, hy, Option.map_some, Option.some.injEq] at h1
  exact h1.symm
theorem gap_true {l : List DCall} {kk m : Nat} {y y0 : DCall} (hy : l[kk]? = some y) (hx : l[m]? = some y0) (h0 : y0.is = false) (h : y.is = true) (hk : kk ≤ m) : kk < m := by
  rcases Nat.lt_or_ge kk m with q | q
  · exact q
  · exfalso
    have e : kk = m := by omega
    rw [e, hx] at hy
    cases hy
    rw [h0] at h; cases h
theorem gap_false {l : List DCall} {n kk m : Nat} {y : DCall} (hgap : ∀ j, n ≤ j → j < m → ∀ z, l[j]? = some z → z.is = true) (hy : l[kk]? = some y) (h : y.is = false) (h1 : n ≤ kk) (hk : kk ≤ m) : kk = m := by
  rcases Nat.lt_or_ge kk m with q | q
  · have := hgap kk h1 q y hy
    rw [h] at this; cases this
  · omega
theorem gap_eq {l : List DCall} {kk m : Nat} {y y0 : DCall} (hy : l[kk]? = some y) (hx : l[m]? = some y0) (h : kk = m) : y = y0 := by
  rw [h, hx] at hy
  exact (Option.some.inj hy).symm
end Go.Q
namespace Go.Proofs.Ytlnidnadpdpciaa
open Go.Q Go.RowKit
theorem tyCP : ElemTy Try.prog 81 79 11 128 := elemTy (by kernel_rfl)
theorem tyCR : ElemTy Try.prog 53 87 11 128 := elemTy (by kernel_rfl)

set_option maxHeartbeats 1000000 in
theorem BeginP_calls (w : World) (F : Nat → Prop) (d : Nat) (l : List DCall) (A : Option Addr) (c : Nat) (T : Nat → Prop) (o : Opm) (Hd : Has w d (rowL [(Value.slice A l.length c)] 84)) (hO : OwnT w 0 79 11 DCall.cells ((Value.slice A l.length c)) l) (hR : RowsE w DCall.rv DCall.rows T l) (hT7 : ∀ i, T i → i ≠ d ∧ F i) (hV7 : ∀ i, ((Value.slice A l.length c)).ownBlock = some i → i ≠ d ∧ F i ∧ ¬ T i) (hFd : F d) (hFl : ∀ i, F i → i < w.heap.size) (h20 : l.length ≤ 2000) : Calls Try.prog 14 ⟨[(ptr d), (agg [(i64 o.kind), (Value.string (str o.frm)), (Value.string (str o.to)), (i64 o.amount), (Value.string (str o.key)), (i64 o.slot), (i64 o.shard)])]⟩ w (fun e w' => e = .returned (i64 (beginM (l.map DCall.m) o).2) ∧ Keeps F w w' ∧ DeskP w' (fun i => (F i ∨ w.heap.size ≤ i) ∧ i < w'.heap.size) d 84 79 ((beginM (l.map DCall.m) o).1)) := by
 have Hdl := Hd.lt
 have hTd : ∀ i, T i → i ≠ d := fun i hi => (hT7 i hi).1
 have hVd : ∀ i, ((Value.slice A l.length c)).ownBlock = some i → i ≠ d := fun i hi => (hV7 i hi).1
 have hVT : ∀ i, ((Value.slice A l.length c)).ownBlock = some i → T i → False := fun i hi h => (hV7 i hi).2.2 h
 have hcap := RdT.len DCall.two (by decide) (OwnT.rd hO)
 have K0 : Keeps (fun i => i = d ∨ ((Value.slice A l.length c)).ownBlock = some i) w w := (Keeps.refl w).mono (fun _ _ h => h.elim)
 refine q_calls Try.func14 (by kernel_rfl) (by kernel_rfl) ?_
 refine qs ?_
 refine qg ?_
 refine Ops.new (o := rowL [(i64 o.kind), (Value.string (str o.frm)), (Value.string (str o.to)), (i64 o.amount), (Value.string (str o.key)), (i64 o.slot), (i64 o.shard)] 23) (V := fun b => (ptr b)) (by kernel_rfl) (d := (some 3)) (by kernel_rfl) (fun b => rfl) (fun b1 w2 hb3 H4 K5 hs6 => ?_)
 have lb1d : d < b1 := by have := Hd.lt; omega
 have nb1 : w.heap.size ≤ b1 := by have := K0.size; omega
 have ob7 : ∀ i, ((Value.slice A l.length c)).ownBlock = some i → i < b1 := fun i hi => by have := (World.ownsRow.lt hO i hi).2; omega
 have of8 : ∀ i, T i → i ≠ b1 := fun i hi => by have := RowsE.lt hR i hi; omega
 replace K0 := K0.tn K5
 replace Hd := Hd.keep K5 (fun h => h)
 replace hO := own_keep0 hO K5
 replace hR := RowsE.keep hR K5 (fun _ _ h => h)
 clear K5 hs6
 refine og 1 [(0, (ptr d)), (3, (ptr b1)), (4, (i64 0))] 2 ?_
 refine od ?_
 refine qs ?_
 refine qs ?_
 refine qg ?_
 refine og 6 [(0, (ptr d)), (3, (ptr b1)), (4, (i64 0)), (7, (Value.bool false)), (10, (ptr d))] 6 ?_
 refine Ops.go (v := (Value.slice A l.length c)) (by kernel_rfl) (Runs.load (t := 81) (a := ⟨d, 0, none⟩) (by kernel_rfl) (Hd.loads (by kernel_rfl))) (d := (some 11)) (by kernel_rfl) rfl ?_
 refine og 3 [(0, (ptr d)), (3, (ptr b1)), (4, (i64 0)), (14, (Value.bool (decide (((l.length : Nat) : Int) ≥ 2000))))] 10 ?_
 refine od ?_
 refine q_cond (o := .tmp 14) (b := (decide (((l.length : Nat) : Int) ≥ 2000))) (by kernel_rfl) rfl (fun h9 => ?_) (fun h9 => ?_)
 ·rw [h9]
  have p10 : ((l.length : Nat) : Int) ≥ 2000 := of_decide_eq_true h9
  refine qs ?_
  refine qg ?_
  refine og 1 [(0, (ptr d)), (3, (ptr b1)), (4, (i64 (-1)))] 1 ?_
  refine od ?_
  refine q_ret (by kernel_rfl) ?_
  refine ⟨(i64 (-1)), retv_tmp rfl rfl, ?_⟩
  have e : beginM (l.map DCall.m) o = (l.map DCall.m, -1) := by unfold beginM; rw [List.length_map, if_pos (by omega)]
  rw [e]
  exact ⟨rfl, (K0.mono (fun i _ h => by rcases h with h | h; (rw [h]; exact hFd); (exact (hV7 i h).2.1))), l, A, c, T, rfl, Hd, hO, hR, fun i hi => ⟨hTd i hi, .inl (hT7 i hi).2, RowsE.lt hR i hi⟩, fun i hi => ⟨hVd i hi, ⟨.inl (hV7 i hi).2.1, (World.ownsRow.lt hO i hi).2⟩, fun h => hVT i hi h⟩, ⟨.inl hFd, Hd.lt⟩, fun i hi => hi.2, by rw [List.length_map]; exact h20⟩
 ·rw [h9]
  have p11 : ¬ (((l.length : Nat) : Int) ≥ 2000) := of_decide_eq_false h9
  refine q_skip (by kernel_rfl) ?_
  refine qs ?_
  refine q_draw (fun wz => Keeps (fun i => ((Value.slice A l.length c)).ownBlock = some i ∨ i = d) w2 wz) 12 (by kernel_rfl) (by kernel_rfl) (by kernel_rfl) (fun w12 K13 _ _ => ⟨(K13.mono (fun _ _ h => h.elim)), ?_⟩)
  replace K0 := K0.tn K13
  replace Hd := Hd.keep K13 (fun h => h)
  replace H4 := H4.keep K13 (fun h => h)
  replace hO := own_keep0 hO K13
  replace hR := RowsE.keep hR K13 (fun _ _ h => h)
  refine Dr.strong (S' := (fun wz => Keeps (fun i => ((Value.slice A l.length c)).ownBlock = some i ∨ i = d) w12 wz)) ((Keeps.refl w12).mono (fun _ _ h => h.elim)) (fun wz hx => K13.trans hx (fun i _ h => h.elim) (fun _ _ h => h)) ?_
  clear K13
  refine Dr.takes (fuel' := 8) (is' := _) [0, 1, 2, 3] [(0, (ptr d)), (3, (ptr b1)), (4, (i64 0)), (15, (ptr d)), (18, (ptr d))] (by kernel_rfl) rfl (by kernel_rfl) ?_
  refine Dr.take (i := 5) (v := (agg [(i64 o.kind), (Value.string (str o.frm)), (Value.string (str o.to)), (i64 o.amount), (Value.string (str o.key)), (i64 o.slot), (i64 o.shard)])) (by kernel_rfl) (by kernel_rfl) (fun wz hS => Runs.load (t := 23) (a := ⟨b1, 0, none⟩) (by kernel_rfl) ((H4.keep hS (by intro h; change ((Value.slice A l.length c)).ownBlock = some b1 ∨ b1 = d at h; rcases h with h | h; (have := ob7 b1 h; omega); (omega))).loads (by kernel_rfl))) (d := (some 20)) (by kernel_rfl) rfl ?_
  refine Dr.takes (fuel' := 6) (is' := _) [6] [(0, (ptr d)), (4, (i64 0)), (15, (ptr d)), (18, (ptr d)), (21, (agg [(i64 o.kind), (Value.string (str o.frm)), (Value.string (str o.to)), (i64 o.amount), (Value.string (str o.key)), (i64 o.slot), (i64 o.shard), (i64 0), (i64 0), (Value.slice none 0 0), (Value.bool false)]))] (by kernel_rfl) rfl (by kernel_rfl) ?_
  refine Dr.float [(0, (ptr d)), (4, (i64 0)), (15, (ptr d)), (19, (Value.slice A l.length c)), (21, (agg [(i64 o.kind), (Value.string (str o.frm)), (Value.string (str o.to)), (i64 o.amount), (Value.string (str o.key)), (i64 o.slot), (i64 o.shard), (i64 0), (i64 0), (Value.slice none 0 0), (Value.bool false)]))] 4 ?_
  refine DrB.new (i := 4) (j := 7) (t := 81) (a := ⟨d, 0, none⟩) (v := (Value.slice A l.length c)) (o := rowL [(i64 o.kind), (Value.string (str o.frm)), (Value.string (str o.to)), (i64 o.amount), (Value.string (str o.key)), (i64 o.slot), (i64 o.shard), (i64 0), (i64 0), (Value.slice none 0 0), (Value.bool false)] 79) (V := fun b => (Value.slice (some ⟨b, 0, none⟩) 1 1)) (by kernel_rfl) (.inl rfl) (by kernel_rfl) (by kernel_rfl) (by kernel_rfl) (by kernel_rfl) (di := (some 19)) (by kernel_rfl) (by kernel_rfl) (by kernel_rfl) (by kernel_rfl) (dj := (some 22)) (by kernel_rfl) (fun b => rfl) (fun b => rfl) (Hd.loads (by kernel_rfl)) ((Keeps.refl _).mono (fun _ _ h => h.elim)) (fun b14 w15 hb16 H17 K18 hs19 => ?_)
  have lb14d : d < b14 := by have := Hd.lt; omega
  have lb14b1 : b1 < b14 := by have := H4.lt; omega
  have nb14 : w.heap.size ≤ b14 := by have := K0.size; omega
  have ob20 : ∀ i, ((Value.slice A l.length c)).ownBlock = some i → i < b14 := fun i hi => by have := (World.ownsRow.lt hO i hi).2; omega
  have of21 : ∀ i, T i → i ≠ b14 := fun i hi => by have := RowsE.lt hR i hi; omega
  replace K0 := K0.tn K18
  replace Hd := Hd.keep K18 (fun h => h)
  replace H4 := H4.keep K18 (fun h => h)
  replace hO := own_keep0 hO K18
  replace hR := RowsE.keep hR K18 (fun _ _ h => h)
  refine ⟨(K18.mono (fun _ _ h => h.elim)), ?_⟩
  refine DrB.strong (S' := (fun wz => Keeps (fun i => ((Value.slice A l.length c)).ownBlock = some i ∨ i = d) w15 wz)) ((Keeps.refl w15).mono (fun _ _ h => h.elim)) (fun wz hx => K18.trans hx (fun i _ h => h.elim) (fun _ _ h => h)) ?_
  clear K18 hs19
  refine DrB.end_ (t := 81) (a := ⟨d, 0, none⟩) (v := (Value.slice A l.length c)) (R := [(0, (ptr d)), (4, (i64 0)), (15, (ptr d)), (19, (Value.slice A l.length c)), (22, (Value.slice (some ⟨b14, 0, none⟩) 1 1))]) (by kernel_rfl) (by kernel_rfl) (by kernel_rfl) (di := (some 19)) (by kernel_rfl) (by kernel_rfl) (by kernel_rfl) (Hd.loads (by kernel_rfl)) ((Keeps.refl _).mono (fun _ _ h => h.elim)) ?_
  obtain ⟨v22, w23, hr24, hO25, hK26, hg27⟩ := OwnT.app (ty := 81) DCall.two DCall.one tyCP hO (show RdT _ 11 DCall.cells _ [(⟨o, 0, 0, none, 0, [], false⟩ : DCall)] from Rd.lit H17 (n := 1) rfl (by decide)) (by simp only [List.length_cons, List.length_nil]; omega) (by simp only [List.length_cons, List.length_nil]; omega) (Nat.zero_le _)
  obtain ⟨A29, c30, rfl⟩ := RdT.form DCall.two (by decide) (OwnT.rd hO25)
  have ob31 : ∀ i, ((Value.slice A29 ((l ++ [(⟨o, 0, 0, none, 0, [], false⟩ : DCall)]).length) c30)).ownBlock = some i → i ≠ d := fun i hi => by rcases hg27 i hi with h | h; (have := hVd i h; omega); (have := Hd.lt; omega)
  have ob32 : ∀ i, ((Value.slice A29 ((l ++ [(⟨o, 0, 0, none, 0, [], false⟩ : DCall)]).length) c30)).ownBlock = some i → i ≠ b1 := fun i hi => by rcases hg27 i hi with h | h; (have := ob7 i h; omega); (have := H4.lt; omega)
  have ob33 : ∀ i, ((Value.slice A29 ((l ++ [(⟨o, 0, 0, none, 0, [], false⟩ : DCall)]).length) c30)).ownBlock = some i → i ≠ b14 := fun i hi => by rcases hg27 i hi with h | h; (have := ob20 i h; omega); (have := H17.lt; omega)
  have oo34 : ∀ i, ((Value.slice A29 ((l ++ [(⟨o, 0, 0, none, 0, [], false⟩ : DCall)]).length) c30)).ownBlock = some i → T i → False := fun i hs hi => by rcases hg27 i hs with h | h; (exact hVT i h hi); (have := RowsE.lt hR i hi; omega)
  have K28 := hK26
  have hzz := K0.size
  replace K0 := K0.trans K28 (U := (fun i => i = d ∨ ((Value.slice A l.length c)).ownBlock = some i)) (fun i h1 h2 => h2) (fun i h1 h2 => by have h2 : ((Value.slice A l.length c)).ownBlock = some i := h2; exact .inr (h2))
  replace Hd := Hd.keep K28 (by intro h; change ((Value.slice A l.length c)).ownBlock = some d at h; have := hVd d h; omega)
  replace H4 := H4.keep K28 (by intro h; change ((Value.slice A l.length c)).ownBlock = some b1 at h; have := ob7 b1 h; omega)
  replace H17 := H17.keep K28 (by intro h; change ((Value.slice A l.length c)).ownBlock = some b14 at h; have := ob20 b14 h; omega)
  clear hO
  replace hR := RowsE.keep hR K28 (fun i hi hs => by have hs : ((Value.slice A l.length c)).ownBlock = some i := hs; exact hVT i hs hi)
  refine Dr.go (i := 8) (v := (Value.slice A29 ((l ++ [(⟨o, 0, 0, none, 0, [], false⟩ : DCall)]).length) c30)) (by kernel_rfl) (by kernel_rfl) (Runs.append (ts := #[81, 81]) (ty := 81) (vs := [(Value.slice A l.length c), (Value.slice (some ⟨b14, 0, none⟩) 1 1)]) (by kernel_rfl) hr24) (d := (some 23)) (by kernel_rfl) rfl (K28.mono (fun i _ h => by have h : ((Value.slice A l.length c)).ownBlock = some i := h; show ((Value.slice A l.length c)).ownBlock = some i ∨ i = d; exact (.inl h))) ?_
  refine Dr.strong (S' := (fun wz => Keeps (fun i => ((Value.slice A l.length c)).ownBlock = some i ∨ i = d) w23 wz)) ((Keeps.refl w23).mono (fun _ _ h => h.elim)) (fun wz hx => K28.trans hx (fun i _ h => by have h : ((Value.slice A l.length c)).ownBlock = some i := h; show ((Value.slice A l.length c)).ownBlock = some i ∨ i = d; exact (.inl h)) (fun _ _ h => h)) ?_
  have hOF35 : ∀ i, ((Value.slice A29 ((l ++ [(⟨o, 0, 0, none, 0, [], false⟩ : DCall)]).length) c30)).ownBlock = some i → F i ∨ w.heap.size ≤ i := fun i hi => (hg27 i hi).elim (fun h => .inl (hV7 i h).2.1) (fun h => .inr (Nat.le_trans hzz h))
  have hln36 : (l ++ [(⟨o, 0, 0, none, 0, [], false⟩ : DCall)]).length = l.length + 1 := by rw [List.length_append]; rfl
  clear K28 hr24 hK26 hg27
  refine Dr.takes (fuel' := 1) (is' := _) [9, 10] [(0, (ptr d)), (4, (i64 0)), (23, (Value.slice A29 ((l ++ [(⟨o, 0, 0, none, 0, [], false⟩ : DCall)]).length) c30)), (25, (ptr d))] (by kernel_rfl) rfl (by kernel_rfl) ?_
  refine Dr.put (i := 11) (t := 81) (b := d) (off := 0) (v := (Value.slice A29 ((l ++ [(⟨o, 0, 0, none, 0, [], false⟩ : DCall)]).length) c30)) (ys := [(Value.slice A29 ((l ++ [(⟨o, 0, 0, none, 0, [], false⟩ : DCall)]).length) c30)]) (by kernel_rfl) (by kernel_rfl) (by kernel_rfl) Hd (by kernel_rfl) (d := none) (by kernel_rfl) rfl (fun w37 H38 K39 => ?_)
  clear Hd
  replace K0 := K0.trans K39 (U := (fun i => i = d ∨ ((Value.slice A l.length c)).ownBlock = some i)) (fun i h1 h2 => h2) (fun i h1 h2 => by have h2 : i = d := h2; exact .inl h2)
  replace H4 := H4.k1 K39 (by omega)
  replace H17 := H17.k1 K39 (by omega)
  replace hR := RowsE.keep hR K39 (fun i hi hs => by have hs : i = d := hs; have := hTd i hi; omega)
  replace hO25 := own_keep hO25 K39 (fun i hi => by have := ob31 i hi; omega)
  refine ⟨(K39.mono (fun i _ h => by have h : i = d := h; show ((Value.slice A l.length c)).ownBlock = some i ∨ i = d; exact (.inr h))), ?_⟩
  refine Dr.strong (S' := (fun wz => Keeps (fun i => ((Value.slice A l.length c)).ownBlock = some i ∨ i = d) w37 wz)) ((Keeps.refl w37).mono (fun _ _ h => h.elim)) (fun wz hx => K39.trans hx (fun i _ h => by have h : i = d := h; show ((Value.slice A l.length c)).ownBlock = some i ∨ i = d; exact (.inr h)) (fun _ _ h => h)) ?_
  clear K39
  refine Dr.done (by kernel_rfl) ?_
  refine qs ?_
  refine qg ?_
  refine og 3 [(4, (i64 0)), (28, (ptr d))] 3 ?_
  refine Ops.go (v := (Value.slice A29 ((l ++ [(⟨o, 0, 0, none, 0, [], false⟩ : DCall)]).length) c30)) (by kernel_rfl) (Runs.load (t := 81) (a := ⟨d, 0, none⟩) (by kernel_rfl) (H38.loads (by kernel_rfl))) (d := (some 29)) (by kernel_rfl) rfl ?_
  refine og 2 [(4, (i64 0)), (31, (i64 (IntKind.i64.wrap ((((l ++ [(⟨o, 0, 0, none, 0, [], false⟩ : DCall)]).length : Nat) : Int) - 1))))] 6 ?_
  have e40 : IntKind.i64.wrap ((((l ++ [(⟨o, 0, 0, none, 0, [], false⟩ : DCall)]).length : Nat) : Int) - 1) = (((l ++ [(⟨o, 0, 0, none, 0, [], false⟩ : DCall)]).length : Nat) : Int) - 1 := wrap_i64 (by omega) (by omega)
  rw [e40]
  refine og 1 [(4, (i64 ((((l ++ [(⟨o, 0, 0, none, 0, [], false⟩ : DCall)]).length : Nat) : Int) - 1)))] 7 ?_
  refine od ?_
  refine q_ret (by kernel_rfl) ?_
  refine ⟨(i64 ((((l ++ [(⟨o, 0, 0, none, 0, [], false⟩ : DCall)]).length : Nat) : Int) - 1)), retv_tmp rfl rfl, ?_⟩
  have e : beginM (l.map DCall.m) o = ((l ++ [(⟨o, 0, 0, none, 0, [], false⟩ : DCall)]).map DCall.m, (l.length : Int)) := by unfold beginM; rw [List.length_map, if_neg (by omega), List.map_append]; rfl
  rw [e]
  exact ⟨by congr 2; (try rw [List.length_append, List.length_singleton]); omega, (K0.mono (fun i _ h => by rcases h with h | h; (rw [h]; exact hFd); (exact (hV7 i h).2.1))), (l ++ [(⟨o, 0, 0, none, 0, [], false⟩ : DCall)]), A29, c30, T, rfl, H38, hO25, RowsE.add hR (Rd.nil _ _) rfl, fun i hi => ⟨hTd i hi, .inl (hT7 i hi).2, RowsE.lt hR i hi⟩, fun i hi => ⟨ob31 i hi, ⟨hOF35 i hi, (World.ownsRow.lt hO25 i hi).2⟩, fun h => oo34 i hi h⟩, ⟨.inl hFd, H38.lt⟩, fun i hi => hi.2, by rw [List.length_map, List.length_append, List.length_singleton]; omega⟩

set_option maxHeartbeats 1000000 in
theorem BeginR_calls (w : World) (F : Nat → Prop) (d : Nat) (l : List DCall) (A : Option Addr) (c : Nat) (T : Nat → Prop) (o : Opm) (Hd : Has w d (rowL [(Value.slice A l.length c)] 55)) (hO : OwnT w 0 87 11 DCall.cells ((Value.slice A l.length c)) l) (hR : RowsE w DCall.rv DCall.rows T l) (hT7 : ∀ i, T i → i ≠ d ∧ F i) (hV7 : ∀ i, ((Value.slice A l.length c)).ownBlock = some i → i ≠ d ∧ F i ∧ ¬ T i) (hFd : F d) (hFl : ∀ i, F i → i < w.heap.size) (h20 : l.length ≤ 2000) : Calls Try.prog 20 ⟨[(ptr d), (agg [(i64 o.kind), (Value.string (str o.frm)), (Value.string (str o.to)), (i64 o.amount), (Value.string (str o.key)), (i64 o.slot), (i64 o.shard)])]⟩ w (fun e w' => e = .returned (i64 (beginM (l.map DCall.m) o).2) ∧ Keeps F w w' ∧ DeskP w' (fun i => (F i ∨ w.heap.size ≤ i) ∧ i < w'.heap.size) d 55 87 ((beginM (l.map DCall.m) o).1)) := by
 have Hdl := Hd.lt
 have hTd : ∀ i, T i → i ≠ d := fun i hi => (hT7 i hi).1
 have hVd : ∀ i, ((Value.slice A l.length c)).ownBlock = some i → i ≠ d := fun i hi => (hV7 i hi).1
 have hVT : ∀ i, ((Value.slice A l.length c)).ownBlock = some i → T i → False := fun i hi h => (hV7 i hi).2.2 h
 have hcap := RdT.len DCall.two (by decide) (OwnT.rd hO)
 have K0 : Keeps (fun i => i = d ∨ ((Value.slice A l.length c)).ownBlock = some i) w w := (Keeps.refl w).mono (fun _ _ h => h.elim)
 refine q_calls Try.func20 (by kernel_rfl) (by kernel_rfl) ?_
 refine qs ?_
 refine qg ?_
 refine Ops.new (o := rowL [(i64 o.kind), (Value.string (str o.frm)), (Value.string (str o.to)), (i64 o.amount), (Value.string (str o.key)), (i64 o.slot), (i64 o.shard)] 23) (V := fun b => (ptr b)) (by kernel_rfl) (d := (some 3)) (by kernel_rfl) (fun b => rfl) (fun b1 w2 hb3 H4 K5 hs6 => ?_)
 have lb1d : d < b1 := by have := Hd.lt; omega
 have nb1 : w.heap.size ≤ b1 := by have := K0.size; omega
 have ob7 : ∀ i, ((Value.slice A l.length c)).ownBlock = some i → i < b1 := fun i hi => by have := (World.ownsRow.lt hO i hi).2; omega
 have of8 : ∀ i, T i → i ≠ b1 := fun i hi => by have := RowsE.lt hR i hi; omega
 replace K0 := K0.tn K5
 replace Hd := Hd.keep K5 (fun h => h)
 replace hO := own_keep0 hO K5
 replace hR := RowsE.keep hR K5 (fun _ _ h => h)
 clear K5 hs6
 refine og 1 [(0, (ptr d)), (3, (ptr b1)), (4, (i64 0))] 2 ?_
 refine od ?_
 refine qs ?_
 refine qs ?_
 refine qg ?_
 refine og 3 [(0, (ptr d)), (3, (ptr b1)), (4, (i64 0)), (7, (ptr d))] 3 ?_
 refine Ops.go (v := (Value.slice A l.length c)) (by kernel_rfl) (Runs.load (t := 53) (a := ⟨d, 0, none⟩) (by kernel_rfl) (Hd.loads (by kernel_rfl))) (d := (some 8)) (by kernel_rfl) rfl ?_
 refine og 2 [(0, (ptr d)), (3, (ptr b1)), (4, (i64 0)), (10, (Value.bool (decide (((l.length : Nat) : Int) ≥ 2000))))] 6 ?_
 refine od ?_
 refine q_cond (o := .tmp 10) (b := (decide (((l.length : Nat) : Int) ≥ 2000))) (by kernel_rfl) rfl (fun h9 => ?_) (fun h9 => ?_)
 ·rw [h9]
  have p10 : ((l.length : Nat) : Int) ≥ 2000 := of_decide_eq_true h9
  refine qs ?_
  refine qg ?_
  refine og 1 [(0, (ptr d)), (3, (ptr b1)), (4, (i64 (-1)))] 1 ?_
  refine od ?_
  refine q_ret (by kernel_rfl) ?_
  refine ⟨(i64 (-1)), retv_tmp rfl rfl, ?_⟩
  have e : beginM (l.map DCall.m) o = (l.map DCall.m, -1) := by unfold beginM; rw [List.length_map, if_pos (by omega)]
  rw [e]
  exact ⟨rfl, (K0.mono (fun i _ h => by rcases h with h | h; (rw [h]; exact hFd); (exact (hV7 i h).2.1))), l, A, c, T, rfl, Hd, hO, hR, fun i hi => ⟨hTd i hi, .inl (hT7 i hi).2, RowsE.lt hR i hi⟩, fun i hi => ⟨hVd i hi, ⟨.inl (hV7 i hi).2.1, (World.ownsRow.lt hO i hi).2⟩, fun h => hVT i hi h⟩, ⟨.inl hFd, Hd.lt⟩, fun i hi => hi.2, by rw [List.length_map]; exact h20⟩
 ·rw [h9]
  have p11 : ¬ (((l.length : Nat) : Int) ≥ 2000) := of_decide_eq_false h9
  refine q_skip (by kernel_rfl) ?_
  refine qs ?_
  refine q_draw (fun wz => Keeps (fun i => ((Value.slice A l.length c)).ownBlock = some i ∨ i = d) w2 wz) 12 (by kernel_rfl) (by kernel_rfl) (by kernel_rfl) (fun w12 K13 _ _ => ⟨(K13.mono (fun _ _ h => h.elim)), ?_⟩)
  replace K0 := K0.tn K13
  replace Hd := Hd.keep K13 (fun h => h)
  replace H4 := H4.keep K13 (fun h => h)
  replace hO := own_keep0 hO K13
  replace hR := RowsE.keep hR K13 (fun _ _ h => h)
  refine Dr.strong (S' := (fun wz => Keeps (fun i => ((Value.slice A l.length c)).ownBlock = some i ∨ i = d) w12 wz)) ((Keeps.refl w12).mono (fun _ _ h => h.elim)) (fun wz hx => K13.trans hx (fun i _ h => h.elim) (fun _ _ h => h)) ?_
  clear K13
  refine Dr.takes (fuel' := 8) (is' := _) [0, 1, 2, 3] [(0, (ptr d)), (3, (ptr b1)), (4, (i64 0)), (11, (ptr d)), (14, (ptr d))] (by kernel_rfl) rfl (by kernel_rfl) ?_
  refine Dr.take (i := 5) (v := (agg [(i64 o.kind), (Value.string (str o.frm)), (Value.string (str o.to)), (i64 o.amount), (Value.string (str o.key)), (i64 o.slot), (i64 o.shard)])) (by kernel_rfl) (by kernel_rfl) (fun wz hS => Runs.load (t := 23) (a := ⟨b1, 0, none⟩) (by kernel_rfl) ((H4.keep hS (by intro h; change ((Value.slice A l.length c)).ownBlock = some b1 ∨ b1 = d at h; rcases h with h | h; (have := ob7 b1 h; omega); (omega))).loads (by kernel_rfl))) (d := (some 16)) (by kernel_rfl) rfl ?_
  refine Dr.takes (fuel' := 6) (is' := _) [6] [(0, (ptr d)), (4, (i64 0)), (11, (ptr d)), (14, (ptr d)), (17, (agg [(i64 o.kind), (Value.string (str o.frm)), (Value.string (str o.to)), (i64 o.amount), (Value.string (str o.key)), (i64 o.slot), (i64 o.shard), (i64 0), (i64 0), (Value.slice none 0 0), (Value.bool false)]))] (by kernel_rfl) rfl (by kernel_rfl) ?_
  refine Dr.float [(0, (ptr d)), (4, (i64 0)), (11, (ptr d)), (15, (Value.slice A l.length c)), (17, (agg [(i64 o.kind), (Value.string (str o.frm)), (Value.string (str o.to)), (i64 o.amount), (Value.string (str o.key)), (i64 o.slot), (i64 o.shard), (i64 0), (i64 0), (Value.slice none 0 0), (Value.bool false)]))] 4 ?_
  refine DrB.new (i := 4) (j := 7) (t := 53) (a := ⟨d, 0, none⟩) (v := (Value.slice A l.length c)) (o := rowL [(i64 o.kind), (Value.string (str o.frm)), (Value.string (str o.to)), (i64 o.amount), (Value.string (str o.key)), (i64 o.slot), (i64 o.shard), (i64 0), (i64 0), (Value.slice none 0 0), (Value.bool false)] 87) (V := fun b => (Value.slice (some ⟨b, 0, none⟩) 1 1)) (by kernel_rfl) (.inl rfl) (by kernel_rfl) (by kernel_rfl) (by kernel_rfl) (by kernel_rfl) (di := (some 15)) (by kernel_rfl) (by kernel_rfl) (by kernel_rfl) (by kernel_rfl) (dj := (some 18)) (by kernel_rfl) (fun b => rfl) (fun b => rfl) (Hd.loads (by kernel_rfl)) ((Keeps.refl _).mono (fun _ _ h => h.elim)) (fun b14 w15 hb16 H17 K18 hs19 => ?_)
  have lb14d : d < b14 := by have := Hd.lt; omega
  have lb14b1 : b1 < b14 := by have := H4.lt; omega
  have nb14 : w.heap.size ≤ b14 := by have := K0.size; omega
  have ob20 : ∀ i, ((Value.slice A l.length c)).ownBlock = some i → i < b14 := fun i hi => by have := (World.ownsRow.lt hO i hi).2; omega
  have of21 : ∀ i, T i → i ≠ b14 := fun i hi => by have := RowsE.lt hR i hi; omega
  replace K0 := K0.tn K18
  replace Hd := Hd.keep K18 (fun h => h)
  replace H4 := H4.keep K18 (fun h => h)
  replace hO := own_keep0 hO K18
  replace hR := RowsE.keep hR K18 (fun _ _ h => h)
  refine ⟨(K18.mono (fun _ _ h => h.elim)), ?_⟩
  refine DrB.strong (S' := (fun wz => Keeps (fun i => ((Value.slice A l.length c)).ownBlock = some i ∨ i = d) w15 wz)) ((Keeps.refl w15).mono (fun _ _ h => h.elim)) (fun wz hx => K18.trans hx (fun i _ h => h.elim) (fun _ _ h => h)) ?_
  clear K18 hs19
  refine DrB.end_ (t := 53) (a := ⟨d, 0, none⟩) (v := (Value.slice A l.length c)) (R := [(0, (ptr d)), (4, (i64 0)), (11, (ptr d)), (15, (Value.slice A l.length c)), (18, (Value.slice (some ⟨b14, 0, none⟩) 1 1))]) (by kernel_rfl) (by kernel_rfl) (by kernel_rfl) (di := (some 15)) (by kernel_rfl) (by kernel_rfl) (by kernel_rfl) (Hd.loads (by kernel_rfl)) ((Keeps.refl _).mono (fun _ _ h => h.elim)) ?_
  obtain ⟨v22, w23, hr24, hO25, hK26, hg27⟩ := OwnT.app (ty := 53) DCall.two DCall.one tyCR hO (show RdT _ 11 DCall.cells _ [(⟨o, 0, 0, none, 0, [], false⟩ : DCall)] from Rd.lit H17 (n := 1) rfl (by decide)) (by simp only [List.length_cons, List.length_nil]; omega) (by simp only [List.length_cons, List.length_nil]; omega) (Nat.zero_le _)
  obtain ⟨A29, c30, rfl⟩ := RdT.form DCall.two (by decide) (OwnT.rd hO25)
  have ob31 : ∀ i, ((Value.slice A29 ((l ++ [(⟨o, 0, 0, none, 0, [], false⟩ : DCall)]).length) c30)).ownBlock = some i → i ≠ d := fun i hi => by rcases hg27 i hi with h | h; (have := hVd i h; omega); (have := Hd.lt; omega)
  have ob32 : ∀ i, ((Value.slice A29 ((l ++ [(⟨o, 0, 0, none, 0, [], false⟩ : DCall)]).length) c30)).ownBlock = some i → i ≠ b1 := fun i hi => by rcases hg27 i hi with h | h; (have := ob7 i h; omega); (have := H4.lt; omega)
  have ob33 : ∀ i, ((Value.slice A29 ((l ++ [(⟨o, 0, 0, none, 0, [], false⟩ : DCall)]).length) c30)).ownBlock = some i → i ≠ b14 := fun i hi => by rcases hg27 i hi with h | h; (have := ob20 i h; omega); (have := H17.lt; omega)
  have oo34 : ∀ i, ((Value.slice A29 ((l ++ [(⟨o, 0, 0, none, 0, [], false⟩ : DCall)]).length) c30)).ownBlock = some i → T i → False := fun i hs hi => by rcases hg27 i hs with h | h; (exact hVT i h hi); (have := RowsE.lt hR i hi; omega)
  have K28 := hK26
  have hzz := K0.size
  replace K0 := K0.trans K28 (U := (fun i => i = d ∨ ((Value.slice A l.length c)).ownBlock = some i)) (fun i h1 h2 => h2) (fun i h1 h2 => by have h2 : ((Value.slice A l.length c)).ownBlock = some i := h2; exact .inr (h2))
  replace Hd := Hd.keep K28 (by intro h; change ((Value.slice A l.length c)).ownBlock = some d at h; have := hVd d h; omega)
  replace H4 := H4.keep K28 (by intro h; change ((Value.slice A l.length c)).ownBlock = some b1 at h; have := ob7 b1 h; omega)
  replace H17 := H17.keep K28 (by intro h; change ((Value.slice A l.length c)).ownBlock = some b14 at h; have := ob20 b14 h; omega)
  clear hO
  replace hR := RowsE.keep hR K28 (fun i hi hs => by have hs : ((Value.slice A l.length c)).ownBlock = some i := hs; exact hVT i hs hi)
  refine Dr.go (i := 8) (v := (Value.slice A29 ((l ++ [(⟨o, 0, 0, none, 0, [], false⟩ : DCall)]).length) c30)) (by kernel_rfl) (by kernel_rfl) (Runs.append (ts := #[53, 53]) (ty := 53) (vs := [(Value.slice A l.length c), (Value.slice (some ⟨b14, 0, none⟩) 1 1)]) (by kernel_rfl) hr24) (d := (some 19)) (by kernel_rfl) rfl (K28.mono (fun i _ h => by have h : ((Value.slice A l.length c)).ownBlock = some i := h; show ((Value.slice A l.length c)).ownBlock = some i ∨ i = d; exact (.inl h))) ?_
  refine Dr.strong (S' := (fun wz => Keeps (fun i => ((Value.slice A l.length c)).ownBlock = some i ∨ i = d) w23 wz)) ((Keeps.refl w23).mono (fun _ _ h => h.elim)) (fun wz hx => K28.trans hx (fun i _ h => by have h : ((Value.slice A l.length c)).ownBlock = some i := h; show ((Value.slice A l.length c)).ownBlock = some i ∨ i = d; exact (.inl h)) (fun _ _ h => h)) ?_
  have hOF35 : ∀ i, ((Value.slice A29 ((l ++ [(⟨o, 0, 0, none, 0, [], false⟩ : DCall)]).length) c30)).ownBlock = some i → F i ∨ w.heap.size ≤ i := fun i hi => (hg27 i hi).elim (fun h => .inl (hV7 i h).2.1) (fun h => .inr (Nat.le_trans hzz h))
  have hln36 : (l ++ [(⟨o, 0, 0, none, 0, [], false⟩ : DCall)]).length = l.length + 1 := by rw [List.length_append]; rfl
  clear K28 hr24 hK26 hg27
  refine Dr.takes (fuel' := 1) (is' := _) [9, 10] [(0, (ptr d)), (4, (i64 0)), (19, (Value.slice A29 ((l ++ [(⟨o, 0, 0, none, 0, [], false⟩ : DCall)]).length) c30)), (21, (ptr d))] (by kernel_rfl) rfl (by kernel_rfl) ?_
  refine Dr.put (i := 11) (t := 53) (b := d) (off := 0) (v := (Value.slice A29 ((l ++ [(⟨o, 0, 0, none, 0, [], false⟩ : DCall)]).length) c30)) (ys := [(Value.slice A29 ((l ++ [(⟨o, 0, 0, none, 0, [], false⟩ : DCall)]).length) c30)]) (by kernel_rfl) (by kernel_rfl) (by kernel_rfl) Hd (by kernel_rfl) (d := none) (by kernel_rfl) rfl (fun w37 H38 K39 => ?_)
  clear Hd
  replace K0 := K0.trans K39 (U := (fun i => i = d ∨ ((Value.slice A l.length c)).ownBlock = some i)) (fun i h1 h2 => h2) (fun i h1 h2 => by have h2 : i = d := h2; exact .inl h2)
  replace H4 := H4.k1 K39 (by omega)
  replace H17 := H17.k1 K39 (by omega)
  replace hR := RowsE.keep hR K39 (fun i hi hs => by have hs : i = d := hs; have := hTd i hi; omega)
  replace hO25 := own_keep hO25 K39 (fun i hi => by have := ob31 i hi; omega)
  refine ⟨(K39.mono (fun i _ h => by have h : i = d := h; show ((Value.slice A l.length c)).ownBlock = some i ∨ i = d; exact (.inr h))), ?_⟩
  refine Dr.strong (S' := (fun wz => Keeps (fun i => ((Value.slice A l.length c)).ownBlock = some i ∨ i = d) w37 wz)) ((Keeps.refl w37).mono (fun _ _ h => h.elim)) (fun wz hx => K39.trans hx (fun i _ h => by have h : i = d := h; show ((Value.slice A l.length c)).ownBlock = some i ∨ i = d; exact (.inr h)) (fun _ _ h => h)) ?_
  clear K39
  refine Dr.done (by kernel_rfl) ?_
  refine qs ?_
  refine qg ?_
  refine og 3 [(4, (i64 0)), (24, (ptr d))] 3 ?_
  refine Ops.go (v := (Value.slice A29 ((l ++ [(⟨o, 0, 0, none, 0, [], false⟩ : DCall)]).length) c30)) (by kernel_rfl) (Runs.load (t := 53) (a := ⟨d, 0, none⟩) (by kernel_rfl) (H38.loads (by kernel_rfl))) (d := (some 25)) (by kernel_rfl) rfl ?_
  refine og 2 [(4, (i64 0)), (27, (i64 (IntKind.i64.wrap ((((l ++ [(⟨o, 0, 0, none, 0, [], false⟩ : DCall)]).length : Nat) : Int) - 1))))] 6 ?_
  have e40 : IntKind.i64.wrap ((((l ++ [(⟨o, 0, 0, none, 0, [], false⟩ : DCall)]).length : Nat) : Int) - 1) = (((l ++ [(⟨o, 0, 0, none, 0, [], false⟩ : DCall)]).length : Nat) : Int) - 1 := wrap_i64 (by omega) (by omega)
  rw [e40]
  refine og 1 [(4, (i64 ((((l ++ [(⟨o, 0, 0, none, 0, [], false⟩ : DCall)]).length : Nat) : Int) - 1)))] 7 ?_
  refine od ?_
  refine q_ret (by kernel_rfl) ?_
  refine ⟨(i64 ((((l ++ [(⟨o, 0, 0, none, 0, [], false⟩ : DCall)]).length : Nat) : Int) - 1)), retv_tmp rfl rfl, ?_⟩
  have e : beginM (l.map DCall.m) o = ((l ++ [(⟨o, 0, 0, none, 0, [], false⟩ : DCall)]).map DCall.m, (l.length : Int)) := by unfold beginM; rw [List.length_map, if_neg (by omega), List.map_append]; rfl
  rw [e]
  exact ⟨by congr 2; (try rw [List.length_append, List.length_singleton]); omega, (K0.mono (fun i _ h => by rcases h with h | h; (rw [h]; exact hFd); (exact (hV7 i h).2.1))), (l ++ [(⟨o, 0, 0, none, 0, [], false⟩ : DCall)]), A29, c30, T, rfl, H38, hO25, RowsE.add hR (Rd.nil _ _) rfl, fun i hi => ⟨hTd i hi, .inl (hT7 i hi).2, RowsE.lt hR i hi⟩, fun i hi => ⟨ob31 i hi, ⟨hOF35 i hi, (World.ownsRow.lt hO25 i hi).2⟩, fun h => oo34 i hi h⟩, ⟨.inl hFd, H38.lt⟩, fun i hi => hi.2, by rw [List.length_map, List.length_append, List.length_singleton]; omega⟩
end Go.Proofs.Ytlnidnadpdpciaa
namespace Go.Proofs.Ytlnidnadpdpciaa
open Go.Q Go.RowKit

theorem at_out (w : World) (d : Nat) (l : List DCall) (A : Option Addr) (c : Nat) (n : Int) (Hd : Has w d (rowL [(Value.slice A l.length c)] 84)) (hn : n < 0 ∨ (l.length : Int) ≤ n) : Calls Try.prog 37 ⟨[(ptr d), (i64 n)]⟩ w (fun e w' => e = .returned (.pointer none) ∧ Keeps none_ w w') := by
 have Hdl := Hd.lt
 have K0 : Keeps none_ w w := Keeps.refl w
 refine q_calls Try.func37 (by kernel_rfl) (by kernel_rfl) ?_
 refine qs ?_
 refine qg ?_
 refine og 1 [(0, (ptr d)), (1, (i64 n)), (4, (Value.pointer none))] 1 ?_
 refine od ?_
 refine qs ?_
 refine qs ?_
 refine qg ?_
 refine og 7 [(0, (ptr d)), (1, (i64 n)), (4, (Value.pointer none)), (11, (Value.bool (decide (n < 0))))] 7 ?_
 refine Ops.split (decide (n < 0)) (fun h1 => ?_) (fun h1 => ?_)
 ·rw [h1]
  have p2 : n < 0 := of_decide_eq_true h1
  refine og 8 [(0, (ptr d)), (1, (i64 n)), (4, (Value.pointer none)), (19, (Value.bool true))] 15 ?_
  refine od ?_
  refine q_then (o := .tmp 19) (by kernel_rfl) rfl ?_
  refine qs ?_
  refine qg ?_
  refine og 1 [(0, (ptr d)), (1, (i64 n)), (4, (Value.pointer none))] 1 ?_
  refine od ?_
  refine q_ret (by kernel_rfl) ?_
  refine ⟨(Value.pointer none), retv_tmp rfl rfl, ?_⟩
  exact ⟨rfl, K0⟩
 ·rw [h1]
  have p3 : ¬ (n < 0) := of_decide_eq_false h1
  refine og 4 [(0, (ptr d)), (1, (i64 n)), (4, (Value.pointer none)), (11, (Value.bool false)), (12, (i64 n)), (15, (ptr d))] 11 ?_
  refine Ops.go (v := (Value.slice A l.length c)) (by kernel_rfl) (Runs.load (t := 81) (a := ⟨d, 0, none⟩) (by kernel_rfl) (Hd.loads (by kernel_rfl))) (d := (some 16)) (by kernel_rfl) rfl ?_
  refine og 3 [(0, (ptr d)), (1, (i64 n)), (4, (Value.pointer none)), (19, (Value.bool (decide (n ≥ ((l.length : Nat) : Int)))))] 15 ?_
  refine od ?_
  have h4 : (decide (n ≥ ((l.length : Nat) : Int))) = true := decide_eq_true (by omega)
  rw [h4]
  refine q_then (o := .tmp 19) (by kernel_rfl) rfl ?_
  refine qs ?_
  refine qg ?_
  refine og 1 [(0, (ptr d)), (1, (i64 n)), (4, (Value.pointer none))] 1 ?_
  refine od ?_
  refine q_ret (by kernel_rfl) ?_
  refine ⟨(Value.pointer none), retv_tmp rfl rfl, ?_⟩
  exact ⟨rfl, K0⟩

theorem at_in (w : World) (d : Nat) (l : List DCall) (A : Option Addr) (c : Nat) (k gB : Nat) (Hd : Has w d (rowL [(Value.slice A l.length c)] 84)) (hk : k < l.length) (hA : A = some ⟨gB, 0, none⟩) : Calls Try.prog 37 ⟨[(ptr d), (i64 ((k : Nat) : Int))]⟩ w (fun e w' => e = .returned (.pointer (some ⟨gB, k * 11, none⟩)) ∧ Keeps none_ w w') := by
 have Hdl := Hd.lt
 have K0 : Keeps none_ w w := Keeps.refl w
 refine q_calls Try.func37 (by kernel_rfl) (by kernel_rfl) ?_
 refine qs ?_
 refine qg ?_
 refine og 1 [(0, (ptr d)), (1, (i64 ((k : Nat) : Int))), (4, (Value.pointer none))] 1 ?_
 refine od ?_
 refine qs ?_
 refine qs ?_
 refine qg ?_
 refine og 7 [(0, (ptr d)), (1, (i64 ((k : Nat) : Int))), (4, (Value.pointer none)), (11, (Value.bool (decide (((k : Nat) : Int) < 0))))] 7 ?_
 have h1 : (decide (((k : Nat) : Int) < 0)) = false := decide_eq_false (by omega)
 rw [h1]
 refine og 4 [(0, (ptr d)), (1, (i64 ((k : Nat) : Int))), (4, (Value.pointer none)), (11, (Value.bool false)), (12, (i64 ((k : Nat) : Int))), (15, (ptr d))] 11 ?_
 refine Ops.go (v := (Value.slice A l.length c)) (by kernel_rfl) (Runs.load (t := 81) (a := ⟨d, 0, none⟩) (by kernel_rfl) (Hd.loads (by kernel_rfl))) (d := (some 16)) (by kernel_rfl) rfl ?_
 refine og 3 [(0, (ptr d)), (1, (i64 ((k : Nat) : Int))), (4, (Value.pointer none)), (19, (Value.bool (decide (((k : Nat) : Int) ≥ ((l.length : Nat) : Int)))))] 15 ?_
 refine od ?_
 have h2 : (decide (((k : Nat) : Int) ≥ ((l.length : Nat) : Int))) = false := decide_eq_false (by omega)
 rw [h2]
 refine q_else (o := .tmp 19) (by kernel_rfl) rfl ?_
 refine q_skip (by kernel_rfl) ?_
 refine qs ?_
 refine qg ?_
 refine og 3 [(1, (i64 ((k : Nat) : Int))), (4, (Value.pointer none)), (22, (ptr d))] 3 ?_
 refine Ops.go (v := (Value.slice A l.length c)) (by kernel_rfl) (Runs.load (t := 81) (a := ⟨d, 0, none⟩) (by kernel_rfl) (Hd.loads (by kernel_rfl))) (d := (some 23)) (by kernel_rfl) rfl ?_
 refine og 1 [(4, (Value.pointer none)), (23, (Value.slice A l.length c)), (24, (i64 ((k : Nat) : Int)))] 5 ?_
 refine Ops.go (by kernel_rfl) (Runs.ixSliceE (k := IntKind.i64) (t := 81) (len := l.length) (cap := c) (s := 11) (off' := k * 11) (i := ((k : Nat) : Int)) hA (by kernel_rfl) (by kernel_rfl) (by omega) (by omega) (by omega)) (d := (some 25)) (by kernel_rfl) rfl ?_
 refine og 1 [(4, (Value.pointer (some ⟨gB, k * 11, none⟩)))] 7 ?_
 refine od ?_
 refine q_ret (by kernel_rfl) ?_
 refine ⟨(Value.pointer (some ⟨gB, k * 11, none⟩)), retv_tmp rfl rfl, ?_⟩
 exact ⟨rfl, K0⟩

theorem CloneR_nil (w : World) (n c : Nat)  : Calls Try.prog 68 ⟨[(Value.slice none n c)]⟩ w (fun e w' => e = .returned (.slice none 0 0) ∧ Keeps none_ w w') := by
 have K0 : Keeps none_ w w := Keeps.refl w
 refine q_calls Try.func68 (by kernel_rfl) (by kernel_rfl) ?_
 refine qs ?_
 refine qg ?_
 refine og 1 [(0, (Value.slice none n c)), (2, (Value.slice none 0 0))] 1 ?_
 refine od ?_
 refine qs ?_
 refine qs ?_
 refine qg ?_
 refine og 2 [(0, (Value.slice none n c)), (2, (Value.slice none 0 0)), (4, (Value.bool true))] 2 ?_
 refine od ?_
 refine q_then (o := .tmp 4) (by kernel_rfl) rfl ?_
 refine qs ?_
 refine qg ?_
 refine og 1 [(0, (Value.slice none n c)), (2, (Value.slice none 0 0))] 1 ?_
 refine od ?_
 refine q_ret (by kernel_rfl) ?_
 refine ⟨(Value.slice none 0 0), retv_tmp rfl rfl, ?_⟩
 exact ⟨rfl, K0⟩

theorem CloneR_some (w : World) (a : Addr) (c : Nat) (l : List RowM) (hv : RdR w (.slice (some a) l.length c) l) (hl : l.length * 24 ≤ 140737488351232) : Calls Try.prog 68 ⟨[(Value.slice (some a) l.length c)]⟩ w (fun e w' => ∃ v', e = .returned v' ∧ Keeps none_ w w' ∧ OwnT w' w.heap.size 59 2 RowM.cells v' ([] ++ l)) := by
 have K0 : Keeps none_ w w := Keeps.refl w
 refine q_calls Try.func68 (by kernel_rfl) (by kernel_rfl) ?_
 refine qs ?_
 refine qg ?_
 refine og 1 [(0, (Value.slice (some a) l.length c)), (2, (Value.slice none 0 0))] 1 ?_
 refine od ?_
 refine qs ?_
 refine qs ?_
 refine qg ?_
 refine og 2 [(0, (Value.slice (some a) l.length c)), (2, (Value.slice none 0 0)), (4, (Value.bool false))] 2 ?_
 refine od ?_
 refine q_else (o := .tmp 4) (by kernel_rfl) rfl ?_
 refine q_skip (by kernel_rfl) ?_
 refine qs ?_
 refine qg ?_
 refine Ops.new (o := rowL [] 59) (V := fun b => (Value.slice (some ⟨b, 0, none⟩) 0 0)) (by kernel_rfl) (d := (some 5)) (by kernel_rfl) (fun b => rfl) (fun b1 w2 hb3 H4 K5 hs6 => ?_)
 have nb1 : w.heap.size ≤ b1 := by have := K0.size; omega
 replace K0 := K0.t0 K5
 clear K5 hs6
 refine og 1 [(2, (Value.slice none 0 0)), (5, (Value.slice (some ⟨b1, 0, none⟩) 0 0)), (6, (Value.slice (some a) l.length c))] 2 ?_
 have hE7 : OwnT w2 w.heap.size 59 2 RowM.cells (Value.slice (some ⟨b1, 0, none⟩) 0 0) [] := own_empty2 H4 nb1
 obtain ⟨v8, w9, hr10, hO11, hK12, hg13⟩ := OwnT.app (ty := 25) RowM.two RowM.one tyR hE7 (Rd.keep0 (by omega) hv K0) (by first | omega | (simp only [List.length_nil]; omega)) (by first | omega | (simp only [List.length_nil]; omega)) K0.size
 obtain ⟨A15, c16, rfl⟩ := RdT.form RowM.two (by decide) (OwnT.rd hO11)
 have K14 := hK12
 refine Ops.go (v := (Value.slice A15 (([] ++ l).length) c16)) (by kernel_rfl) (Runs.append (ts := #[25, 25]) (ty := 25) (vs := [(Value.slice (some ⟨b1, 0, none⟩) 0 0), (Value.slice (some a) l.length c)]) (by kernel_rfl) hr10) (d := (some 7)) (by kernel_rfl) rfl ?_
 replace K0 := K0.trans K14 (U := none_) (fun i h1 h2 => h2) (fun i h1 h2 => by have h2 : ((Value.slice (some ⟨b1, 0, none⟩) 0 0)).ownBlock = some i := h2; exfalso; have := (World.ownsRow.lt hE7 i h2).1; omega)
 clear hE7
 clear K14 hr10 hK12 hg13
 refine og 1 [(2, (Value.slice A15 (([] ++ l).length) c16))] 4 ?_
 refine od ?_
 refine q_ret (by kernel_rfl) ?_
 refine ⟨(Value.slice A15 (([] ++ l).length) c16), retv_tmp rfl rfl, ?_⟩
 exact ⟨_, rfl, K0, hO11⟩

theorem CloneR_calls (w : World) (A : Option Addr) (c : Nat) (l : List RowM) (hv : RdR w (.slice A l.length c) l) (hl : l.length * 24 ≤ 140737488351232) : Calls Try.prog 68 ⟨[.slice A l.length c]⟩ w (fun e w' => ∃ A' c', e = .returned (.slice A' l.length c') ∧ Keeps none_ w w' ∧ OwnT w' w.heap.size 59 2 RowM.cells (.slice A' l.length c') l) := by
 cases A with
 | none =>
  refine (CloneR_nil w l.length c).mono ?_
  rintro e w' ⟨he, hk⟩
  have h0 : l = [] := by have h1 := Rd.none_nil2 hv; cases l with | nil => rfl | cons x l => simp [RowM.cells] at h1
  subst h0
  exact ⟨none, 0, he, hk, OwnT.nil _ _ _ _ _⟩
 | some a =>
  refine (CloneR_some w a c l hv hl).mono ?_
  rintro e w' ⟨v', he, hk, hO⟩
  rw [List.nil_append] at hO
  obtain ⟨A', c', rfl⟩ := RdT.form RowM.two (by decide) (OwnT.rd hO)
  exact ⟨A', c', he, hk, hO⟩

theorem own_calls (w : World) (why amount : Int) (V : Option Addr) (rc : Nat) (rs : List RowM) (hV : RdR w (.slice V rs.length rc) rs) (hz : rs.length * 24 ≤ 140737488351232) : Calls Try.prog 38 ⟨[(agg [(i64 why), (i64 amount), (Value.slice V rs.length rc)])]⟩ w (fun e w' => ∃ A' c', e = .returned (agg [(i64 why), (i64 amount), (Value.slice A' rs.length c')]) ∧ Keeps none_ w w' ∧ OwnT w' w.heap.size 59 2 RowM.cells (.slice A' rs.length c') rs) := by
 have K0 : Keeps none_ w w := Keeps.refl w
 refine q_calls Try.func38 (by kernel_rfl) (by kernel_rfl) ?_
 refine qs ?_
 refine qg ?_
 refine Ops.new (o := rowL [(i64 why), (i64 amount), (Value.slice V rs.length rc)] 27) (V := fun b => (ptr b)) (by kernel_rfl) (d := (some 1)) (by kernel_rfl) (fun b => rfl) (fun b1 w2 hb3 H4 K5 hs6 => ?_)
 have nb1 : w.heap.size ≤ b1 := by have := K0.size; omega
 replace K0 := K0.t0 K5
 clear K5 hs6
 refine Ops.new (o := rowL [(i64 0), (i64 0), (Value.slice none 0 0)] 27) (V := fun b => (ptr b)) (by kernel_rfl) (d := (some 2)) (by kernel_rfl) (fun b => rfl) (fun b7 w8 hb9 H10 K11 hs12 => ?_)
 have lb7b1 : b1 < b7 := by have := H4.lt; omega
 have nb7 : w.heap.size ≤ b7 := by have := K0.size; omega
 replace K0 := K0.t0 K11
 replace H4 := H4.keep K11 (fun h => h)
 clear K11 hs12
 refine od ?_
 refine qs ?_
 refine qg ?_
 refine og 1 [(1, (ptr b1)), (2, (ptr b7)), (3, (Value.pointer (some ⟨b1, 2, none⟩)))] 1 ?_
 refine Ops.go (v := (Value.slice V rs.length rc)) (by kernel_rfl) (Runs.load (t := 25) (a := ⟨b1, 2, none⟩) (by kernel_rfl) (H4.loads (by kernel_rfl))) (d := (some 4)) (by kernel_rfl) rfl ?_
 refine Ops.call (by kernel_rfl) (d := (some 5)) (by kernel_rfl) (CloneR_calls _ V rc rs (Rd.keep0 (by omega) hV K0) hz) ?_
 rintro _ w15 ⟨A13, c14, rfl, K16, hO17⟩
 have ob19 : ∀ i, ((Value.slice A13 rs.length c14)).ownBlock = some i → i ≠ b1 := fun i hi => by have := (World.ownsRow.lt hO17 i hi).1; have := H4.lt; omega
 have ob20 : ∀ i, ((Value.slice A13 rs.length c14)).ownBlock = some i → i ≠ b7 := fun i hi => by have := (World.ownsRow.lt hO17 i hi).1; have := H10.lt; omega
 have O18 := own_base hO17 K0.size
 refine ⟨_, _, rfl, rfl, ?_⟩
 replace K0 := K0.t0 K16
 replace H4 := H4.keep K16 (fun h => h)
 replace H10 := H10.keep K16 (fun h => h)
 clear K16
 refine og 1 [(1, (ptr b1)), (2, (ptr b7)), (5, (Value.slice A13 rs.length c14)), (6, (Value.pointer (some ⟨b1, 2, none⟩)))] 4 ?_
 refine Ops.put (t := 25) (b := b1) (off := 2) (v := (Value.slice A13 rs.length c14)) (ys := [(i64 why), (i64 amount), (Value.slice A13 rs.length c14)]) (by kernel_rfl) (by kernel_rfl) H4 (by kernel_rfl) (d := none) (by kernel_rfl) rfl (fun w21 H22 K23 => ?_)
 clear H4
 replace K0 := K0.trans K23 (U := none_) (fun i h1 h2 => h2) (fun i h1 h2 => by have h2 : i = b1 := h2; exfalso; omega)
 replace H10 := H10.k1 K23 (by omega)
 replace O18 := own_keep O18 K23 (fun i hi => by have := ob19 i hi; omega)
 clear K23
 refine od ?_
 refine qs ?_
 refine qg ?_
 refine Ops.go (v := (agg [(i64 why), (i64 amount), (Value.slice A13 rs.length c14)])) (by kernel_rfl) (Runs.load (t := 27) (a := ⟨b1, 0, none⟩) (by kernel_rfl) (H22.loads (by kernel_rfl))) (d := (some 7)) (by kernel_rfl) rfl ?_
 refine Ops.put (t := 27) (b := b7) (off := 0) (v := (agg [(i64 why), (i64 amount), (Value.slice A13 rs.length c14)])) (ys := [(i64 why), (i64 amount), (Value.slice A13 rs.length c14)]) (by kernel_rfl) (by kernel_rfl) H10 (by kernel_rfl) (d := none) (by kernel_rfl) rfl (fun w24 H25 K26 => ?_)
 clear H10
 replace K0 := K0.trans K26 (U := none_) (fun i h1 h2 => h2) (fun i h1 h2 => by have h2 : i = b7 := h2; exfalso; omega)
 replace H22 := H22.k1 K26 (by omega)
 replace O18 := own_keep O18 K26 (fun i hi => by have := ob20 i hi; omega)
 clear K26
 refine od ?_
 refine q_ret (by kernel_rfl) ?_
 refine ⟨(agg [(i64 why), (i64 amount), (Value.slice A13 rs.length c14)]), retv_cell rfl rfl (H25.loads (by kernel_rfl)), ?_⟩
 exact ⟨A13, c14, rfl, K0, own_base O18 (Nat.le_refl _)⟩
end Go.Proofs.Ytlnidnadpdpciaa
namespace Go.Proofs.Ytlnidnadpdpciaa
open Go.Q Go.RowKit

theorem HearP_out (w : World) (F : Nat → Prop) (d : Nat) (l : List DCall) (A : Option Addr) (c : Nat) (T : Nat → Prop) (n : Int) (why amount : Int) (V : Option Addr) (rc : Nat) (rs : List RowM) (Hd : Has w d (rowL [(Value.slice A l.length c)] 84)) (hO : OwnT w 0 79 11 DCall.cells ((Value.slice A l.length c)) l) (hR : RowsE w DCall.rv DCall.rows T l) (hT7 : ∀ i, T i → i ≠ d ∧ F i) (hV7 : ∀ i, ((Value.slice A l.length c)).ownBlock = some i → i ≠ d ∧ F i ∧ ¬ T i) (hFd : F d) (hFl : ∀ i, F i → i < w.heap.size) (h20 : l.length ≤ 2000) (hV : RdR w (.slice V rs.length rc) rs) (hVF : rs ≠ [] → ∀ i, (Value.slice V rs.length rc).ownBlock = some i → ¬ F i) (hz : rs.length * 24 ≤ 140737488351232) (hn : n < 0 ∨ (l.length : Int) ≤ n) : Calls Try.prog 15 ⟨[(ptr d), (i64 n), (agg [(i64 why), (i64 amount), (Value.slice V rs.length rc)])]⟩ w (fun e w' => e = .returned (.bool (hearM (l.map DCall.m) n ⟨why, amount, rs⟩).2) ∧ Keeps F w w' ∧ DeskP w' (fun i => (F i ∨ w.heap.size ≤ i) ∧ i < w'.heap.size) d 84 79 ((hearM (l.map DCall.m) n ⟨why, amount, rs⟩).1)) := by
 have Hdl := Hd.lt
 have hTd : ∀ i, T i → i ≠ d := fun i hi => (hT7 i hi).1
 have hVd : ∀ i, ((Value.slice A l.length c)).ownBlock = some i → i ≠ d := fun i hi => (hV7 i hi).1
 have hVT : ∀ i, ((Value.slice A l.length c)).ownBlock = some i → T i → False := fun i hi h => (hV7 i hi).2.2 h
 have hcap := RdT.len DCall.two (by decide) (OwnT.rd hO)
 have hDP : DeskP w F d 84 79 (l.map DCall.m) := ⟨l, A, c, T, rfl, Hd, hO, hR, hT7, hV7, hFd, hFl, by rw [List.length_map]; exact h20⟩
 have K0 : Keeps none_ w w := (Keeps.refl w).mono (fun _ _ h => h.elim)
 refine q_calls Try.func15 (by kernel_rfl) (by kernel_rfl) ?_
 refine qs ?_
 refine qg ?_
 refine Ops.new (o := rowL [(i64 why), (i64 amount), (Value.slice V rs.length rc)] 27) (V := fun b => (ptr b)) (by kernel_rfl) (d := (some 5)) (by kernel_rfl) (fun b => rfl) (fun b1 w2 hb3 H4 K5 hs6 => ?_)
 have lb1d : d < b1 := by have := Hd.lt; omega
 have nb1 : w.heap.size ≤ b1 := by have := K0.size; omega
 have ob7 : ∀ i, ((Value.slice A l.length c)).ownBlock = some i → i < b1 := fun i hi => by have := (World.ownsRow.lt hO i hi).2; omega
 have of8 : ∀ i, T i → i ≠ b1 := fun i hi => by have := RowsE.lt hR i hi; omega
 replace K0 := K0.t0 K5
 replace Hd := Hd.keep K5 (fun h => h)
 replace hO := own_keep0 hO K5
 replace hR := RowsE.keep hR K5 (fun _ _ h => h)
 replace hV := RdR.keepE hV hVF K5 (fun i hi => by exact (show none_ i from hi).elim)
 clear K5 hs6
 refine og 1 [(0, (ptr d)), (1, (i64 n)), (5, (ptr b1)), (6, (Value.bool false))] 2 ?_
 refine od ?_
 refine qs ?_
 refine qg ?_
 refine og 2 [(5, (ptr b1)), (6, (Value.bool false)), (8, (ptr d)), (9, (i64 n))] 2 ?_
 refine Ops.call (by kernel_rfl) (d := (some 10)) (by kernel_rfl) (at_out _ d l A c n Hd (by omega)) ?_
 rintro _ w10 ⟨rfl, K9⟩
 refine ⟨_, _, rfl, rfl, ?_⟩
 replace K0 := K0.t0 K9
 replace Hd := Hd.keep K9 (fun h => h)
 replace H4 := H4.keep K9 (fun h => h)
 replace hO := own_keep0 hO K9
 replace hR := RowsE.keep hR K9 (fun _ _ h => h)
 replace hV := RdR.keepE hV hVF K9 (fun i hi => by exact (show none_ i from hi).elim)
 clear K9
 refine og 1 [(5, (ptr b1)), (6, (Value.bool false)), (7, (Value.pointer none))] 4 ?_
 refine od ?_
 refine qs ?_
 refine qs ?_
 refine qg ?_
 refine og 8 [(5, (ptr b1)), (6, (Value.bool false)), (7, (Value.pointer none)), (18, (Value.bool true))] 8 ?_
 refine od ?_
 refine q_then (o := .tmp 18) (by kernel_rfl) rfl ?_
 refine qs ?_
 refine qg ?_
 refine og 1 [(5, (ptr b1)), (6, (Value.bool false)), (7, (Value.pointer none))] 1 ?_
 refine od ?_
 refine q_ret (by kernel_rfl) ?_
 refine ⟨(Value.bool false), retv_tmp rfl rfl, ?_⟩
 have e : hearM (l.map DCall.m) n ⟨why, amount, rs⟩ = (l.map DCall.m, false) := hearM_out _ _ _ (by rw [List.length_map]; exact hn)
 rw [e]
 exact ⟨rfl, K0.mono (fun _ _ h => h.elim), hDP.wide K0 (fun i hi => ⟨.inl hi, Nat.lt_of_lt_of_le (hFl i hi) K0.size⟩) (fun i hi => hi.2)⟩

set_option maxHeartbeats 1000000 in
theorem HearP_is (w : World) (F : Nat → Prop) (d : Nat) (l : List DCall) (A : Option Addr) (c : Nat) (T : Nat → Prop) (k : Nat) (x : DCall) (why amount : Int) (V : Option Addr) (rc : Nat) (rs : List RowM) (Hd : Has w d (rowL [(Value.slice A l.length c)] 84)) (hO : OwnT w 0 79 11 DCall.cells ((Value.slice A l.length c)) l) (hR : RowsE w DCall.rv DCall.rows T l) (hT7 : ∀ i, T i → i ≠ d ∧ F i) (hV7 : ∀ i, ((Value.slice A l.length c)).ownBlock = some i → i ≠ d ∧ F i ∧ ¬ T i) (hFd : F d) (hFl : ∀ i, F i → i < w.heap.size) (h20 : l.length ≤ 2000) (hV : RdR w (.slice V rs.length rc) rs) (hVF : rs ≠ [] → ∀ i, (Value.slice V rs.length rc).ownBlock = some i → ¬ F i) (hz : rs.length * 24 ≤ 140737488351232) (hx : l[k]? = some x) (hs : x.is = true) : Calls Try.prog 15 ⟨[(ptr d), (i64 ((k : Nat) : Int)), (agg [(i64 why), (i64 amount), (Value.slice V rs.length rc)])]⟩ w (fun e w' => e = .returned (.bool (hearM (l.map DCall.m) (k : Int) ⟨why, amount, rs⟩).2) ∧ Keeps F w w' ∧ DeskP w' (fun i => (F i ∨ w.heap.size ≤ i) ∧ i < w'.heap.size) d 84 79 ((hearM (l.map DCall.m) (k : Int) ⟨why, amount, rs⟩).1)) := by
 have Hdl := Hd.lt
 have hTd : ∀ i, T i → i ≠ d := fun i hi => (hT7 i hi).1
 have hVd : ∀ i, ((Value.slice A l.length c)).ownBlock = some i → i ≠ d := fun i hi => (hV7 i hi).1
 have hVT : ∀ i, ((Value.slice A l.length c)).ownBlock = some i → T i → False := fun i hi h => (hV7 i hi).2.2 h
 have hcap := RdT.len DCall.two (by decide) (OwnT.rd hO)
 have hDP : DeskP w F d 84 79 (l.map DCall.m) := ⟨l, A, c, T, rfl, Hd, hO, hR, hT7, hV7, hFd, hFl, by rw [List.length_map]; exact h20⟩
 obtain ⟨gB, pre, suf, hA, _, hp, HX0, hput⟩ := OwnT.mid DCall.two (by decide) hx hO
 have hk := (List.getElem?_eq_some_iff.1 hx).1
 have hgd : gB ≠ d := hVd gB (by rw [hA]; rfl)
 have hgF : F gB := (hV7 gB (by rw [hA]; rfl)).2.1
 have hgT : ¬ T gB := (hV7 gB (by rw [hA]; rfl)).2.2
 have hTg : ∀ i, T i → i ≠ gB := fun i hi q => hgT (q ▸ hi)
 have HX : Has w gB (rowL (pre ++ [(i64 x.op.kind), (Value.string (str x.op.frm)), (Value.string (str x.op.to)), (i64 x.op.amount), (Value.string (str x.op.key)), (i64 x.op.slot), (i64 x.op.shard), (i64 x.why), (i64 x.amount), (Value.slice x.A x.rows.length x.c), (Value.bool true)] ++ suf) 79) := by
  have e : x.cells = [(i64 x.op.kind), (Value.string (str x.op.frm)), (Value.string (str x.op.to)), (i64 x.op.amount), (Value.string (str x.op.key)), (i64 x.op.slot), (i64 x.op.shard), (i64 x.why), (i64 x.amount), (Value.slice x.A x.rows.length x.c), (Value.bool true)] := by unfold DCall.cells; rw [hs]
  exact e ▸ HX0
 have HXl := HX.lt
 clear HX0
 have K0 : Keeps none_ w w := Keeps.refl w
 refine q_calls Try.func15 (by kernel_rfl) (by kernel_rfl) ?_
 refine qs ?_
 refine qg ?_
 refine Ops.new (o := rowL [(i64 why), (i64 amount), (Value.slice V rs.length rc)] 27) (V := fun b => (ptr b)) (by kernel_rfl) (d := (some 5)) (by kernel_rfl) (fun b => rfl) (fun b1 w2 hb3 H4 K5 hs6 => ?_)
 have lb1d : d < b1 := by have := Hd.lt; omega
 have lb1gB : gB < b1 := by have := HX.lt; omega
 have nb1 : w.heap.size ≤ b1 := by have := K0.size; omega
 have of7 : ∀ i, T i → i ≠ b1 := fun i hi => by have := RowsE.lt hR i hi; omega
 replace K0 := K0.t0 K5
 replace Hd := Hd.keep K5 (fun h => h)
 replace HX := HX.keep K5 (fun h => h)
 replace hR := RowsE.keep hR K5 (fun _ _ h => h)
 replace hV := RdR.keepE hV hVF K5 (fun i hi => by exact (show none_ i from hi).elim)
 clear K5 hs6
 refine og 1 [(0, (ptr d)), (1, (i64 ((k : Nat) : Int))), (5, (ptr b1)), (6, (Value.bool false))] 2 ?_
 refine od ?_
 refine qs ?_
 refine qg ?_
 refine og 2 [(5, (ptr b1)), (6, (Value.bool false)), (8, (ptr d)), (9, (i64 ((k : Nat) : Int)))] 2 ?_
 refine Ops.call (by kernel_rfl) (d := (some 10)) (by kernel_rfl) (at_in _ d l A c k gB Hd hk hA) ?_
 rintro _ w9 ⟨rfl, K8⟩
 refine ⟨_, _, rfl, rfl, ?_⟩
 replace K0 := K0.t0 K8
 replace Hd := Hd.keep K8 (fun h => h)
 replace HX := HX.keep K8 (fun h => h)
 replace H4 := H4.keep K8 (fun h => h)
 replace hR := RowsE.keep hR K8 (fun _ _ h => h)
 replace hV := RdR.keepE hV hVF K8 (fun i hi => by exact (show none_ i from hi).elim)
 clear K8
 refine og 1 [(5, (ptr b1)), (6, (Value.bool false)), (7, (Value.pointer (some ⟨gB, k * 11, none⟩)))] 4 ?_
 refine od ?_
 refine qs ?_
 refine qs ?_
 refine qg ?_
 refine og 6 [(5, (ptr b1)), (6, (Value.bool false)), (7, (Value.pointer (some ⟨gB, k * 11, none⟩))), (13, (Value.bool false)), (16, (Value.pointer (some ⟨gB, k * 11 + 10, none⟩)))] 6 ?_
 refine Ops.go (v := (Value.bool true)) (by kernel_rfl) (Runs.load (t := 4) (a := ⟨gB, k * 11 + 10, none⟩) (by kernel_rfl) (HX.loads (loadC1 (by kernel_rfl) (mid1 (k := 10) (by have := hp; omega) (by kernel_rfl))))) (d := (some 17)) (by kernel_rfl) rfl ?_
 refine og 1 [(5, (ptr b1)), (6, (Value.bool false)), (7, (Value.pointer (some ⟨gB, k * 11, none⟩))), (18, (Value.bool true))] 8 ?_
 refine od ?_
 refine q_then (o := .tmp 18) (by kernel_rfl) rfl ?_
 refine qs ?_
 refine qg ?_
 refine og 1 [(5, (ptr b1)), (6, (Value.bool false)), (7, (Value.pointer (some ⟨gB, k * 11, none⟩)))] 1 ?_
 refine od ?_
 refine q_ret (by kernel_rfl) ?_
 refine ⟨(Value.bool false), retv_tmp rfl rfl, ?_⟩
 have e : hearM (l.map DCall.m) (k : Int) ⟨why, amount, rs⟩ = (l.map DCall.m, false) := hearM_is hx hs
 rw [e]
 exact ⟨rfl, K0.mono (fun _ _ h => h.elim), hDP.wide K0 (fun i hi => ⟨.inl hi, Nat.lt_of_lt_of_le (hFl i hi) K0.size⟩) (fun i hi => hi.2)⟩

set_option maxHeartbeats 1000000 in
theorem HearP_in (w : World) (F : Nat → Prop) (d : Nat) (l : List DCall) (A : Option Addr) (c : Nat) (T : Nat → Prop) (k : Nat) (x : DCall) (why amount : Int) (V : Option Addr) (rc : Nat) (rs : List RowM) (Hd : Has w d (rowL [(Value.slice A l.length c)] 84)) (hO : OwnT w 0 79 11 DCall.cells ((Value.slice A l.length c)) l) (hR : RowsE w DCall.rv DCall.rows T l) (hT7 : ∀ i, T i → i ≠ d ∧ F i) (hV7 : ∀ i, ((Value.slice A l.length c)).ownBlock = some i → i ≠ d ∧ F i ∧ ¬ T i) (hFd : F d) (hFl : ∀ i, F i → i < w.heap.size) (h20 : l.length ≤ 2000) (hV : RdR w (.slice V rs.length rc) rs) (hVF : rs ≠ [] → ∀ i, (Value.slice V rs.length rc).ownBlock = some i → ¬ F i) (hz : rs.length * 24 ≤ 140737488351232) (hx : l[k]? = some x) (hs : x.is = false) : Calls Try.prog 15 ⟨[(ptr d), (i64 ((k : Nat) : Int)), (agg [(i64 why), (i64 amount), (Value.slice V rs.length rc)])]⟩ w (fun e w' => e = .returned (.bool (hearM (l.map DCall.m) (k : Int) ⟨why, amount, rs⟩).2) ∧ Keeps F w w' ∧ DeskP w' (fun i => (F i ∨ w.heap.size ≤ i) ∧ i < w'.heap.size) d 84 79 ((hearM (l.map DCall.m) (k : Int) ⟨why, amount, rs⟩).1)) := by
 have Hdl := Hd.lt
 have hTd : ∀ i, T i → i ≠ d := fun i hi => (hT7 i hi).1
 have hVd : ∀ i, ((Value.slice A l.length c)).ownBlock = some i → i ≠ d := fun i hi => (hV7 i hi).1
 have hVT : ∀ i, ((Value.slice A l.length c)).ownBlock = some i → T i → False := fun i hi h => (hV7 i hi).2.2 h
 have hcap := RdT.len DCall.two (by decide) (OwnT.rd hO)
 have hDP : DeskP w F d 84 79 (l.map DCall.m) := ⟨l, A, c, T, rfl, Hd, hO, hR, hT7, hV7, hFd, hFl, by rw [List.length_map]; exact h20⟩
 obtain ⟨gB, pre, suf, hA, _, hp, HX0, hput⟩ := OwnT.mid DCall.two (by decide) hx hO
 have hk := (List.getElem?_eq_some_iff.1 hx).1
 have hgd : gB ≠ d := hVd gB (by rw [hA]; rfl)
 have hgF : F gB := (hV7 gB (by rw [hA]; rfl)).2.1
 have hgT : ¬ T gB := (hV7 gB (by rw [hA]; rfl)).2.2
 have hTg : ∀ i, T i → i ≠ gB := fun i hi q => hgT (q ▸ hi)
 have HX : Has w gB (rowL (pre ++ [(i64 x.op.kind), (Value.string (str x.op.frm)), (Value.string (str x.op.to)), (i64 x.op.amount), (Value.string (str x.op.key)), (i64 x.op.slot), (i64 x.op.shard), (i64 x.why), (i64 x.amount), (Value.slice x.A x.rows.length x.c), (Value.bool false)] ++ suf) 79) := by
  have e : x.cells = [(i64 x.op.kind), (Value.string (str x.op.frm)), (Value.string (str x.op.to)), (i64 x.op.amount), (Value.string (str x.op.key)), (i64 x.op.slot), (i64 x.op.shard), (i64 x.why), (i64 x.amount), (Value.slice x.A x.rows.length x.c), (Value.bool false)] := by unfold DCall.cells; rw [hs]
  exact e ▸ HX0
 have HXl := HX.lt
 clear HX0
 have K0 : Keeps (fun i => i = gB) w w := (Keeps.refl w).mono (fun _ _ h => h.elim)
 refine q_calls Try.func15 (by kernel_rfl) (by kernel_rfl) ?_
 refine qs ?_
 refine qg ?_
 refine Ops.new (o := rowL [(i64 why), (i64 amount), (Value.slice V rs.length rc)] 27) (V := fun b => (ptr b)) (by kernel_rfl) (d := (some 5)) (by kernel_rfl) (fun b => rfl) (fun b1 w2 hb3 H4 K5 hs6 => ?_)
 have lb1d : d < b1 := by have := Hd.lt; omega
 have lb1gB : gB < b1 := by have := HX.lt; omega
 have nb1 : w.heap.size ≤ b1 := by have := K0.size; omega
 have of7 : ∀ i, T i → i ≠ b1 := fun i hi => by have := RowsE.lt hR i hi; omega
 replace K0 := K0.tn K5
 replace Hd := Hd.keep K5 (fun h => h)
 replace HX := HX.keep K5 (fun h => h)
 replace hR := RowsE.keep hR K5 (fun _ _ h => h)
 replace hV := RdR.keepE hV hVF K5 (fun i hi => by exact (show none_ i from hi).elim)
 clear K5 hs6
 refine og 1 [(0, (ptr d)), (1, (i64 ((k : Nat) : Int))), (5, (ptr b1)), (6, (Value.bool false))] 2 ?_
 refine od ?_
 refine qs ?_
 refine qg ?_
 refine og 2 [(5, (ptr b1)), (6, (Value.bool false)), (8, (ptr d)), (9, (i64 ((k : Nat) : Int)))] 2 ?_
 refine Ops.call (by kernel_rfl) (d := (some 10)) (by kernel_rfl) (at_in _ d l A c k gB Hd hk hA) ?_
 rintro _ w9 ⟨rfl, K8⟩
 refine ⟨_, _, rfl, rfl, ?_⟩
 replace K0 := K0.tn K8
 replace Hd := Hd.keep K8 (fun h => h)
 replace HX := HX.keep K8 (fun h => h)
 replace H4 := H4.keep K8 (fun h => h)
 replace hR := RowsE.keep hR K8 (fun _ _ h => h)
 replace hV := RdR.keepE hV hVF K8 (fun i hi => by exact (show none_ i from hi).elim)
 clear K8
 refine og 1 [(5, (ptr b1)), (6, (Value.bool false)), (7, (Value.pointer (some ⟨gB, k * 11, none⟩)))] 4 ?_
 refine od ?_
 refine qs ?_
 refine qs ?_
 refine qg ?_
 refine og 6 [(5, (ptr b1)), (6, (Value.bool false)), (7, (Value.pointer (some ⟨gB, k * 11, none⟩))), (13, (Value.bool false)), (16, (Value.pointer (some ⟨gB, k * 11 + 10, none⟩)))] 6 ?_
 refine Ops.go (v := (Value.bool false)) (by kernel_rfl) (Runs.load (t := 4) (a := ⟨gB, k * 11 + 10, none⟩) (by kernel_rfl) (HX.loads (loadC1 (by kernel_rfl) (mid1 (k := 10) (by have := hp; omega) (by kernel_rfl))))) (d := (some 17)) (by kernel_rfl) rfl ?_
 refine og 1 [(5, (ptr b1)), (6, (Value.bool false)), (7, (Value.pointer (some ⟨gB, k * 11, none⟩))), (18, (Value.bool false))] 8 ?_
 refine od ?_
 refine q_else (o := .tmp 18) (by kernel_rfl) rfl ?_
 refine q_skip (by kernel_rfl) ?_
 refine qs ?_
 refine qg ?_
 refine og 2 [(5, (ptr b1)), (6, (Value.bool false)), (19, (Value.pointer (some ⟨gB, k * 11, none⟩))), (20, (Value.pointer (some ⟨gB, k * 11, none⟩)))] 2 ?_
 refine Ops.go (v := (agg [(i64 why), (i64 amount), (Value.slice V rs.length rc)])) (by kernel_rfl) (Runs.load (t := 27) (a := ⟨b1, 0, none⟩) (by kernel_rfl) (H4.loads (by kernel_rfl))) (d := (some 21)) (by kernel_rfl) rfl ?_
 refine Ops.call (by kernel_rfl) (d := (some 22)) (by kernel_rfl) (own_calls _ why amount V rc rs hV hz) ?_
 rintro _ w12 ⟨A10, c11, rfl, K13, hO14⟩
 have ob16 : ∀ i, ((Value.slice A10 rs.length c11)).ownBlock = some i → i ≠ d := fun i hi => by have := (World.ownsRow.lt hO14 i hi).1; have := Hd.lt; omega
 have ob17 : ∀ i, ((Value.slice A10 rs.length c11)).ownBlock = some i → i ≠ gB := fun i hi => by have := (World.ownsRow.lt hO14 i hi).1; have := HX.lt; omega
 have ob18 : ∀ i, ((Value.slice A10 rs.length c11)).ownBlock = some i → i ≠ b1 := fun i hi => by have := (World.ownsRow.lt hO14 i hi).1; have := H4.lt; omega
 have oo19 : ∀ i, ((Value.slice A10 rs.length c11)).ownBlock = some i → T i → False := fun i hs hi => by have := (World.ownsRow.lt hO14 i hs).1; have := RowsE.lt hR i hi; omega
 have O15 := own_base hO14 K0.size
 refine ⟨_, _, rfl, rfl, ?_⟩
 replace K0 := K0.tn K13
 replace Hd := Hd.keep K13 (fun h => h)
 replace HX := HX.keep K13 (fun h => h)
 replace H4 := H4.keep K13 (fun h => h)
 replace hR := RowsE.keep hR K13 (fun _ _ h => h)
 replace hV := RdR.keepE hV hVF K13 (fun i hi => by exact (show none_ i from hi).elim)
 clear K13
 refine og 2 [(6, (Value.bool false)), (20, (Value.pointer (some ⟨gB, k * 11, none⟩))), (22, (agg [(i64 why), (i64 amount), (Value.slice A10 rs.length c11)])), (24, (Value.pointer (some ⟨gB, k * 11 + 7, none⟩)))] 6 ?_
 refine Ops.put (t := 27) (b := gB) (off := k * 11 + 7) (v := (agg [(i64 why), (i64 amount), (Value.slice A10 rs.length c11)])) (ys := (pre ++ [(i64 x.op.kind), (Value.string (str x.op.frm)), (Value.string (str x.op.to)), (i64 x.op.amount), (Value.string (str x.op.key)), (i64 x.op.slot), (i64 x.op.shard), (i64 why), (i64 amount), (Value.slice A10 rs.length c11), (Value.bool false)] ++ suf)) (by kernel_rfl) (by kernel_rfl) HX (storeCN (vs := [(i64 why), (i64 amount), (Value.slice A10 rs.length c11)]) (by kernel_rfl) (by kernel_rfl) (mid_len (k := 7) (by have := hp; omega) (Nat.le_of_ble_eq_true (by kernel_rfl))) (mid_setN (k := 7) (by have := hp; omega) (Nat.le_of_ble_eq_true (by kernel_rfl)))) (d := none) (by kernel_rfl) rfl (fun w20 H21 K22 => ?_)
 clear HX
 replace K0 := K0.t1 K22 (fun _ => rfl)
 replace Hd := Hd.k1 K22 (by omega)
 replace H4 := H4.k1 K22 (by omega)
 replace hR := RowsE.keep hR K22 (fun i hi hs => by have hs : i = gB := hs; have := hTg i hi; omega)
 replace hV := RdR.keepE hV hVF K22 (fun i hi => by rw [show i = gB from hi]; exact hgF)
 replace O15 := own_keep O15 K22 (fun i hi => by have := ob17 i hi; omega)
 clear K22
 refine og 2 [(6, (Value.bool false)), (26, (Value.pointer (some ⟨gB, k * 11 + 10, none⟩)))] 9 ?_
 refine Ops.put (t := 4) (b := gB) (off := k * 11 + 10) (v := (Value.bool true)) (ys := (pre ++ [(i64 x.op.kind), (Value.string (str x.op.frm)), (Value.string (str x.op.to)), (i64 x.op.amount), (Value.string (str x.op.key)), (i64 x.op.slot), (i64 x.op.shard), (i64 why), (i64 amount), (Value.slice A10 rs.length c11), (Value.bool true)] ++ suf)) (by kernel_rfl) (by kernel_rfl) H21 (storeC1 (by kernel_rfl) (by kernel_rfl) (Nat.lt_of_lt_of_le (Nat.lt_succ_self _) (mid_len (vs := [(Value.bool true)]) (k := 10) (by have := hp; omega) (Nat.le_of_ble_eq_true (by kernel_rfl)))) (mid_set1 (k := 10) (by have := hp; omega) (Nat.le_of_ble_eq_true (by kernel_rfl)))) (d := none) (by kernel_rfl) rfl (fun w23 H24 K25 => ?_)
 clear H21
 replace K0 := K0.t1 K25 (fun _ => rfl)
 replace Hd := Hd.k1 K25 (by omega)
 replace H4 := H4.k1 K25 (by omega)
 replace hR := RowsE.keep hR K25 (fun i hi hs => by have hs : i = gB := hs; have := hTg i hi; omega)
 replace hV := RdR.keepE hV hVF K25 (fun i hi => by rw [show i = gB from hi]; exact hgF)
 replace O15 := own_keep O15 K25 (fun i hi => by have := ob17 i hi; omega)
 clear K25
 refine od ?_
 refine qs ?_
 refine qg ?_
 refine og 1 [(6, (Value.bool true))] 1 ?_
 refine od ?_
 refine q_ret (by kernel_rfl) ?_
 refine ⟨(Value.bool true), retv_tmp rfl rfl, ?_⟩
 have e : hearM (l.map DCall.m) (k : Int) ⟨why, amount, rs⟩ = ((l.set k (⟨x.op, why, amount, A10, c11, rs, true⟩ : DCall)).map DCall.m, true) := hearM_in hx hs
 rw [e]
 have hF9 : ∀ i, (DCall.rv (⟨x.op, why, amount, A10, c11, rs, true⟩ : DCall)).ownBlock = some i → w.heap.size ≤ i ∧ i < w23.heap.size := fun i hi => World.ownsRow.lt O15 i hi
 exact ⟨rfl, K0.mono (fun _ _ h => h ▸ hgF), deskP_set hA hx Hd (hput (⟨x.op, why, amount, A10, c11, rs, true⟩ : DCall) w23 H24) (RowsE.keep hR (Keeps.refl _) (fun i _ h => h)) (OwnT.rd O15) hF9 K0.size hT7 hV7 hFd hFl h20⟩

theorem HearR_out (w : World) (F : Nat → Prop) (d : Nat) (l : List DCall) (A : Option Addr) (c : Nat) (T : Nat → Prop) (n : Int) (why amount : Int) (V : Option Addr) (rc : Nat) (rs : List RowM) (Hd : Has w d (rowL [(Value.slice A l.length c)] 55)) (hO : OwnT w 0 87 11 DCall.cells ((Value.slice A l.length c)) l) (hR : RowsE w DCall.rv DCall.rows T l) (hT7 : ∀ i, T i → i ≠ d ∧ F i) (hV7 : ∀ i, ((Value.slice A l.length c)).ownBlock = some i → i ≠ d ∧ F i ∧ ¬ T i) (hFd : F d) (hFl : ∀ i, F i → i < w.heap.size) (h20 : l.length ≤ 2000) (hV : RdR w (.slice V rs.length rc) rs) (hVF : rs ≠ [] → ∀ i, (Value.slice V rs.length rc).ownBlock = some i → ¬ F i) (hz : rs.length * 24 ≤ 140737488351232) (hn : n < 0 ∨ (l.length : Int) ≤ n) : Calls Try.prog 21 ⟨[(ptr d), (i64 n), (agg [(i64 why), (i64 amount), (Value.slice V rs.length rc)])]⟩ w (fun e w' => e = .returned (.bool (hearM (l.map DCall.m) n ⟨why, amount, rs⟩).2) ∧ Keeps F w w' ∧ DeskP w' (fun i => (F i ∨ w.heap.size ≤ i) ∧ i < w'.heap.size) d 55 87 ((hearM (l.map DCall.m) n ⟨why, amount, rs⟩).1)) := by
 have Hdl := Hd.lt
 have hTd : ∀ i, T i → i ≠ d := fun i hi => (hT7 i hi).1
 have hVd : ∀ i, ((Value.slice A l.length c)).ownBlock = some i → i ≠ d := fun i hi => (hV7 i hi).1
 have hVT : ∀ i, ((Value.slice A l.length c)).ownBlock = some i → T i → False := fun i hi h => (hV7 i hi).2.2 h
 have hcap := RdT.len DCall.two (by decide) (OwnT.rd hO)
 have hDP : DeskP w F d 55 87 (l.map DCall.m) := ⟨l, A, c, T, rfl, Hd, hO, hR, hT7, hV7, hFd, hFl, by rw [List.length_map]; exact h20⟩
 have K0 : Keeps none_ w w := (Keeps.refl w).mono (fun _ _ h => h.elim)
 refine q_calls Try.func21 (by kernel_rfl) (by kernel_rfl) ?_
 refine qs ?_
 refine qg ?_
 refine Ops.new (o := rowL [(i64 why), (i64 amount), (Value.slice V rs.length rc)] 27) (V := fun b => (ptr b)) (by kernel_rfl) (d := (some 5)) (by kernel_rfl) (fun b => rfl) (fun b1 w2 hb3 H4 K5 hs6 => ?_)
 have lb1d : d < b1 := by have := Hd.lt; omega
 have nb1 : w.heap.size ≤ b1 := by have := K0.size; omega
 have ob7 : ∀ i, ((Value.slice A l.length c)).ownBlock = some i → i < b1 := fun i hi => by have := (World.ownsRow.lt hO i hi).2; omega
 have of8 : ∀ i, T i → i ≠ b1 := fun i hi => by have := RowsE.lt hR i hi; omega
 replace K0 := K0.t0 K5
 replace Hd := Hd.keep K5 (fun h => h)
 replace hO := own_keep0 hO K5
 replace hR := RowsE.keep hR K5 (fun _ _ h => h)
 replace hV := RdR.keepE hV hVF K5 (fun i hi => by exact (show none_ i from hi).elim)
 clear K5 hs6
 refine og 1 [(0, (ptr d)), (1, (i64 n)), (5, (ptr b1)), (6, (Value.bool false))] 2 ?_
 refine od ?_
 refine qs ?_
 refine qs ?_
 refine qg ?_
 refine og 3 [(0, (ptr d)), (1, (i64 n)), (5, (ptr b1)), (6, (Value.bool false)), (10, (Value.bool (decide (n < 0))))] 3 ?_
 refine Ops.split (decide (n < 0)) (fun h9 => ?_) (fun h9 => ?_)
 ·rw [h9]
  have p10 : n < 0 := of_decide_eq_true h9
  refine og 18 [(0, (ptr d)), (1, (i64 n)), (5, (ptr b1)), (6, (Value.bool false)), (28, (Value.bool true))] 21 ?_
  refine od ?_
  refine q_then (o := .tmp 28) (by kernel_rfl) rfl ?_
  refine qs ?_
  refine qg ?_
  refine og 1 [(0, (ptr d)), (1, (i64 n)), (5, (ptr b1)), (6, (Value.bool false))] 1 ?_
  refine od ?_
  refine q_ret (by kernel_rfl) ?_
  refine ⟨(Value.bool false), retv_tmp rfl rfl, ?_⟩
  have e : hearM (l.map DCall.m) n ⟨why, amount, rs⟩ = (l.map DCall.m, false) := hearM_out _ _ _ (by rw [List.length_map]; exact hn)
  rw [e]
  exact ⟨rfl, K0.mono (fun _ _ h => h.elim), hDP.wide K0 (fun i hi => ⟨.inl hi, Nat.lt_of_lt_of_le (hFl i hi) K0.size⟩) (fun i hi => hi.2)⟩
 ·rw [h9]
  have p11 : ¬ (n < 0) := of_decide_eq_false h9
  refine og 4 [(0, (ptr d)), (1, (i64 n)), (5, (ptr b1)), (6, (Value.bool false)), (10, (Value.bool false)), (11, (i64 n)), (14, (ptr d))] 7 ?_
  refine Ops.go (v := (Value.slice A l.length c)) (by kernel_rfl) (Runs.load (t := 53) (a := ⟨d, 0, none⟩) (by kernel_rfl) (Hd.loads (by kernel_rfl))) (d := (some 15)) (by kernel_rfl) rfl ?_
  refine og 4 [(0, (ptr d)), (1, (i64 n)), (5, (ptr b1)), (6, (Value.bool false)), (19, (Value.bool (decide (n ≥ ((l.length : Nat) : Int)))))] 12 ?_
  have h12 : (decide (n ≥ ((l.length : Nat) : Int))) = true := decide_eq_true (by omega)
  rw [h12]
  refine og 9 [(0, (ptr d)), (1, (i64 n)), (5, (ptr b1)), (6, (Value.bool false)), (28, (Value.bool true))] 21 ?_
  refine od ?_
  refine q_then (o := .tmp 28) (by kernel_rfl) rfl ?_
  refine qs ?_
  refine qg ?_
  refine og 1 [(0, (ptr d)), (1, (i64 n)), (5, (ptr b1)), (6, (Value.bool false))] 1 ?_
  refine od ?_
  refine q_ret (by kernel_rfl) ?_
  refine ⟨(Value.bool false), retv_tmp rfl rfl, ?_⟩
  have e : hearM (l.map DCall.m) n ⟨why, amount, rs⟩ = (l.map DCall.m, false) := hearM_out _ _ _ (by rw [List.length_map]; exact hn)
  rw [e]
  exact ⟨rfl, K0.mono (fun _ _ h => h.elim), hDP.wide K0 (fun i hi => ⟨.inl hi, Nat.lt_of_lt_of_le (hFl i hi) K0.size⟩) (fun i hi => hi.2)⟩

set_option maxHeartbeats 1000000 in
theorem HearR_is (w : World) (F : Nat → Prop) (d : Nat) (l : List DCall) (A : Option Addr) (c : Nat) (T : Nat → Prop) (k : Nat) (x : DCall) (why amount : Int) (V : Option Addr) (rc : Nat) (rs : List RowM) (Hd : Has w d (rowL [(Value.slice A l.length c)] 55)) (hO : OwnT w 0 87 11 DCall.cells ((Value.slice A l.length c)) l) (hR : RowsE w DCall.rv DCall.rows T l) (hT7 : ∀ i, T i → i ≠ d ∧ F i) (hV7 : ∀ i, ((Value.slice A l.length c)).ownBlock = some i → i ≠ d ∧ F i ∧ ¬ T i) (hFd : F d) (hFl : ∀ i, F i → i < w.heap.size) (h20 : l.length ≤ 2000) (hV : RdR w (.slice V rs.length rc) rs) (hVF : rs ≠ [] → ∀ i, (Value.slice V rs.length rc).ownBlock = some i → ¬ F i) (hz : rs.length * 24 ≤ 140737488351232) (hx : l[k]? = some x) (hs : x.is = true) : Calls Try.prog 21 ⟨[(ptr d), (i64 ((k : Nat) : Int)), (agg [(i64 why), (i64 amount), (Value.slice V rs.length rc)])]⟩ w (fun e w' => e = .returned (.bool (hearM (l.map DCall.m) (k : Int) ⟨why, amount, rs⟩).2) ∧ Keeps F w w' ∧ DeskP w' (fun i => (F i ∨ w.heap.size ≤ i) ∧ i < w'.heap.size) d 55 87 ((hearM (l.map DCall.m) (k : Int) ⟨why, amount, rs⟩).1)) := by
 have Hdl := Hd.lt
 have hTd : ∀ i, T i → i ≠ d := fun i hi => (hT7 i hi).1
 have hVd : ∀ i, ((Value.slice A l.length c)).ownBlock = some i → i ≠ d := fun i hi => (hV7 i hi).1
 have hVT : ∀ i, ((Value.slice A l.length c)).ownBlock = some i → T i → False := fun i hi h => (hV7 i hi).2.2 h
 have hcap := RdT.len DCall.two (by decide) (OwnT.rd hO)
 have hDP : DeskP w F d 55 87 (l.map DCall.m) := ⟨l, A, c, T, rfl, Hd, hO, hR, hT7, hV7, hFd, hFl, by rw [List.length_map]; exact h20⟩
 obtain ⟨gB, pre, suf, hA, _, hp, HX0, hput⟩ := OwnT.mid DCall.two (by decide) hx hO
 have hk := (List.getElem?_eq_some_iff.1 hx).1
 have hgd : gB ≠ d := hVd gB (by rw [hA]; rfl)
 have hgF : F gB := (hV7 gB (by rw [hA]; rfl)).2.1
 have hgT : ¬ T gB := (hV7 gB (by rw [hA]; rfl)).2.2
 have hTg : ∀ i, T i → i ≠ gB := fun i hi q => hgT (q ▸ hi)
 have HX : Has w gB (rowL (pre ++ [(i64 x.op.kind), (Value.string (str x.op.frm)), (Value.string (str x.op.to)), (i64 x.op.amount), (Value.string (str x.op.key)), (i64 x.op.slot), (i64 x.op.shard), (i64 x.why), (i64 x.amount), (Value.slice x.A x.rows.length x.c), (Value.bool true)] ++ suf) 87) := by
  have e : x.cells = [(i64 x.op.kind), (Value.string (str x.op.frm)), (Value.string (str x.op.to)), (i64 x.op.amount), (Value.string (str x.op.key)), (i64 x.op.slot), (i64 x.op.shard), (i64 x.why), (i64 x.amount), (Value.slice x.A x.rows.length x.c), (Value.bool true)] := by unfold DCall.cells; rw [hs]
  exact e ▸ HX0
 have HXl := HX.lt
 clear HX0
 have K0 : Keeps none_ w w := Keeps.refl w
 refine q_calls Try.func21 (by kernel_rfl) (by kernel_rfl) ?_
 refine qs ?_
 refine qg ?_
 refine Ops.new (o := rowL [(i64 why), (i64 amount), (Value.slice V rs.length rc)] 27) (V := fun b => (ptr b)) (by kernel_rfl) (d := (some 5)) (by kernel_rfl) (fun b => rfl) (fun b1 w2 hb3 H4 K5 hs6 => ?_)
 have lb1d : d < b1 := by have := Hd.lt; omega
 have lb1gB : gB < b1 := by have := HX.lt; omega
 have nb1 : w.heap.size ≤ b1 := by have := K0.size; omega
 have of7 : ∀ i, T i → i ≠ b1 := fun i hi => by have := RowsE.lt hR i hi; omega
 replace K0 := K0.t0 K5
 replace Hd := Hd.keep K5 (fun h => h)
 replace HX := HX.keep K5 (fun h => h)
 replace hR := RowsE.keep hR K5 (fun _ _ h => h)
 replace hV := RdR.keepE hV hVF K5 (fun i hi => by exact (show none_ i from hi).elim)
 clear K5 hs6
 refine og 1 [(0, (ptr d)), (1, (i64 ((k : Nat) : Int))), (5, (ptr b1)), (6, (Value.bool false))] 2 ?_
 refine od ?_
 refine qs ?_
 refine qs ?_
 refine qg ?_
 refine og 3 [(0, (ptr d)), (1, (i64 ((k : Nat) : Int))), (5, (ptr b1)), (6, (Value.bool false)), (10, (Value.bool (decide (((k : Nat) : Int) < 0))))] 3 ?_
 have h8 : (decide (((k : Nat) : Int) < 0)) = false := decide_eq_false (by omega)
 rw [h8]
 refine og 4 [(0, (ptr d)), (1, (i64 ((k : Nat) : Int))), (5, (ptr b1)), (6, (Value.bool false)), (10, (Value.bool false)), (11, (i64 ((k : Nat) : Int))), (14, (ptr d))] 7 ?_
 refine Ops.go (v := (Value.slice A l.length c)) (by kernel_rfl) (Runs.load (t := 53) (a := ⟨d, 0, none⟩) (by kernel_rfl) (Hd.loads (by kernel_rfl))) (d := (some 15)) (by kernel_rfl) rfl ?_
 refine og 4 [(0, (ptr d)), (1, (i64 ((k : Nat) : Int))), (5, (ptr b1)), (6, (Value.bool false)), (19, (Value.bool (decide (((k : Nat) : Int) ≥ ((l.length : Nat) : Int)))))] 12 ?_
 have h9 : (decide (((k : Nat) : Int) ≥ ((l.length : Nat) : Int))) = false := decide_eq_false (by omega)
 rw [h9]
 refine og 3 [(0, (ptr d)), (1, (i64 ((k : Nat) : Int))), (5, (ptr b1)), (6, (Value.bool false)), (19, (Value.bool false)), (22, (ptr d))] 15 ?_
 refine Ops.go (v := (Value.slice A l.length c)) (by kernel_rfl) (Runs.load (t := 53) (a := ⟨d, 0, none⟩) (by kernel_rfl) (Hd.loads (by kernel_rfl))) (d := (some 23)) (by kernel_rfl) rfl ?_
 refine og 1 [(0, (ptr d)), (1, (i64 ((k : Nat) : Int))), (5, (ptr b1)), (6, (Value.bool false)), (19, (Value.bool false)), (23, (Value.slice A l.length c)), (24, (i64 ((k : Nat) : Int)))] 17 ?_
 refine Ops.go (by kernel_rfl) (Runs.ixSliceE (k := IntKind.i64) (t := 53) (len := l.length) (cap := c) (s := 11) (off' := k * 11) (i := ((k : Nat) : Int)) hA (by kernel_rfl) (by kernel_rfl) (by omega) (by omega) (by omega)) (d := (some 25)) (by kernel_rfl) rfl ?_
 refine og 1 [(0, (ptr d)), (1, (i64 ((k : Nat) : Int))), (5, (ptr b1)), (6, (Value.bool false)), (19, (Value.bool false)), (26, (Value.pointer (some ⟨gB, k * 11 + 10, none⟩)))] 19 ?_
 refine Ops.go (v := (Value.bool true)) (by kernel_rfl) (Runs.load (t := 4) (a := ⟨gB, k * 11 + 10, none⟩) (by kernel_rfl) (HX.loads (loadC1 (by kernel_rfl) (mid1 (k := 10) (by have := hp; omega) (by kernel_rfl))))) (d := (some 27)) (by kernel_rfl) rfl ?_
 refine og 1 [(0, (ptr d)), (1, (i64 ((k : Nat) : Int))), (5, (ptr b1)), (6, (Value.bool false)), (28, (Value.bool true))] 21 ?_
 refine od ?_
 refine q_then (o := .tmp 28) (by kernel_rfl) rfl ?_
 refine qs ?_
 refine qg ?_
 refine og 1 [(0, (ptr d)), (1, (i64 ((k : Nat) : Int))), (5, (ptr b1)), (6, (Value.bool false))] 1 ?_
 refine od ?_
 refine q_ret (by kernel_rfl) ?_
 refine ⟨(Value.bool false), retv_tmp rfl rfl, ?_⟩
 have e : hearM (l.map DCall.m) (k : Int) ⟨why, amount, rs⟩ = (l.map DCall.m, false) := hearM_is hx hs
 rw [e]
 exact ⟨rfl, K0.mono (fun _ _ h => h.elim), hDP.wide K0 (fun i hi => ⟨.inl hi, Nat.lt_of_lt_of_le (hFl i hi) K0.size⟩) (fun i hi => hi.2)⟩

set_option maxHeartbeats 1000000 in
theorem HearR_in (w : World) (F : Nat → Prop) (d : Nat) (l : List DCall) (A : Option Addr) (c : Nat) (T : Nat → Prop) (k : Nat) (x : DCall) (why amount : Int) (V : Option Addr) (rc : Nat) (rs : List RowM) (Hd : Has w d (rowL [(Value.slice A l.length c)] 55)) (hO : OwnT w 0 87 11 DCall.cells ((Value.slice A l.length c)) l) (hR : RowsE w DCall.rv DCall.rows T l) (hT7 : ∀ i, T i → i ≠ d ∧ F i) (hV7 : ∀ i, ((Value.slice A l.length c)).ownBlock = some i → i ≠ d ∧ F i ∧ ¬ T i) (hFd : F d) (hFl : ∀ i, F i → i < w.heap.size) (h20 : l.length ≤ 2000) (hV : RdR w (.slice V rs.length rc) rs) (hVF : rs ≠ [] → ∀ i, (Value.slice V rs.length rc).ownBlock = some i → ¬ F i) (hz : rs.length * 24 ≤ 140737488351232) (hx : l[k]? = some x) (hs : x.is = false) : Calls Try.prog 21 ⟨[(ptr d), (i64 ((k : Nat) : Int)), (agg [(i64 why), (i64 amount), (Value.slice V rs.length rc)])]⟩ w (fun e w' => e = .returned (.bool (hearM (l.map DCall.m) (k : Int) ⟨why, amount, rs⟩).2) ∧ Keeps F w w' ∧ DeskP w' (fun i => (F i ∨ w.heap.size ≤ i) ∧ i < w'.heap.size) d 55 87 ((hearM (l.map DCall.m) (k : Int) ⟨why, amount, rs⟩).1)) := by
 have Hdl := Hd.lt
 have hTd : ∀ i, T i → i ≠ d := fun i hi => (hT7 i hi).1
 have hVd : ∀ i, ((Value.slice A l.length c)).ownBlock = some i → i ≠ d := fun i hi => (hV7 i hi).1
 have hVT : ∀ i, ((Value.slice A l.length c)).ownBlock = some i → T i → False := fun i hi h => (hV7 i hi).2.2 h
 have hcap := RdT.len DCall.two (by decide) (OwnT.rd hO)
 have hDP : DeskP w F d 55 87 (l.map DCall.m) := ⟨l, A, c, T, rfl, Hd, hO, hR, hT7, hV7, hFd, hFl, by rw [List.length_map]; exact h20⟩
 obtain ⟨gB, pre, suf, hA, _, hp, HX0, hput⟩ := OwnT.mid DCall.two (by decide) hx hO
 have hk := (List.getElem?_eq_some_iff.1 hx).1
 have hgd : gB ≠ d := hVd gB (by rw [hA]; rfl)
 have hgF : F gB := (hV7 gB (by rw [hA]; rfl)).2.1
 have hgT : ¬ T gB := (hV7 gB (by rw [hA]; rfl)).2.2
 have hTg : ∀ i, T i → i ≠ gB := fun i hi q => hgT (q ▸ hi)
 have HX : Has w gB (rowL (pre ++ [(i64 x.op.kind), (Value.string (str x.op.frm)), (Value.string (str x.op.to)), (i64 x.op.amount), (Value.string (str x.op.key)), (i64 x.op.slot), (i64 x.op.shard), (i64 x.why), (i64 x.amount), (Value.slice x.A x.rows.length x.c), (Value.bool false)] ++ suf) 87) := by
  have e : x.cells = [(i64 x.op.kind), (Value.string (str x.op.frm)), (Value.string (str x.op.to)), (i64 x.op.amount), (Value.string (str x.op.key)), (i64 x.op.slot), (i64 x.op.shard), (i64 x.why), (i64 x.amount), (Value.slice x.A x.rows.length x.c), (Value.bool false)] := by unfold DCall.cells; rw [hs]
  exact e ▸ HX0
 have HXl := HX.lt
 clear HX0
 have K0 : Keeps (fun i => i = gB) w w := (Keeps.refl w).mono (fun _ _ h => h.elim)
 refine q_calls Try.func21 (by kernel_rfl) (by kernel_rfl) ?_
 refine qs ?_
 refine qg ?_
 refine Ops.new (o := rowL [(i64 why), (i64 amount), (Value.slice V rs.length rc)] 27) (V := fun b => (ptr b)) (by kernel_rfl) (d := (some 5)) (by kernel_rfl) (fun b => rfl) (fun b1 w2 hb3 H4 K5 hs6 => ?_)
 have lb1d : d < b1 := by have := Hd.lt; omega
 have lb1gB : gB < b1 := by have := HX.lt; omega
 have nb1 : w.heap.size ≤ b1 := by have := K0.size; omega
 have of7 : ∀ i, T i → i ≠ b1 := fun i hi => by have := RowsE.lt hR i hi; omega
 replace K0 := K0.tn K5
 replace Hd := Hd.keep K5 (fun h => h)
 replace HX := HX.keep K5 (fun h => h)
 replace hR := RowsE.keep hR K5 (fun _ _ h => h)
 replace hV := RdR.keepE hV hVF K5 (fun i hi => by exact (show none_ i from hi).elim)
 clear K5 hs6
 refine og 1 [(0, (ptr d)), (1, (i64 ((k : Nat) : Int))), (5, (ptr b1)), (6, (Value.bool false))] 2 ?_
 refine od ?_
 refine qs ?_
 refine qs ?_
 refine qg ?_
 refine og 3 [(0, (ptr d)), (1, (i64 ((k : Nat) : Int))), (5, (ptr b1)), (6, (Value.bool false)), (10, (Value.bool (decide (((k : Nat) : Int) < 0))))] 3 ?_
 have h8 : (decide (((k : Nat) : Int) < 0)) = false := decide_eq_false (by omega)
 rw [h8]
 refine og 4 [(0, (ptr d)), (1, (i64 ((k : Nat) : Int))), (5, (ptr b1)), (6, (Value.bool false)), (10, (Value.bool false)), (11, (i64 ((k : Nat) : Int))), (14, (ptr d))] 7 ?_
 refine Ops.go (v := (Value.slice A l.length c)) (by kernel_rfl) (Runs.load (t := 53) (a := ⟨d, 0, none⟩) (by kernel_rfl) (Hd.loads (by kernel_rfl))) (d := (some 15)) (by kernel_rfl) rfl ?_
 refine og 4 [(0, (ptr d)), (1, (i64 ((k : Nat) : Int))), (5, (ptr b1)), (6, (Value.bool false)), (19, (Value.bool (decide (((k : Nat) : Int) ≥ ((l.length : Nat) : Int)))))] 12 ?_
 have h9 : (decide (((k : Nat) : Int) ≥ ((l.length : Nat) : Int))) = false := decide_eq_false (by omega)
 rw [h9]
 refine og 3 [(0, (ptr d)), (1, (i64 ((k : Nat) : Int))), (5, (ptr b1)), (6, (Value.bool false)), (19, (Value.bool false)), (22, (ptr d))] 15 ?_
 refine Ops.go (v := (Value.slice A l.length c)) (by kernel_rfl) (Runs.load (t := 53) (a := ⟨d, 0, none⟩) (by kernel_rfl) (Hd.loads (by kernel_rfl))) (d := (some 23)) (by kernel_rfl) rfl ?_
 refine og 1 [(0, (ptr d)), (1, (i64 ((k : Nat) : Int))), (5, (ptr b1)), (6, (Value.bool false)), (19, (Value.bool false)), (23, (Value.slice A l.length c)), (24, (i64 ((k : Nat) : Int)))] 17 ?_
 refine Ops.go (by kernel_rfl) (Runs.ixSliceE (k := IntKind.i64) (t := 53) (len := l.length) (cap := c) (s := 11) (off' := k * 11) (i := ((k : Nat) : Int)) hA (by kernel_rfl) (by kernel_rfl) (by omega) (by omega) (by omega)) (d := (some 25)) (by kernel_rfl) rfl ?_
 refine og 1 [(0, (ptr d)), (1, (i64 ((k : Nat) : Int))), (5, (ptr b1)), (6, (Value.bool false)), (19, (Value.bool false)), (26, (Value.pointer (some ⟨gB, k * 11 + 10, none⟩)))] 19 ?_
 refine Ops.go (v := (Value.bool false)) (by kernel_rfl) (Runs.load (t := 4) (a := ⟨gB, k * 11 + 10, none⟩) (by kernel_rfl) (HX.loads (loadC1 (by kernel_rfl) (mid1 (k := 10) (by have := hp; omega) (by kernel_rfl))))) (d := (some 27)) (by kernel_rfl) rfl ?_
 refine og 1 [(0, (ptr d)), (1, (i64 ((k : Nat) : Int))), (5, (ptr b1)), (6, (Value.bool false)), (28, (Value.bool false))] 21 ?_
 refine od ?_
 refine q_else (o := .tmp 28) (by kernel_rfl) rfl ?_
 refine q_skip (by kernel_rfl) ?_
 refine qs ?_
 refine qg ?_
 refine og 3 [(0, (ptr d)), (1, (i64 ((k : Nat) : Int))), (5, (ptr b1)), (6, (Value.bool false)), (31, (ptr d))] 3 ?_
 refine Ops.go (v := (Value.slice A l.length c)) (by kernel_rfl) (Runs.load (t := 53) (a := ⟨d, 0, none⟩) (by kernel_rfl) (Hd.loads (by kernel_rfl))) (d := (some 32)) (by kernel_rfl) rfl ?_
 refine og 1 [(0, (ptr d)), (1, (i64 ((k : Nat) : Int))), (5, (ptr b1)), (6, (Value.bool false)), (32, (Value.slice A l.length c)), (33, (i64 ((k : Nat) : Int)))] 5 ?_
 refine Ops.go (by kernel_rfl) (Runs.ixSliceE (k := IntKind.i64) (t := 53) (len := l.length) (cap := c) (s := 11) (off' := k * 11) (i := ((k : Nat) : Int)) hA (by kernel_rfl) (by kernel_rfl) (by omega) (by omega) (by omega)) (d := (some 34)) (by kernel_rfl) rfl ?_
 refine og 1 [(0, (ptr d)), (1, (i64 ((k : Nat) : Int))), (5, (ptr b1)), (6, (Value.bool false)), (35, (Value.pointer (some ⟨gB, k * 11 + 10, none⟩)))] 7 ?_
 refine Ops.put (t := 4) (b := gB) (off := k * 11 + 10) (v := (Value.bool true)) (ys := (pre ++ [(i64 x.op.kind), (Value.string (str x.op.frm)), (Value.string (str x.op.to)), (i64 x.op.amount), (Value.string (str x.op.key)), (i64 x.op.slot), (i64 x.op.shard), (i64 x.why), (i64 x.amount), (Value.slice x.A x.rows.length x.c), (Value.bool true)] ++ suf)) (by kernel_rfl) (by kernel_rfl) HX (storeC1 (by kernel_rfl) (by kernel_rfl) (Nat.lt_of_lt_of_le (Nat.lt_succ_self _) (mid_len (vs := [(Value.bool true)]) (k := 10) (by have := hp; omega) (Nat.le_of_ble_eq_true (by kernel_rfl)))) (mid_set1 (k := 10) (by have := hp; omega) (Nat.le_of_ble_eq_true (by kernel_rfl)))) (d := none) (by kernel_rfl) rfl (fun w10 H11 K12 => ?_)
 clear HX
 replace K0 := K0.t1 K12 (fun _ => rfl)
 replace Hd := Hd.k1 K12 (by omega)
 replace H4 := H4.k1 K12 (by omega)
 replace hR := RowsE.keep hR K12 (fun i hi hs => by have hs : i = gB := hs; have := hTg i hi; omega)
 replace hV := RdR.keepE hV hVF K12 (fun i hi => by rw [show i = gB from hi]; exact hgF)
 clear K12
 refine od ?_
 refine qs ?_
 refine qg ?_
 refine og 1 [(0, (ptr d)), (1, (i64 ((k : Nat) : Int))), (5, (ptr b1)), (6, (Value.bool false)), (7, (Value.slice none 0 0))] 1 ?_
 refine od ?_
 refine qs ?_
 refine q_draw (fun wz => Keeps (fun i => i = gB) w10 wz) 9 (by kernel_rfl) (by kernel_rfl) (by kernel_rfl) (fun w13 K14 _ _ => ⟨(K14.mono (fun _ _ h => h.elim)), ?_⟩)
 replace K0 := K0.tn K14
 replace Hd := Hd.keep K14 (fun h => h)
 replace H11 := H11.keep K14 (fun h => h)
 replace H4 := H4.keep K14 (fun h => h)
 replace hR := RowsE.keep hR K14 (fun _ _ h => h)
 replace hV := RdR.keepE hV hVF K14 (fun i hi => by exact (show none_ i from hi).elim)
 refine Dr.strong (S' := (fun wz => Keeps (fun i => i = gB) w13 wz)) ((Keeps.refl w13).mono (fun _ _ h => h.elim)) (fun wz hx => K14.trans hx (fun i _ h => h.elim) (fun _ _ h => h)) ?_
 clear K14
 refine Dr.takes (fuel' := 6) (is' := _) [0, 1, 2] [(0, (ptr d)), (1, (i64 ((k : Nat) : Int))), (5, (ptr b1)), (6, (Value.bool false)), (7, (Value.slice none 0 0)), (38, (ptr d))] (by kernel_rfl) rfl (by kernel_rfl) ?_
 refine Dr.take (i := 3) (v := (Value.slice A l.length c)) (by kernel_rfl) (by kernel_rfl) (fun wz hS => Runs.load (t := 53) (a := ⟨d, 0, none⟩) (by kernel_rfl) ((Hd.keep hS (by intro h; change d = gB at h; omega)).loads (by kernel_rfl))) (d := (some 39)) (by kernel_rfl) rfl ?_
 refine Dr.takes (fuel' := 4) (is' := _) [4] [(0, (ptr d)), (1, (i64 ((k : Nat) : Int))), (5, (ptr b1)), (6, (Value.bool false)), (7, (Value.slice none 0 0)), (39, (Value.slice A l.length c)), (40, (i64 ((k : Nat) : Int)))] (by kernel_rfl) rfl (by kernel_rfl) ?_
 refine Dr.take (i := 5) (v := (agg [(i64 why), (i64 amount), (Value.slice V rs.length rc)])) (by kernel_rfl) (by kernel_rfl) (fun wz hS => Runs.load (t := 27) (a := ⟨b1, 0, none⟩) (by kernel_rfl) ((H4.keep hS (by intro h; change b1 = gB at h; omega)).loads (by kernel_rfl))) (d := (some 41)) (by kernel_rfl) rfl ?_
 refine Dr.take (i := 6) (v := (Value.pointer (some ⟨gB, k * 11, none⟩))) (by kernel_rfl) (by kernel_rfl) (fun wz hS => Runs.ixSliceE (k := IntKind.i64) (t := 53) (len := l.length) (cap := c) (s := 11) (off' := k * 11) (i := ((k : Nat) : Int)) hA (by kernel_rfl) (by kernel_rfl) (by omega) (by omega) (by omega)) (d := (some 42)) (by kernel_rfl) rfl ?_
 refine Dr.takes (fuel' := 1) (is' := _) [7] [(0, (ptr d)), (1, (i64 ((k : Nat) : Int))), (5, (ptr b1)), (6, (Value.bool false)), (7, (Value.slice none 0 0)), (41, (agg [(i64 why), (i64 amount), (Value.slice V rs.length rc)])), (43, (Value.pointer (some ⟨gB, k * 11 + 7, none⟩)))] (by kernel_rfl) rfl (by kernel_rfl) ?_
 refine Dr.put (i := 8) (t := 27) (b := gB) (off := k * 11 + 7) (v := (agg [(i64 why), (i64 amount), (Value.slice V rs.length rc)])) (ys := (pre ++ [(i64 x.op.kind), (Value.string (str x.op.frm)), (Value.string (str x.op.to)), (i64 x.op.amount), (Value.string (str x.op.key)), (i64 x.op.slot), (i64 x.op.shard), (i64 why), (i64 amount), (Value.slice V rs.length rc), (Value.bool true)] ++ suf)) (by kernel_rfl) (by kernel_rfl) (by kernel_rfl) H11 (storeCN (vs := [(i64 why), (i64 amount), (Value.slice V rs.length rc)]) (by kernel_rfl) (by kernel_rfl) (mid_len (k := 7) (by have := hp; omega) (Nat.le_of_ble_eq_true (by kernel_rfl))) (mid_setN (k := 7) (by have := hp; omega) (Nat.le_of_ble_eq_true (by kernel_rfl)))) (d := none) (by kernel_rfl) rfl (fun w15 H16 K17 => ?_)
 clear H11
 replace K0 := K0.t1 K17 (fun _ => rfl)
 replace Hd := Hd.k1 K17 (by omega)
 replace H4 := H4.k1 K17 (by omega)
 replace hR := RowsE.keep hR K17 (fun i hi hs => by have hs : i = gB := hs; have := hTg i hi; omega)
 replace hV := RdR.keepE hV hVF K17 (fun i hi => by rw [show i = gB from hi]; exact hgF)
 refine ⟨K17, ?_⟩
 refine Dr.strong (S' := (fun wz => Keeps (fun i => i = gB) w15 wz)) ((Keeps.refl w15).mono (fun _ _ h => h.elim)) (fun wz hx => K17.trans hx (fun i _ h => by have h : i = gB := h; show i = gB; omega) (fun _ _ h => h)) ?_
 clear K17
 refine Dr.done (by kernel_rfl) ?_
 refine qs ?_
 refine q_draw (fun wz => Keeps (fun i => i = gB) w15 wz) 13 (by kernel_rfl) (by kernel_rfl) (by kernel_rfl) (fun w18 K19 _ _ => ⟨(K19.mono (fun _ _ h => h.elim)), ?_⟩)
 replace K0 := K0.tn K19
 replace Hd := Hd.keep K19 (fun h => h)
 replace H16 := H16.keep K19 (fun h => h)
 replace H4 := H4.keep K19 (fun h => h)
 replace hR := RowsE.keep hR K19 (fun _ _ h => h)
 replace hV := RdR.keepE hV hVF K19 (fun i hi => by exact (show none_ i from hi).elim)
 refine Dr.strong (S' := (fun wz => Keeps (fun i => i = gB) w18 wz)) ((Keeps.refl w18).mono (fun _ _ h => h.elim)) (fun wz hx => K19.trans hx (fun i _ h => h.elim) (fun _ _ h => h)) ?_
 clear K19
 refine Dr.takes (fuel' := 10) (is' := _) [0, 1, 2] [(1, (i64 ((k : Nat) : Int))), (5, (ptr b1)), (6, (Value.bool false)), (7, (Value.slice none 0 0)), (46, (ptr d))] (by kernel_rfl) rfl (by kernel_rfl) ?_
 refine Dr.take (i := 3) (v := (Value.slice A l.length c)) (by kernel_rfl) (by kernel_rfl) (fun wz hS => Runs.load (t := 53) (a := ⟨d, 0, none⟩) (by kernel_rfl) ((Hd.keep hS (by intro h; change d = gB at h; omega)).loads (by kernel_rfl))) (d := (some 47)) (by kernel_rfl) rfl ?_
 refine Dr.takes (fuel' := 6) (is' := _) [4, 5, 6] [(6, (Value.bool false)), (47, (Value.slice A l.length c)), (48, (i64 ((k : Nat) : Int))), (49, (Value.slice none 0 0)), (50, (Value.pointer (some ⟨b1, 2, none⟩)))] (by kernel_rfl) rfl (by kernel_rfl) ?_
 refine Dr.take (i := 7) (v := (Value.slice V rs.length rc)) (by kernel_rfl) (by kernel_rfl) (fun wz hS => Runs.load (t := 25) (a := ⟨b1, 2, none⟩) (by kernel_rfl) ((H4.keep hS (by intro h; change b1 = gB at h; omega)).loads (by kernel_rfl))) (d := (some 51)) (by kernel_rfl) rfl ?_
 obtain ⟨v20, w21, hr22, hO23, hK24, hg25⟩ := OwnT.app (ty := 25) RowM.two RowM.one tyR (OwnT.nil _ w.heap.size 59 2 RowM.cells) hV (by first | omega | (simp only [List.length_nil]; omega)) (by first | omega | (simp only [List.length_nil]; omega)) (K0.size)
 obtain ⟨A27, c28, rfl⟩ := RdT.form RowM.two (by decide) (OwnT.rd hO23)
 have ob29 : ∀ i, ((Value.slice A27 (([] ++ rs).length) c28)).ownBlock = some i → i ≠ d := fun i hi => by rcases hg25 i hi with h | h; (cases h); (have := Hd.lt; omega)
 have ob30 : ∀ i, ((Value.slice A27 (([] ++ rs).length) c28)).ownBlock = some i → i ≠ gB := fun i hi => by rcases hg25 i hi with h | h; (cases h); (have := H16.lt; omega)
 have ob31 : ∀ i, ((Value.slice A27 (([] ++ rs).length) c28)).ownBlock = some i → i ≠ b1 := fun i hi => by rcases hg25 i hi with h | h; (cases h); (have := H4.lt; omega)
 have oo32 : ∀ i, ((Value.slice A27 (([] ++ rs).length) c28)).ownBlock = some i → T i → False := fun i hs hi => by rcases hg25 i hs with h | h; (cases h); (have := RowsE.lt hR i hi; omega)
 have K26 := Keeps.mono (U := none_) hK24 (fun _ _ h => by cases h)
 replace K0 := K0.tn K26
 replace Hd := Hd.keep K26 (fun h => h)
 replace H16 := H16.keep K26 (fun h => h)
 replace H4 := H4.keep K26 (fun h => h)
 replace hR := RowsE.keep hR K26 (fun _ _ h => h)
 replace hV := RdR.keepE hV hVF K26 (fun i hi => by exact (show none_ i from hi).elim)
 refine Dr.go (i := 8) (v := (Value.slice A27 (([] ++ rs).length) c28)) (by kernel_rfl) (by kernel_rfl) (Runs.append (ts := #[25, 25]) (ty := 25) (vs := [(Value.slice none 0 0), (Value.slice V rs.length rc)]) (by kernel_rfl) hr22) (d := (some 52)) (by kernel_rfl) rfl (K26.mono (fun _ _ h => h.elim)) ?_
 refine Dr.strong (S' := (fun wz => Keeps (fun i => i = gB) w21 wz)) ((Keeps.refl w21).mono (fun _ _ h => h.elim)) (fun wz hx => K26.trans hx (fun i _ h => h.elim) (fun _ _ h => h)) ?_
 clear K26 hr22 hK24 hg25
 refine Dr.take (i := 9) (v := (Value.pointer (some ⟨gB, k * 11, none⟩))) (by kernel_rfl) (by kernel_rfl) (fun wz hS => Runs.ixSliceE (k := IntKind.i64) (t := 53) (len := l.length) (cap := c) (s := 11) (off' := k * 11) (i := ((k : Nat) : Int)) hA (by kernel_rfl) (by kernel_rfl) (by omega) (by omega) (by omega)) (d := (some 53)) (by kernel_rfl) rfl ?_
 refine Dr.takes (fuel' := 1) (is' := _) [10, 11] [(6, (Value.bool false)), (52, (Value.slice A27 (([] ++ rs).length) c28)), (55, (Value.pointer (some ⟨gB, k * 11 + 7 + 2, none⟩)))] (by kernel_rfl) rfl (by kernel_rfl) ?_
 refine Dr.put (i := 12) (t := 25) (b := gB) (off := k * 11 + 7 + 2) (v := (Value.slice A27 (([] ++ rs).length) c28)) (ys := (pre ++ [(i64 x.op.kind), (Value.string (str x.op.frm)), (Value.string (str x.op.to)), (i64 x.op.amount), (Value.string (str x.op.key)), (i64 x.op.slot), (i64 x.op.shard), (i64 why), (i64 amount), (Value.slice A27 (([] ++ rs).length) c28), (Value.bool true)] ++ suf)) (by kernel_rfl) (by kernel_rfl) (by kernel_rfl) H16 (storeC1 (by kernel_rfl) (by kernel_rfl) (Nat.lt_of_lt_of_le (Nat.lt_succ_self _) (mid_len (vs := [(Value.slice A27 (([] ++ rs).length) c28)]) (k := 9) (by have := hp; omega) (Nat.le_of_ble_eq_true (by kernel_rfl)))) (mid_set1 (k := 9) (by have := hp; omega) (Nat.le_of_ble_eq_true (by kernel_rfl)))) (d := none) (by kernel_rfl) rfl (fun w33 H34 K35 => ?_)
 clear H16
 replace K0 := K0.t1 K35 (fun _ => rfl)
 replace Hd := Hd.k1 K35 (by omega)
 replace H4 := H4.k1 K35 (by omega)
 replace hR := RowsE.keep hR K35 (fun i hi hs => by have hs : i = gB := hs; have := hTg i hi; omega)
 replace hV := RdR.keepE hV hVF K35 (fun i hi => by rw [show i = gB from hi]; exact hgF)
 replace hO23 := own_keep hO23 K35 (fun i hi => by have := ob30 i hi; omega)
 refine ⟨K35, ?_⟩
 refine Dr.strong (S' := (fun wz => Keeps (fun i => i = gB) w33 wz)) ((Keeps.refl w33).mono (fun _ _ h => h.elim)) (fun wz hx => K35.trans hx (fun i _ h => by have h : i = gB := h; show i = gB; omega) (fun _ _ h => h)) ?_
 clear K35
 refine Dr.done (by kernel_rfl) ?_
 refine qs ?_
 refine qg ?_
 refine og 1 [(6, (Value.bool true))] 1 ?_
 refine od ?_
 refine q_ret (by kernel_rfl) ?_
 refine ⟨(Value.bool true), retv_tmp rfl rfl, ?_⟩
 rw [List.nil_append] at hO23
 have e : hearM (l.map DCall.m) (k : Int) ⟨why, amount, rs⟩ = ((l.set k (⟨x.op, why, amount, A27, c28, rs, true⟩ : DCall)).map DCall.m, true) := hearM_in hx hs
 rw [e]
 have hF9 : ∀ i, (DCall.rv (⟨x.op, why, amount, A27, c28, rs, true⟩ : DCall)).ownBlock = some i → w.heap.size ≤ i ∧ i < w33.heap.size := fun i hi => World.ownsRow.lt hO23 i hi
 exact ⟨rfl, K0.mono (fun _ _ h => h ▸ hgF), deskP_set hA hx Hd (hput (⟨x.op, why, amount, A27, c28, rs, true⟩ : DCall) w33 H34) (RowsE.keep hR (Keeps.refl _) (fun i _ h => h)) (OwnT.rd hO23) hF9 K0.size hT7 hV7 hFd hFl h20⟩
end Go.Proofs.Ytlnidnadpdpciaa
