/- What the claim stands on, part 13: rules of the walk, contracts of the functions, plain laws. -/
import Derived.Test.YtnbcghbgeiocbaaDoorKHOrders11
import Derived.Test.YtnbcghbgeiocbaaDoorKHOrders12
import Derived.Shelf.SlicesE.Index
import Derived.Test.YtnbcghbgeiocbaaDoorKHOrders10
import Derived.Test.YtnbcghbgeiocbaaDoorKHOrders4
import Derived.Test.YtnbcghbgeiocbaaDoorProg
import Derived.Test.YtnbcghbgeiocbaaDoorKHOrders6
import Derived.Test.YtnbcghbgeiocbaaDoorKHOrders8
import Derived.Test.YtnbcghbgeiocbaaDoorKHOrders9
set_option linter.unusedVariables false
namespace Go.Q
open Go.RowKit
def kone (x : Int) : List Value := [i64 x]
def mayL (k : Int) : List Int := if k = 1 then [41, 45] else if k = 2 then [40, 43, 45] else if k = 3 then [40, 42, 45] else if k = 4 then [40, 42, 43, 45] else if k = 5 then [40] else []
def AdjP (l : List RowM) (j : Nat) : Prop := ∀ x, l[j]? = some x → 0 ≤ x.amount ∧ ∀ y, 0 < j → l[j - 1]? = some y → y.name < x.name
def AscP (l : List RowM) : Prop := ∀ j, j < l.length → AdjP l j
def FitsP (o : Opm) (r : ReplyM) : Prop :=
 if wrongE o ≠ 0 then r.why = wrongE o ∧ r.amount = 0 ∧ r.rows.length = 0
 else if r.why ≠ 0 then r.why ∈ mayL o.kind ∧ r.amount = 0 ∧ r.rows.length = 0
 else if o.kind = 5 then 0 ≤ r.amount ∧ r.rows.length = 0
 else if o.kind ≠ 6 then r.amount = 0 ∧ r.rows.length = 0
 else r.amount = 0 ∧ AscP r.rows
theorem AscP.zero {l : List RowM} (h : l.length = 0) : AscP l := fun j hj => absurd hj (by omega)
def MayK (K : List KeptM) : Prop := ∀ k ∈ K, k.why = 0 ∨ k.why ∈ mayL k.op.kind
theorem MayK.nil : MayK [] := fun k h => by cases h
theorem act_refused {S : List RowM} {o : Opm} (h : actE S o ≠ 0) : actS S o = S := by
 unfold actE at h
 unfold actS
 repeat' split
 all_goals first | rfl | (exfalso; apply h; simp_all)
end Go.Q
namespace Go.Q
open Go.RowKit
def deltaE (o : Opm) : Int := if o.kind = 2 then o.amount else if o.kind = 3 then -o.amount else 0
def SameP (a b : Opm) : Prop := a.frm = b.frm ∧ a.key = b.key ∧ a.kind = b.kind ∧ a.amount = b.amount
structure SumInv (l : List Opm) (i : Nat) (K : List KeptM) : Prop where
 came : ∀ x ∈ K, ∃ j y, j < i ∧ l[j]? = some y ∧ plainE y = x.op
 went : ∀ j y, j < i → l[j]? = some y → wrongE y = 0 → 1 ≤ y.kind ∧ y.kind ≤ 4 → findK K y.frm y.key ≠ none
theorem SumInv.nil (l : List Opm) : SumInv l 0 [] := ⟨fun x h => (by cases h), fun j y h => absurd h (Nat.not_lt_zero _)⟩
theorem SumInv.step {l : List Opm} {i : Nat} {S : List RowM} {K : List KeptM} {o : Opm} (h : SumInv l i K) (ho : l[i]? = some o) : SumInv l (i + 1) (doK S K o) := by
 refine ⟨fun x hx => ?_, fun j y hj hy hw hk => ?_⟩
 ·unfold doK at hx
  split at hx
  ·rcases List.mem_append.1 hx with hx | hx
   ·obtain ⟨j, y, h1, h2⟩ := h.came x hx; exact ⟨j, y, by omega, h2⟩
   ·rw [List.mem_singleton.1 hx]; exact ⟨i, o, by omega, ho, rfl⟩
  ·obtain ⟨j, y, h1, h2⟩ := h.came x hx; exact ⟨j, y, by omega, h2⟩
 ·have key : ∀ z, findK K y.frm y.key = some z → findK (doK S K o) y.frm y.key ≠ none := fun z hz => by rw [findK_pre (doK_pre S K o) hz]; exact fun q => by cases q
  by_cases hji : j < i
  ·cases hz : findK K y.frm y.key with
   | none => exact absurd hz (h.went j y hji hy hw hk)
   | some z => exact key z hz
  ·obtain rfl : j = i := by omega
   rw [ho] at hy
   obtain rfl := Option.some.inj hy
   cases hz : findK K o.frm o.key with
   | some z => exact key z hz
   | none =>
    have hf : Fresh K o := ⟨hw, by omega, by omega, by omega, hz⟩
    rw [show doK S K o = K ++ [⟨plainE o, actE S (plainE o)⟩] from if_pos hf]
    have e : findK (K ++ [⟨plainE o, actE S (plainE o)⟩]) o.frm o.key = some ⟨plainE o, actE S (plainE o)⟩ := findK_last (x := ⟨plainE o, actE S (plainE o)⟩) hz
    rw [e]
    exact fun q => by cases q
end Go.Q
namespace Go.Q
def heldB (O : List UInt8) : Nat := if O = [] then 0 else 1
def heldL (l : List (List UInt8 × AccV)) : Nat := (l.map fun x => heldB x.2.2).sum
end Go.Q
namespace Go.Q
def cntS (S : List AccM) (k : Nat) : Nat := (S.filter fun a => decide (slotB a.name < k)).length
def restS (S : List AccM) (k : Nat) : List AccM := S.filter fun a => decide (k ≤ slotB a.name)
end Go.Q
namespace Go.Q
section
variable {α : Type} {f : α → List Value} {sz : Nat} {P : Program} {w : World} {t e : TypeId} {A : Option Addr} {c k : Nat} {l : List α}
theorem flat_takeO (hf : ∀ x, (f x).length = sz) : ∀ (l : List α) (k : Nat), (l.flatMap f).take (k * sz) = (l.take k).flatMap f
 | [], k => by simp
 | x :: l, 0 => by simp
 | x :: l, k + 1 => by
  rw [List.flatMap_cons, List.take_succ_cons, List.flatMap_cons, List.take_append, hf, List.take_of_length_le (by rw [hf, Nat.add_mul]; omega), show (k + 1) * sz - sz = k * sz from by rw [Nat.add_mul]; omega, flat_takeO hf l k]
theorem flat_dropO (hf : ∀ x, (f x).length = sz) : ∀ (l : List α) (k : Nat), (l.flatMap f).drop (k * sz) = (l.drop k).flatMap f
 | [], k => by simp
 | x :: l, 0 => by simp
 | x :: l, k + 1 => by
  rw [List.flatMap_cons, List.drop_succ_cons, List.drop_append, hf, List.drop_of_length_le (by rw [hf, Nat.add_mul]; omega), List.nil_append, show (k + 1) * sz - sz = k * sz from by rw [Nat.add_mul]; omega, flat_dropO hf l k]
theorem run_hi (hf : ∀ x, (f x).length = sz) (h0 : 0 < sz) (ht : P.underlying t = some (.slice e)) (hs : size? P e = some sz) (hR : RdT w sz f (.slice A l.length c) l) (hk : k ≤ l.length) :
  (Instr.sliceAt t (.slice A l.length c) none (some (i64 ((k : Nat) : Int))) none).run P w = .ok (.slice A k c) w ∧ RdT w sz f (.slice A k c) (l.take k) := by
 have hc := (RdT.len hf h0 hR).2
 have h := run_cut (sz := sz) (P := P) (w := w) (t := t) (A := A) (n := l.length) (c := c) 0 k c (lo := none) (hi := some (i64 ((k : Nat) : Int))) (mx := none) ht hs (.inl ⟨rfl, rfl⟩) (.inr ⟨_, rfl⟩) (.inl ⟨rfl, rfl⟩) (Nat.zero_le _) (by omega) (Nat.le_refl _)
 have hr := Rd.cut hR 0 k c (Nat.zero_le _) (by omega) (Nat.le_refl _) hk
 have hA0 : (if c = 0 then A else A.map (·.add (0 * sz))) = A := by cases A <;> simp [Addr.add]
 rw [hA0, Nat.sub_zero, Nat.sub_zero] at h hr
 refine ⟨h, ?_⟩
 rw [Nat.zero_mul, List.drop_zero, flat_takeO hf] at hr
 exact hr
theorem run_lo (hf : ∀ x, (f x).length = sz) (h0 : 0 < sz) (ht : P.underlying t = some (.slice e)) (hs : size? P e = some sz) (hR : RdT w sz f (.slice A l.length c) l) (hk : k ≤ l.length) :
  ∃ A2, (Instr.sliceAt t (.slice A l.length c) (some (i64 ((k : Nat) : Int))) none none).run P w = .ok (.slice A2 (l.length - k) (c - k)) w ∧ RdT w sz f (.slice A2 (l.length - k) (c - k)) (l.drop k) := by
 have hc := (RdT.len hf h0 hR).2
 have h := run_cut (sz := sz) (P := P) (w := w) (t := t) (A := A) (n := l.length) (c := c) k l.length c (lo := some (i64 ((k : Nat) : Int))) (hi := none) (mx := none) ht hs (.inr ⟨_, rfl⟩) (.inl ⟨rfl, rfl, rfl⟩) (.inl ⟨rfl, rfl⟩) hk hc.1 (Nat.le_refl _)
 have hr := Rd.cut hR k l.length c hk hc.1 (Nat.le_refl _) (Nat.le_refl _)
 refine ⟨_, h, ?_⟩
 rw [flat_dropO hf, flat_takeO hf, List.take_of_length_le (by rw [List.length_drop]; omega)] at hr
 exact hr
end
def keepS (S : List AccM) (k : Int) : List AccM := S.filter fun a => decide (((slotB a.name : Nat) : Int) ≠ k)
end Go.Q
namespace Go.Q
open Go.RowKit
def kref (x : KeptM) : List Value := [i64 x.op.kind, .string (str x.op.frm), .string (str x.op.to), i64 x.op.amount, .string (str x.op.key), i64 x.op.slot, i64 x.op.shard, i64 x.why, i64 0, .slice none 0 0]
theorem kref10 (x : KeptM) : (kref x).length = 10 := rfl
theorem kref_one (x : KeptM) : oneCells (kref x) = true := rfl
def posW (S : List RowM) (n : List UInt8) : Nat := (S.takeWhile fun a => decide (a.name < n)).length
theorem posW_le : ∀ (S : List RowM) (n : List UInt8), posW S n ≤ S.length
 | [], _ => Nat.le_refl _
 | a :: S, n => by
  have := posW_le S n
  unfold posW at this ⊢
  rw [List.takeWhile_cons]
  split <;> simp only [List.length_cons, List.length_nil] <;> omega
theorem posW_lt : ∀ {S : List RowM} {n : List UInt8} {i : Nat} {a : RowM}, S[i]? = some a → i < posW S n → a.name < n
 | [], _, _, _, h, _ => by cases h
 | b :: S, n, i, a, h, hi => by
  unfold posW at hi
  rw [List.takeWhile_cons] at hi
  by_cases hb : b.name < n
  ·rw [if_pos (by simpa using hb), List.length_cons] at hi
   cases i with
   | zero => simp only [List.getElem?_cons_zero, Option.some.injEq] at h; subst h; exact hb
   | succ i => exact posW_lt (S := S) (by simpa using h) (by unfold posW; omega)
  ·rw [if_neg (by simpa using hb)] at hi; cases hi
theorem posW_at : ∀ {S : List RowM} {n : List UInt8} {a : RowM}, S[posW S n]? = some a → ¬ a.name < n
 | [], _, _, h => by cases h
 | b :: S, n, a, h => by
  unfold posW at h
  rw [List.takeWhile_cons] at h
  by_cases hb : b.name < n
  ·rw [if_pos (by simpa using hb), List.length_cons, List.getElem?_cons_succ] at h
   exact posW_at (S := S) h
  ·rw [if_neg (by simpa using hb)] at h
   simp only [List.length_nil, List.getElem?_cons_zero, Option.some.injEq] at h
   subst h; exact hb
theorem posw_step {S : List RowM} {n : List UInt8} {i : Nat} {a : RowM} (h : S[i]? = some a) (ha : a.name < n) (hi : i ≤ posW S n) : i + 1 ≤ posW S n := by
 rcases Nat.lt_or_eq_of_le hi with hi | hi
 ·exact hi
 ·exact absurd ha (posW_at (by rw [← hi]; exact h))
theorem posw_exit {S : List RowM} {n : List UInt8} {i : Nat} {a : RowM} (h : S[i]? = some a) (ha : ¬ a.name < n) (hi : i ≤ posW S n) : i = posW S n := by
 rcases Nat.lt_or_eq_of_le hi with hi | hi
 ·exact absurd (posW_lt h hi) ha
 ·exact hi
theorem posw_end {S : List RowM} {n : List UInt8} {i : Nat} (h : S.length ≤ i) (hi : i ≤ posW S n) : i = posW S n := by have := posW_le S n; omega
def hasW (S : List RowM) (n : List UInt8) : Bool := match S[posW S n]? with | some a => a.name == n | none => false
theorem hasw_at {S : List RowM} {n : List UInt8} {a : RowM} (h : S[posW S n]? = some a) : hasW S n = (a.name == n) := by unfold hasW; rw [h]
theorem hasw_end {S : List RowM} {n : List UInt8} (h : S.length ≤ posW S n) : hasW S n = false := by unfold hasW; rw [List.getElem?_eq_none h]
theorem sortedw_at {S : List RowM} (hS : S.Pairwise (fun a b => ltN a.name b.name)) {i j : Nat} {a b : RowM} (hi : S[i]? = some a) (hj : S[j]? = some b) (h : i < j) : a.name < b.name := by
 obtain ⟨hi1, hi2⟩ := List.getElem?_eq_some_iff.1 hi
 obtain ⟨hj1, hj2⟩ := List.getElem?_eq_some_iff.1 hj
 have := (List.pairwise_iff_getElem.1 hS) i j hi1 hj1 h
 rw [hi2, hj2] at this
 exact this
theorem findw_some {S : List RowM} (hS : Led S) {n : List UInt8} {a : RowM} (h : getW S n = some a) : hasW S n = true ∧ S[posW S n]? = some a := by
 obtain ⟨hm, rfl⟩ := getW_some h
 obtain ⟨i, hi⟩ := List.getElem?_of_mem hm
 have hp : i = posW S a.name := by
  rcases Nat.lt_trichotomy i (posW S a.name) with h1 | h1 | h1
  ·exact absurd (posW_lt hi h1) (ltN_irrefl _)
  ·exact h1
  ·obtain ⟨b, hb⟩ : ∃ b, S[posW S a.name]? = some b := ⟨_, List.getElem?_eq_getElem (by have := (List.getElem?_eq_some_iff.1 hi).1; omega)⟩
   exact absurd (sortedw_at hS.sorted hb hi h1) (posW_at hb)
 rw [← hp]
 exact ⟨by rw [hasw_at (a := a) (by rw [← hp]; exact hi)]; exact beq_self_eq_true _, hi⟩
theorem findw_none {S : List RowM} {n : List UInt8} (h : getW S n = none) : hasW S n = false := by
 unfold hasW
 cases ha : S[posW S n]? with
 | none => rfl
 | some a => exact beq_eq_false_iff_ne.2 (getW_none h a (List.mem_of_getElem? ha))
theorem insw_split : ∀ (S : List RowM) (a : RowM), S.take (posW S a.name) ++ ([a] ++ S.drop (posW S a.name)) = insW S a
 | [], a => rfl
 | b :: S, a => by
  have ih := insw_split S a
  unfold posW at ih ⊢
  unfold insW
  rw [List.takeWhile_cons]
  by_cases hb : b.name < a.name
  ·rw [if_pos (by simpa using hb), if_pos hb, List.length_cons, List.take_succ_cons, List.drop_succ_cons, List.cons_append, ih]
  ·rw [if_neg (by simpa using hb), if_neg hb]; rfl
theorem setw_at {S : List RowM} (hS : Led S) {n : List UInt8} {a : RowM} (h : getW S n = some a) (x : Int) : setW S n x = S.set (posW S n) ⟨n, x⟩ := by
 have hf := (findw_some hS h).2
 obtain ⟨hl, hq⟩ := List.getElem?_eq_some_iff.1 hf
 obtain ⟨hm, hn⟩ := getW_some h
 unfold setW
 apply List.ext_getElem?
 intro i
 rw [List.getElem?_map, List.getElem?_set]
 by_cases hi : posW S n = i
 ·subst hi
  rw [if_pos rfl, if_pos hl, hf]
  show some (if a.name = n then (⟨n, x⟩ : RowM) else a) = _
  rw [if_pos hn]
 ·rw [if_neg hi]
  cases hb : S[i]? with
  | none => rfl
  | some b =>
   show some (if b.name = n then (⟨n, x⟩ : RowM) else b) = _
   rw [if_neg]
   intro e
   rcases Nat.lt_or_gt_of_ne hi with h1 | h1
   ·have := sortedw_at hS.sorted hf hb h1; rw [hn, e] at this; exact ltN_irrefl _ this
   ·have := sortedw_at hS.sorted hb hf h1; rw [hn, e] at this; exact ltN_irrefl _ this
theorem setw2_at {S : List RowM} (hS : Led S) {f t : List UInt8} {a b : RowM} (hg : getW S f = some a) (ht : getW S t = some b) (hne : f ≠ t) (x y : Int) : setW (setW S t x) f y = (S.set (posW S t) ⟨t, x⟩).set (posW S f) ⟨f, y⟩ := by
 have hf := (findw_some hS hg).2
 have htt := (findw_some hS ht).2
 have e1 := setw_at hS ht x
 have e2 := setw_at hS hg y
 have hn := (getW_some hg).2
 have hm := (getW_some ht).2
 have hpq : posW S t ≠ posW S f := fun q => by rw [q, hf] at htt; injection htt with q2; exact hne (by rw [← hn, ← hm, q2])
 apply List.ext_getElem?
 intro i
 have e3 : (setW (setW S t x) f y)[i]? = ((setW S t x)[i]?).map fun a => if a.name = f then ⟨f, y⟩ else a := List.getElem?_map ..
 rw [e3, e1, List.getElem?_set, List.getElem?_set, List.getElem?_set]
 have e4 : (setW S f y)[i]? = (S.set (posW S f) ⟨f, y⟩)[i]? := by rw [e2]
 rw [show (setW S f y)[i]? = (S[i]?).map (fun a => if a.name = f then (⟨f, y⟩ : RowM) else a) from List.getElem?_map .., List.getElem?_set] at e4
 by_cases h1 : posW S t = i
 ·have h2 : ¬ posW S f = i := fun q => hpq (h1.trans q.symm)
  have hl := (List.getElem?_eq_some_iff.1 htt).1
  rw [if_pos h1, if_neg h2, if_pos hl]
  show some (if t = f then (⟨f, y⟩ : RowM) else ⟨t, x⟩) = _
  rw [if_neg (fun q => hne q.symm)]
 ·rw [if_neg h1, e4, List.length_set]
theorem hasw_get {S : List RowM} (hS : Led S) {n : List UInt8} (h : hasW S n = true) : ∃ a, getW S n = some a ∧ S[posW S n]? = some a := by
 cases hg : getW S n with
 | none => rw [findw_none hg] at h; cases h
 | some a => exact ⟨a, rfl, (findw_some hS hg).2⟩
theorem hasw_none {S : List RowM} (hS : Led S) {n : List UInt8} (h : hasW S n = false) : getW S n = none := by
 cases hg : getW S n with
 | none => rfl
 | some a => rw [(findw_some hS hg).1] at h; cases h
theorem findK_no {K : List KeptM} {f k : List UInt8} (h : ∀ (j : Nat) y, K[j]? = some y → ¬ (y.op.frm = f ∧ y.op.key = k)) : findK K f k = none := by
 cases hf : findK K f k with
 | none => rfl
 | some x =>
  obtain ⟨hm, h1, h2⟩ := findK_some hf
  obtain ⟨j, hj⟩ := List.getElem?_of_mem hm
  exact absurd ⟨h1, h2⟩ (h j x hj)
theorem findK_is {S : List RowM} {K : List KeptM} (hL : Ledg S K) {i : Nat} {x : KeptM} {f k : List UInt8} (hx : K[i]? = some x) (h1 : x.op.frm = f) (h2 : x.op.key = k) : findK K f k = some x := by
 subst h1; subst h2
 exact getM_at (by rw [kv_fst]; exact hL.ids) (i := i) (y := x.kv) (by rw [List.getElem?_map, hx]; rfl) rfl
theorem no_step {K : List KeptM} {i : Nat} {x : KeptM} {f k : List UInt8} (hx : K[i]? = some x) (h : ∀ j y, j < i → K[j]? = some y → ¬ (y.op.frm = f ∧ y.op.key = k)) (hn : ¬ (x.op.frm = f ∧ x.op.key = k)) : ∀ j y, j < i + 1 → K[j]? = some y → ¬ (y.op.frm = f ∧ y.op.key = k) := by
 intro j y hj hy
 by_cases hji : j < i
 ·exact h j y hji hy
 ·obtain rfl : j = i := by omega
  rw [hx] at hy
  obtain rfl := Option.some.inj hy
  exact hn
def posK (l : List KeptM) (x : KeptM) : Nat := (l.takeWhile fun y => decide (ltI y.id x.id)).length
theorem OwnT.open2 {α : Type} {f : α → List Value} {sz : Nat} (hf : ∀ x, (f x).length = sz) (h0 : 0 < sz) {w : World} {base e i k c : Nat} {A : Option Addr} {l : List α} {x z : α} (hx : l[i]? = some x) (hz : l[k]? = some z) (hne : i ≠ k) (h : OwnT w base e sz f (.slice A l.length c) l) :
  ∃ g cur, A = some ⟨g, 0, none⟩ ∧ base ≤ g ∧ Has w g (rowL cur e) ∧ i * sz + sz ≤ cur.length ∧ k * sz + sz ≤ cur.length ∧ (∀ j u, (f x)[j]? = some u → cur[i * sz + j]? = some u) ∧ (∀ j u, (f z)[j]? = some u → cur[k * sz + j]? = some u) ∧
   (∀ (o : Nat) (u : Value) (y : α), o < sz → f y = (f x).set o u → ∀ w', Has w' g (rowL (cur.set (i * sz + o) u) e) → OwnT w' base e sz f (.slice A l.length c) (l.set i y)) ∧
   ∀ (o o' : Nat) (u u' : Value) (y y' : α), o < sz → o' < sz → f y = (f z).set o u → f y' = (f x).set o' u' → ∀ w', Has w' g (rowL ((cur.set (k * sz + o) u).set (i * sz + o') u') e) → OwnT w' base e sz f (.slice A l.length c) ((l.set k y).set i y') := by
 obtain ⟨g, cur, hA, hb, Hg, hl, hc, hp⟩ := OwnT.open hf h0 hx h
 obtain ⟨g2, cur2, hA2, hb2, Hg2, hl2, hc2, hp2⟩ := OwnT.open hf h0 hz h
 have eg : g2 = g := by rw [hA] at hA2; injection hA2 with q; injection q with q; exact q.symm
 subst eg
 have ec : cur2 = cur := by
  have q := Hg.symm.trans Hg2
  injection q with q
  injection q with q
  have := congrArg Array.toList q
  exact this.symm
 subst ec
 refine ⟨g2, cur2, hA, hb, Hg, hl, hl2, hc, hc2, hp, fun o o' u u' y y' ho ho' hy hy' w' H => ?_⟩
 have hglt := Hg.lt
 let w1 : World := { w with heap := w.heap.set g2 (rowL (cur2.set (k * sz + o) u) e) hglt }
 have H1 : Has w1 g2 (rowL (cur2.set (k * sz + o) u) e) := by
  show (w.heap.set g2 _ hglt)[g2]? = _
  simp
 have hO1 := hp2 o u y ho hy w1 H1
 have hlen : (l.set k y).length = l.length := List.length_set
 rw [← hlen] at hO1
 have hx1 : (l.set k y)[i]? = some x := by rw [List.getElem?_set_ne (Ne.symm hne)]; exact hx
 obtain ⟨g3, cur3, hA3, hb3, Hg3, hl3, hc3, hp3⟩ := OwnT.open hf h0 hx1 hO1
 have eg : g3 = g2 := by rw [hA] at hA3; injection hA3 with q; injection q with q; exact q.symm
 subst eg
 have ec : cur3 = cur2.set (k * sz + o) u := by
  have q := H1.symm.trans Hg3
  injection q with q
  injection q with q
  have := congrArg Array.toList q
  exact this.symm
 subst ec
 have := hp3 o' u' y' ho' hy' w' H
 rw [hlen] at this
 exact this
end Go.Q
namespace Go.Proofs.YtnbcghbgeiocbaaDoor
open Go.Q Go.RowKit
theorem Rfind_calls (w : World) (r : Nat) (A : Option Addr) (c : Nat) (S : List RowM) (B : Option Addr) (d : Nat) (K : List KeptM) (n : List UInt8) (Hr : Has w r (rowL [.slice A S.length c, .slice B K.length d] 55)) (hR : RdT w 2 RowM.cells (.slice A S.length c) S) (hQ : RdT w 10 kref (.slice B K.length d) K) : Calls Tryd.prog 39 ⟨[(ptr r), (Value.string (str n))]⟩ w (fun e w' => e = .returned (.tuple #[i64 ((posW S n : Nat) : Int), .bool (hasW S n)]) ∧ Keeps none_ w w') := by
 have Hrl := Hr.lt
 have hcap := RdT.len RowM.two (by decide) hR
 have hcapk := RdT.len kref10 (by decide) hQ
 unfold maxLen at hcap hcapk
 have K0 : Keeps none_ w w := Keeps.refl w
 refine q_calls Tryd.func39 (by kernel_rfl) (by kernel_rfl) ?_
 refine qsg ?_
 refine odz 2 ?_
 refine qsg ?_
 refine ogd 1 [(0, ptr r), (1, .string (str n)), (4, i64 0), (5, .bool false), (6, i64 0)] ?_
 refine qs ?_
 refine q_block (id := 0) (by kernel_rfl) ?_
 refine q_keep (R := [(0, ptr r), (1, .string (str n)), (4, i64 0), (5, .bool false), (6, i64 0)]) (by kernel_rfl) ?_
 refine q_loop (fun (i : Nat) L (wx : World) => L = [(0, (ptr r)), (1, (Value.string (str n))), (4, (i64 0)), (5, (Value.bool false)), (6, (i64 ((i : Nat) : Int)))] ∧ i ≤ posW S n ∧ Keeps none_ w wx ∧ Has wx r (rowL [(Value.slice A S.length c), (Value.slice B K.length d)] 55)) (fun (i : Nat) => S.length - i) 0 (by kernel_rfl) ⟨rfl, Nat.zero_le _, K0, Hr⟩ ?_
 clear Hr K0
 rintro i _ w1 ⟨rfl, hi, K2, H3⟩
 have hpl := posW_le S n
 refine qs ?_
 refine qsg ?_
 refine og 4 [(0, ptr r), (1, .string (str n)), (4, i64 0), (5, .bool false), (6, i64 ↑i), (7, i64 ↑i), (10, ptr r)] 4 ?_
 refine ogo (Value.slice A S.length c) 11 (rld 26 r 0 H3) rfl ?_
 refine og 3 [(0, ptr r), (1, .string (str n)), (4, i64 0), (5, .bool false), (6, i64 ↑i), (14, (Value.bool (decide (((i : Nat) : Int) < ((S.length : Nat) : Int)))))] 8 ?_
 refine Ops.split (decide (((i : Nat) : Int) < ((S.length : Nat) : Int))) (fun h4 => ?_) (fun h4 => ?_)
 ·rw [h4]
  have p5 := of_decide_eq_true h4
  obtain ⟨a, ha⟩ : ∃ y, S[i]? = some y := ⟨_, List.getElem?_eq_getElem (by omega)⟩
  obtain ⟨rb6, ro7, hA8⟩ := Rd.addr (Rd.keep0 (by decide) hR K2) (by omega)
  refine og 3 [(0, ptr r), (1, .string (str n)), (4, i64 0), (5, .bool false), (6, i64 ↑i), (14, .bool true), (17, ptr r)] 11 ?_
  refine ogo (Value.slice A S.length c) 18 (rld 26 r 0 H3) rfl ?_
  refine og 1 [(0, ptr r), (1, .string (str n)), (4, i64 0), (5, .bool false), (6, i64 ↑i), (14, .bool true), (18, .slice A S.length c), (19, i64 ↑i)] 13 ?_
  refine Ops.go (by kernel_rfl) (Runs.ixSliceE (k := IntKind.i64) (t := 26) (len := S.length) (cap := c) (s := 2) (off' := ro7 + i * 2) (i := ((i : Nat) : Int)) hA8 (by kernel_rfl) (by kernel_rfl) (by omega) (by omega) (by omega)) (d := (some 20)) (by kernel_rfl) rfl ?_
  refine og 1 [(0, ptr r), (1, .string (str n)), (4, i64 0), (5, .bool false), (6, i64 ↑i), (14, .bool true), (21, .pointer (some ⟨rb6, ro7 + i * 2, none⟩))] 15 ?_
  refine ogo (Value.string (str a.name)) 22 (Runs.load (t := 9) (a := ⟨rb6, ro7 + i * 2, none⟩) (by kernel_rfl) (RdT.ldf (f := RowM.cells) (x := a) (o := 0) RowM.two (Rd.keep0 (by decide) hR K2) (by kernel_rfl) hA8 ha rfl)) rfl ?_
  refine og 1 [(0, ptr r), (1, .string (str n)), (4, i64 0), (5, .bool false), (6, i64 ↑i), (14, .bool true), (22, .string (str a.name)), (23, .string (str n))] 17 ?_
  refine ogo (Value.bool (decide (a.name < n))) 24 (Runs.strlss (t := 9) (by kernel_rfl)) rfl ?_
  refine ogd 1 [(0, ptr r), (1, .string (str n)), (4, i64 0), (5, .bool false), (6, i64 ↑i), (25, (Value.bool (decide (a.name < n))))] ?_
  refine qcQ 25 (decide (a.name < n)) rfl (fun h9 => ?_) (fun h9 => ?_)
  ·rw [h9]
   have p10 : (decide (a.name < n)) = true := h9
   have hlt := of_decide_eq_true h9
   refine qkQ ?_
   refine q_block (id := 1) (by kernel_rfl) ?_
   refine qg ?_
   refine oid 3 (fun z => [(0, ptr r), (1, .string (str n)), (4, i64 0), (5, .bool false), (6, i64 z)]) i ?_
   exact ⟨i + 1, ⟨rfl, (posw_step ha hlt hi), K2, H3⟩, (show S.length - (i + 1) < S.length - i from by omega)⟩
  ·rw [h9]
   have p12 : (decide (a.name < n)) = false := h9
   have hpe := posw_exit ha (of_decide_eq_false h9) hi
   refine q_exit (id := 0) (by kernel_rfl) ?_
   refine qs ?_
   refine q_draw (fun wz => Keeps none_ w1 wz) 22 (by kernel_rfl) (by kernel_rfl) (by kernel_rfl) (fun w13 K14 _ _ => ⟨K14, ?_⟩)
   replace K2 := K2.tn K14
   replace H3 := H3.kn K14
   refine Dr.strong (S' := (fun wz => Keeps none_ w13 wz)) (Keeps.refl w13) (fun wz hx => K14.trans hx (fun i _ h => h) (fun _ _ h => h)) ?_
   refine dkQ 17 [0, 1, 2, 3, 4] [(0, ptr r), (1, .string (str n)), (4, i64 0), (5, .bool false), (6, i64 ↑i), (28, i64 ↑i), (29, i64 ↑i), (32, ptr r)] ?_
   refine dtQ 5 (Value.slice A S.length c) 33 (fun wz hS => rld 26 r 0 (H3.keep hS (fun h => h))) rfl ?_
   refine dkQ 12 [6, 7, 8, 20] [(0, ptr r), (1, .string (str n)), (4, i64 ↑i), (5, .bool false), (6, i64 ↑i), (36, (Value.bool (decide (((i : Nat) : Int) < ((S.length : Nat) : Int)))))] ?_
   rw [h4]
   refine dkQ 9 [9, 10, 11] [(1, .string (str n)), (4, i64 ↑i), (5, .bool false), (6, i64 ↑i), (36, .bool true), (39, ptr r)] ?_
   refine dtQ 12 (Value.slice A S.length c) 40 (fun wz hS => rld 26 r 0 (H3.keep hS (fun h => h))) rfl ?_
   refine dkQ 7 [13] [(1, .string (str n)), (4, i64 ↑i), (5, .bool false), (36, .bool true), (40, .slice A S.length c), (41, i64 ↑i)] ?_
   refine dtQ 14 (Value.pointer (some ⟨rb6, ro7 + i * 2, none⟩)) 42 (fun wz hS => Runs.ixSliceE (k := IntKind.i64) (t := 26) (len := S.length) (cap := c) (s := 2) (off' := ro7 + i * 2) (i := ((i : Nat) : Int)) hA8 (by kernel_rfl) (by kernel_rfl) (by omega) (by omega) (by omega)) rfl ?_
   refine dkQ 5 [15] [(1, .string (str n)), (4, i64 ↑i), (5, .bool false), (36, .bool true), (43, .pointer (some ⟨rb6, ro7 + i * 2, none⟩))] ?_
   refine dtQ 16 (Value.string (str a.name)) 44 (fun wz hS => Runs.load (t := 9) (a := ⟨rb6, ro7 + i * 2, none⟩) (by kernel_rfl) (RdT.ldf (f := RowM.cells) (x := a) (o := 0) RowM.two (Rd.keep0 (by decide) hR (K2.trans hS (fun _ _ h => h) (fun _ _ h => h))) (by kernel_rfl) hA8 ha rfl)) rfl ?_
   refine dkQ 3 [17] [(4, i64 ↑i), (5, .bool false), (36, .bool true), (44, .string (str a.name)), (45, .string (str n))] ?_
   refine dtQ 18 (Value.bool (a.name == n)) 46 (fun wz hS => Runs.streq (t := 9) (by kernel_rfl)) rfl ?_
   refine dkQ 0 [19, 21] [(4, i64 ↑i), (5, .bool (a.name == n))] ?_
   refine Dr.done (by kernel_rfl) ?_
   refine qtQ ?_
   refine ⟨(Value.tuple #[(i64 ((i : Nat) : Int)), (Value.bool (a.name == n))]), retv_tmp2 rfl rfl rfl, ?_⟩
   have e : hasW S n = (a.name == n) := hasw_at (by rw [← hpe]; exact ha)
   exact ⟨by rw [e, ← hpe], K2⟩
 ·rw [h4]
  have p15 := of_decide_eq_false h4
  refine ogd 11 [(0, ptr r), (1, .string (str n)), (4, i64 0), (5, .bool false), (6, i64 ↑i), (25, .bool false)] ?_
  refine q_else (o := .tmp 25) (by kernel_rfl) rfl ?_
  refine q_exit (id := 0) (by kernel_rfl) ?_
  refine qs ?_
  refine q_draw (fun wz => Keeps none_ w1 wz) 22 (by kernel_rfl) (by kernel_rfl) (by kernel_rfl) (fun w16 K17 _ _ => ⟨K17, ?_⟩)
  replace K2 := K2.tn K17
  replace H3 := H3.kn K17
  refine Dr.strong (S' := (fun wz => Keeps none_ w16 wz)) (Keeps.refl w16) (fun wz hx => K17.trans hx (fun i _ h => h) (fun _ _ h => h)) ?_
  refine dkQ 17 [0, 1, 2, 3, 4] [(0, ptr r), (1, .string (str n)), (4, i64 0), (5, .bool false), (6, i64 ↑i), (28, i64 ↑i), (29, i64 ↑i), (32, ptr r)] ?_
  refine dtQ 5 (Value.slice A S.length c) 33 (fun wz hS => rld 26 r 0 (H3.keep hS (fun h => h))) rfl ?_
  refine dkQ 12 [6, 7, 8, 20] [(0, ptr r), (1, .string (str n)), (4, i64 ↑i), (5, .bool false), (6, i64 ↑i), (36, (Value.bool (decide (((i : Nat) : Int) < ((S.length : Nat) : Int)))))] ?_
  rw [h4]
  refine dkQ 0 [9, 10, 11, 12, 13, 14, 15, 16, 17, 18, 19, 21] [(4, i64 ↑i), (5, .bool false)] ?_
  refine Dr.done (by kernel_rfl) ?_
  refine qtQ ?_
  refine ⟨(Value.tuple #[(i64 ((i : Nat) : Int)), (Value.bool false)]), retv_tmp2 rfl rfl rfl, ?_⟩
  have hpe := posw_end (by omega) hi
  have e : hasW S n = false := hasw_end (by omega)
  exact ⟨by rw [e, ← hpe], K2⟩
end Go.Proofs.YtnbcghbgeiocbaaDoor
namespace Go.Proofs.YtnbcghbgeiocbaaDoor
open Go.Q Go.RowKit
theorem tyRK : ElemTy Tryd.prog 53 101 10 120 := elemTy (by kernel_rfl)
set_option maxHeartbeats 2000000 in
theorem Ract_new (w : World) (base r : Nat) (A : Option Addr) (c : Nat) (S : List RowM) (B : Option Addr) (d : Nat) (K : List KeptM) (o : Opm) (Hr : Has w r (rowL [.slice A S.length c, .slice B K.length d] 55)) (hO : OwnT w base 98 2 RowM.cells (.slice A S.length c) S) (hP : OwnT w base 101 10 kref (.slice B K.length d) K) (hne : ∀ i, (Value.slice A S.length c).ownBlock = some i → i ≠ r) (hne2 : ∀ i, (Value.slice B K.length d).ownBlock = some i → i ≠ r) (hnn : ∀ i, (Value.slice A S.length c).ownBlock = some i → (Value.slice B K.length d).ownBlock = some i → False) (hS : Led S) (hbw : base ≤ w.heap.size) (hk : 1 ≤ o.kind ∧ o.kind ≤ 4) (hr : -9223372036854775808 ≤ o.amount ∧ o.amount ≤ 9223372036854775807) (ha : o.kind ≠ 1 → 1 ≤ o.amount) (h4 : o.kind = 4 → o.frm ≠ o.to) (hSl : S.length ≤ 1000) (hk1 : o.kind = 1) (hg : getW S o.frm = none) : Calls Tryd.prog 41 ⟨[(ptr r), (agg (Opm.cells o))]⟩ w (fun e w' => ∃ A' c', e = .returned (i64 (actE S o)) ∧ Keeps (fun i => i = r ∨ (Value.slice A S.length c).ownBlock = some i) w w' ∧ Has w' r (rowL [.slice A' (actS S o).length c', .slice B K.length d] 55) ∧ OwnT w' base 98 2 RowM.cells (.slice A' (actS S o).length c') (actS S o) ∧ (∀ i, (Value.slice A' (actS S o).length c').ownBlock = some i → (Value.slice A S.length c).ownBlock = some i ∨ w.heap.size ≤ i)) := by
 have hR := OwnT.rd hO
 have hQ := OwnT.rd hP
 have Hrl := Hr.lt
 have hcap := RdT.len RowM.two (by decide) hR
 have hcapk := RdT.len kref10 (by decide) hQ
 unfold maxLen at hcap hcapk
 have hfn := findw_none hg
 have hpl := posW_le S o.frm
 have htk : (S.take (posW S o.frm)).length = posW S o.frm := by rw [List.length_take]; omega
 have hdk : (S.drop (posW S o.frm)).length = S.length - posW S o.frm := List.length_drop
 have K0 : Keeps (fun i => i = r) w w := (Keeps.refl w).mono (fun _ _ h => h.elim)
 refine q_calls Tryd.func41 (by kernel_rfl) (by kernel_rfl) ?_
 refine qsg ?_
 refine onew (rowL (Opm.cells o) 24) (fun b => (ptr b)) 3 (fun b => rfl) (fun b1 w2 hb3 H4 K5 hs6 => ?_)
 have lb1r : r < b1 := by have := Hr.lt; omega
 have nb1 : w.heap.size ≤ b1 := by have := K0.size; omega
 replace K0 := K0.tn K5
 replace Hr := Hr.kn K5
 replace hO := own_keep0 hO K5
 replace hP := own_keep0 hP K5
 clear K5 hs6
 refine odz 1 ?_
 refine qsg ?_
 refine og 2 [(0, ptr r), (3, ptr b1), (4, i64 0), (11, ptr r), (12, .pointer (some ⟨b1, 1, none⟩))] 2 ?_
 refine ogo (Value.string (str o.frm)) 13 (rld 9 b1 1 H4) rfl ?_
 refine ocQ 14 (Rfind_calls _ r A c S B d K o.frm Hr (OwnT.rd hO) (OwnT.rd hP)) ?_
 rintro _ w10 ⟨rfl, K9⟩
 refine ⟨_, _, rfl, rfl, ?_⟩
 replace K0 := K0.tn K9
 replace Hr := Hr.kn K9
 replace H4 := H4.kn K9
 replace hO := own_keep0 hO K9
 clear K9
 refine odz 5 ?_
 refine qs ?_
 refine qsg ?_
 refine og 1 [(0, ptr r), (3, ptr b1), (4, i64 0), (5, i64 ↑(posW S o.frm)), (6, .bool (hasW S o.frm)), (17, ptr b1)] 1 ?_
 refine ogo (i64 o.kind) 18 (rld 3 b1 0 H4) rfl ?_
 refine ogd 1 [(0, ptr r), (3, ptr b1), (4, i64 0), (5, i64 ↑(posW S o.frm)), (6, .bool (hasW S o.frm)), (19, .bool (o.kind == 1))] ?_
 have h11 : (o.kind == 1) = true := beq_iff_eq.2 (by omega)
 rw [h11]
 refine q_then (o := .tmp 19) (by kernel_rfl) rfl ?_
 refine qs ?_
 refine qsg ?_
 refine ogd 1 [(0, ptr r), (3, ptr b1), (4, i64 0), (5, i64 ↑(posW S o.frm)), (6, .bool (hasW S o.frm)), (20, .bool (hasW S o.frm))] ?_
 have h12 : (hasW S o.frm) = false := hfn
 rw [h12]
 refine q_else (o := .tmp 20) (by kernel_rfl) rfl ?_
 refine qkQ ?_
 refine qsg ?_
 refine odz 1 ?_
 refine qsg ?_
 refine og 4 [(0, ptr r), (3, ptr b1), (4, i64 0), (5, i64 ↑(posW S o.frm)), (6, .bool false), (7, .slice none 0 0), (21, .slice none 0 0), (24, ptr r)] 4 ?_
 refine ogo (Value.slice A S.length c) 25 (rld 26 r 0 Hr) rfl ?_
 refine og 1 [(0, ptr r), (3, ptr b1), (4, i64 0), (5, i64 ↑(posW S o.frm)), (6, .bool false), (7, .slice none 0 0), (21, .slice none 0 0), (25, .slice A S.length c), (26, i64 ↑(posW S o.frm))] 6 ?_
 obtain ⟨hr13, F14⟩ := run_hi (P := Tryd.prog) (t := 26) (e := 98) RowM.two (by decide) (by kernel_rfl) (by kernel_rfl) (OwnT.rd hO) (k := (posW S o.frm)) (by omega)
 refine ogo (Value.slice A (posW S o.frm) c) 27 ((Runs.slice (by kernel_rfl) hr13)) rfl ?_
 obtain ⟨v15, w16, hr17, hO18, hK19, hg20⟩ := OwnT.app (ty := 26) RowM.two RowM.one tyR (OwnT.nil _ w.heap.size 98 2 RowM.cells) F14 (by (try simp only [List.length_append]); (try simp only [List.length_cons]); (try simp only [List.length_nil]); omega) (by (try simp only [List.length_append]); (try simp only [List.length_cons]); (try simp only [List.length_nil]); omega) K0.size
 obtain ⟨A22, c23, rfl⟩ := RdT.form RowM.two (by decide) (OwnT.rd hO18)
 obtain ⟨l24, hl25⟩ : ∃ z, z = [] ++ S.take (posW S o.frm) := ⟨_, rfl⟩
 rw [← hl25] at hr17 hO18 hg20
 have hn26 : l24.length = 0 + (S.take (posW S o.frm)).length := by simp [hl25]
 have ob27 : ∀ i, Ow (.slice A22 l24.length c23) i → i ≠ r := fun i hi => by rcases hg20 i hi with h | h; (cases h); (have := Hr.lt; omega)
 have oo29 : ∀ i, Ow (.slice A S.length c) i → Ow (.slice A22 l24.length c23) i → False := fun i hi hs => by rcases hg20 i hs with h | h; (cases h); (have := (World.ownsRow.lt hO i hi).2; omega)
 have K21 := Keeps.mono (U := none_) hK19 (fun _ _ h => by cases h)
 refine ogo (Value.slice A22 l24.length c23) 28 (Runs.append (ts := #[26, 26]) (ty := 26) (vs := [(Value.slice none 0 0), (Value.slice A (posW S o.frm) c)]) (by kernel_rfl) hr17) rfl ?_
 replace K0 := K0.tn K21
 replace Hr := Hr.kn K21
 replace H4 := H4.kn K21
 replace hO := own_keep0 hO K21
 clear K21 hr17 hK19 hg20
 refine odz 1 ?_
 refine qsg ?_
 refine og 2 [(0, ptr r), (3, ptr b1), (4, i64 0), (5, i64 ↑(posW S o.frm)), (6, .bool false), (7, .slice A22 l24.length c23), (29, .slice A22 l24.length c23), (30, .pointer (some ⟨b1, 1, none⟩))] 2 ?_
 refine ogo (Value.string (str o.frm)) 31 (rld 9 b1 1 H4) rfl ?_
 refine og 1 [(0, ptr r), (3, ptr b1), (4, i64 0), (5, i64 ↑(posW S o.frm)), (6, .bool false), (7, .slice A22 l24.length c23), (29, .slice A22 l24.length c23), (32, (agg [(Value.string (str o.frm)), (i64 0)]))] 4 ?_
 refine onew (rowL [(Value.string (str o.frm)), (i64 0)] 98) (fun b => (Value.slice (some ⟨b, 0, none⟩) 1 1)) 33 (fun b => rfl) (fun b33 w34 hb35 H36 K37 hs38 => ?_)
 have lb33r : r < b33 := by have := Hr.lt; omega
 have lb33b1 : b1 < b33 := by have := H4.lt; omega
 have nb33 : w.heap.size ≤ b33 := by have := K0.size; omega
 replace K0 := K0.tn K37
 replace Hr := Hr.kn K37
 replace hO := own_keep0 hO K37
 replace hO18 := own_keep0 hO18 K37
 clear K37 hs38
 obtain ⟨v42, w43, hr44, hO45, hK46, hg47⟩ := OwnT.app (ty := 26) RowM.two RowM.one tyR hO18 (show RdT _ 2 RowM.cells _ [(⟨o.frm, 0⟩ : RowM)] from Rd.lit H36 (n := 1) rfl (by decide)) (by (try simp only [List.length_append]); (try simp only [List.length_cons]); (try simp only [List.length_nil]); omega) (by (try simp only [List.length_append]); (try simp only [List.length_cons]); (try simp only [List.length_nil]); omega) K0.size
 obtain ⟨A49, c50, rfl⟩ := RdT.form RowM.two (by decide) (OwnT.rd hO45)
 obtain ⟨l51, hl52⟩ : ∃ z, z = l24 ++ [(⟨o.frm, 0⟩ : RowM)] := ⟨_, rfl⟩
 rw [← hl52] at hr44 hO45 hg47
 have hn53 : l51.length = l24.length + 1 := by simp [hl52]
 have ob54 : ∀ i, Ow (.slice A49 l51.length c50) i → i ≠ r := fun i hi => by rcases hg47 i hi with h | h; (have := ob27 i h; omega); (have := Hr.lt; omega)
 have K48 := hK46
 refine ogo (Value.slice A49 l51.length c50) 34 (Runs.append (ts := #[26, 26]) (ty := 26) (vs := [(Value.slice A22 l24.length c23), (Value.slice (some ⟨b33, 0, none⟩) 1 1)]) (by kernel_rfl) hr44) rfl ?_
 replace K0 := K0.trans K48 (U := (fun i => i = r)) (fun i h1 h2 => h2) (fun i h1 h2 => by have h2 : Ow (.slice A22 l24.length c23) i := h2; exfalso; have := (World.ownsRow.lt hO18 i h2).1; omega)
 replace Hr := Hr.keep K48 (by intro h; change Ow (.slice A22 l24.length c23) r at h; have := ob27 r h; omega)
 replace hO := own_keep hO K48 (fun i hi hs => by have hs : Ow (.slice A22 l24.length c23) i := hs; exact oo29 i hi hs)
 clear F14
 clear K48 hr44 hK46 hg47
 refine odz 1 ?_
 refine qsg ?_
 refine og 4 [(0, ptr r), (3, ptr b1), (4, i64 0), (5, i64 ↑(posW S o.frm)), (6, .bool false), (7, .slice A49 l51.length c50), (35, .slice A49 l51.length c50), (38, ptr r)] 4 ?_
 refine ogo (Value.slice A S.length c) 39 (rld 26 r 0 Hr) rfl ?_
 refine og 1 [(0, ptr r), (3, ptr b1), (4, i64 0), (5, i64 ↑(posW S o.frm)), (6, .bool false), (7, .slice A49 l51.length c50), (35, .slice A49 l51.length c50), (39, .slice A S.length c), (40, i64 ↑(posW S o.frm))] 6 ?_
 obtain ⟨A63, hr61, F62⟩ := run_lo (P := Tryd.prog) (t := 26) (e := 98) RowM.two (by decide) (by kernel_rfl) (by kernel_rfl) (OwnT.rd hO) (k := (posW S o.frm)) (by omega)
 refine ogo (Value.slice A63 (S.length - (posW S o.frm)) (c - (posW S o.frm))) 41 ((Runs.slice (by kernel_rfl) hr61)) rfl ?_
 obtain ⟨v64, w65, hr66, hO67, hK68, hg69⟩ := OwnT.app (ty := 26) RowM.two RowM.one tyR hO45 F62 (by (try simp only [List.length_append]); (try simp only [List.length_cons]); (try simp only [List.length_nil]); omega) (by (try simp only [List.length_append]); (try simp only [List.length_cons]); (try simp only [List.length_nil]); omega) K0.size
 obtain ⟨A71, c72, rfl⟩ := RdT.form RowM.two (by decide) (OwnT.rd hO67)
 obtain ⟨l73, hl74⟩ : ∃ z, z = l51 ++ S.drop (posW S o.frm) := ⟨_, rfl⟩
 rw [← hl74] at hr66 hO67 hg69
 have hn75 : l73.length = l51.length + (S.drop (posW S o.frm)).length := by simp [hl74]
 have ob76 : ∀ i, Ow (.slice A71 l73.length c72) i → i ≠ r := fun i hi => by rcases hg69 i hi with h | h; (have := ob54 i h; omega); (have := Hr.lt; omega)
 have K70 := hK68
 refine ogo (Value.slice A71 l73.length c72) 42 (Runs.append (ts := #[26, 26]) (ty := 26) (vs := [(Value.slice A49 l51.length c50), (Value.slice A63 (S.length - (posW S o.frm)) (c - (posW S o.frm)))]) (by kernel_rfl) hr66) rfl ?_
 replace K0 := K0.trans K70 (U := (fun i => i = r)) (fun i h1 h2 => h2) (fun i h1 h2 => by have h2 : Ow (.slice A49 l51.length c50) i := h2; exfalso; have := (World.ownsRow.lt hO45 i h2).1; omega)
 replace Hr := Hr.keep K70 (by intro h; change Ow (.slice A49 l51.length c50) r at h; have := ob54 r h; omega)
 clear F62
 clear K70 hr66 hK68 hg69
 refine odz 1 ?_
 refine qsg ?_
 refine og 4 [(0, ptr r), (3, ptr b1), (4, i64 0), (5, i64 ↑(posW S o.frm)), (6, .bool false), (44, .slice A71 l73.length c72), (46, ptr r)] 4 ?_
 refine Ops.put (t := 26) (b := r) (off := 0) (v := (Value.slice A71 l73.length c72)) (ys := [(Value.slice A71 l73.length c72), (Value.slice B K.length d)]) (by kernel_rfl) (by kernel_rfl) Hr (by kernel_rfl) (d := none) (by kernel_rfl) rfl (fun w83 H84 K85 => ?_)
 clear Hr
 replace K0 := K0.t1 K85 (fun _ => rfl)
 replace hO67 := own_keep hO67 K85 (fun i hi => by have := ob76 i hi; omega)
 refine od ?_
 refine qsg ?_
 refine ogd 1 [(0, ptr r), (3, ptr b1), (4, i64 0), (5, i64 ↑(posW S o.frm)), (6, .bool false)] ?_
 refine qtQ ?_
 refine ⟨(i64 0), retv_tmp rfl rfl, ?_⟩
 have e1 : actE S o = 0 := by unfold actE; rw [if_pos hk1, hg]; rfl
 have e2 : l73 = actS S o := by unfold actS; rw [if_pos hk1, hg, if_neg (by decide), ← insw_split, hl74, hl52, hl25]; simp only [List.nil_append, List.append_assoc]
 rw [e2] at H84 hO67
 rw [e1]
 exact ⟨_, _, rfl, K0.mono (fun i _ h => .inl h), H84, own_base hO67 hbw, fun i hi => .inr (World.ownsRow.lt hO67 i hi).1⟩
set_option maxHeartbeats 2000000 in
theorem Ract_twice (w : World) (base r : Nat) (A : Option Addr) (c : Nat) (S : List RowM) (B : Option Addr) (d : Nat) (K : List KeptM) (o : Opm) (Hr : Has w r (rowL [.slice A S.length c, .slice B K.length d] 55)) (hO : OwnT w base 98 2 RowM.cells (.slice A S.length c) S) (hP : OwnT w base 101 10 kref (.slice B K.length d) K) (hne : ∀ i, (Value.slice A S.length c).ownBlock = some i → i ≠ r) (hne2 : ∀ i, (Value.slice B K.length d).ownBlock = some i → i ≠ r) (hnn : ∀ i, (Value.slice A S.length c).ownBlock = some i → (Value.slice B K.length d).ownBlock = some i → False) (hS : Led S) (hbw : base ≤ w.heap.size) (hk : 1 ≤ o.kind ∧ o.kind ≤ 4) (hr : -9223372036854775808 ≤ o.amount ∧ o.amount ≤ 9223372036854775807) (ha : o.kind ≠ 1 → 1 ≤ o.amount) (h4 : o.kind = 4 → o.frm ≠ o.to) (hSl : S.length ≤ 1000) (hk1 : o.kind = 1) (a : RowM) (hg : getW S o.frm = some a) : Calls Tryd.prog 41 ⟨[(ptr r), (agg (Opm.cells o))]⟩ w (fun e w' => ∃ A' c', e = .returned (i64 (actE S o)) ∧ Keeps (fun i => i = r ∨ (Value.slice A S.length c).ownBlock = some i) w w' ∧ Has w' r (rowL [.slice A' (actS S o).length c', .slice B K.length d] 55) ∧ OwnT w' base 98 2 RowM.cells (.slice A' (actS S o).length c') (actS S o) ∧ (∀ i, (Value.slice A' (actS S o).length c').ownBlock = some i → (Value.slice A S.length c).ownBlock = some i ∨ w.heap.size ≤ i)) := by
 have hR := OwnT.rd hO
 have hQ := OwnT.rd hP
 have Hrl := Hr.lt
 have hcap := RdT.len RowM.two (by decide) hR
 have hcapk := RdT.len kref10 (by decide) hQ
 unfold maxLen at hcap hcapk
 have hfs := findw_some hS hg
 have hf2 := hfs.2
 have hfl := (List.getElem?_eq_some_iff.1 hf2).1
 have hao := hS.ok a (getW_some hg).1
 have hal := hao.lo
 have hah := hao.hi
 have hnm := (getW_some hg).2
 have K0 : Keeps none_ w w := Keeps.refl w
 refine q_calls Tryd.func41 (by kernel_rfl) (by kernel_rfl) ?_
 refine qsg ?_
 refine onew (rowL (Opm.cells o) 24) (fun b => (ptr b)) 3 (fun b => rfl) (fun b1 w2 hb3 H4 K5 hs6 => ?_)
 have lb1r : r < b1 := by have := Hr.lt; omega
 have nb1 : w.heap.size ≤ b1 := by have := K0.size; omega
 replace K0 := K0.t0 K5
 replace Hr := Hr.kn K5
 replace hO := own_keep0 hO K5
 replace hP := own_keep0 hP K5
 clear K5 hs6
 refine odz 1 ?_
 refine qsg ?_
 refine og 2 [(0, ptr r), (3, ptr b1), (4, i64 0), (11, ptr r), (12, .pointer (some ⟨b1, 1, none⟩))] 2 ?_
 refine ogo (Value.string (str o.frm)) 13 (rld 9 b1 1 H4) rfl ?_
 refine ocQ 14 (Rfind_calls _ r A c S B d K o.frm Hr (OwnT.rd hO) (OwnT.rd hP)) ?_
 rintro _ w10 ⟨rfl, K9⟩
 refine ⟨_, _, rfl, rfl, ?_⟩
 replace K0 := K0.t0 K9
 replace Hr := Hr.kn K9
 replace H4 := H4.kn K9
 replace hO := own_keep0 hO K9
 clear K9
 refine odz 5 ?_
 refine qs ?_
 refine qsg ?_
 refine og 1 [(0, ptr r), (3, ptr b1), (4, i64 0), (5, i64 ↑(posW S o.frm)), (6, .bool (hasW S o.frm)), (17, ptr b1)] 1 ?_
 refine ogo (i64 o.kind) 18 (rld 3 b1 0 H4) rfl ?_
 refine ogd 1 [(0, ptr r), (3, ptr b1), (4, i64 0), (5, i64 ↑(posW S o.frm)), (6, .bool (hasW S o.frm)), (19, .bool (o.kind == 1))] ?_
 have h11 : (o.kind == 1) = true := beq_iff_eq.2 (by omega)
 rw [h11]
 refine q_then (o := .tmp 19) (by kernel_rfl) rfl ?_
 refine qs ?_
 refine qsg ?_
 refine ogd 1 [(0, ptr r), (3, ptr b1), (4, i64 0), (5, i64 ↑(posW S o.frm)), (6, .bool (hasW S o.frm)), (20, .bool (hasW S o.frm))] ?_
 have h12 : (hasW S o.frm) = true := hfs.1
 rw [h12]
 refine q_then (o := .tmp 20) (by kernel_rfl) rfl ?_
 refine qsg ?_
 refine ogd 1 [(0, ptr r), (3, ptr b1), (4, i64 41), (5, i64 ↑(posW S o.frm)), (6, .bool true)] ?_
 refine qtQ ?_
 refine ⟨(i64 41), retv_tmp rfl rfl, ?_⟩
 have e1 : actE S o = 41 := by unfold actE; rw [if_pos hk1, hg]; rfl
 have e2 : actS S o = S := act_refused (by rw [e1]; decide)
 rw [e1, e2]
 exact ⟨A, c, rfl, K0.mono fun _ _ h => h.elim, Hr, hO, fun i h => .inl h⟩
set_option maxHeartbeats 2000000 in
theorem Ract_no (w : World) (base r : Nat) (A : Option Addr) (c : Nat) (S : List RowM) (B : Option Addr) (d : Nat) (K : List KeptM) (o : Opm) (Hr : Has w r (rowL [.slice A S.length c, .slice B K.length d] 55)) (hO : OwnT w base 98 2 RowM.cells (.slice A S.length c) S) (hP : OwnT w base 101 10 kref (.slice B K.length d) K) (hne : ∀ i, (Value.slice A S.length c).ownBlock = some i → i ≠ r) (hne2 : ∀ i, (Value.slice B K.length d).ownBlock = some i → i ≠ r) (hnn : ∀ i, (Value.slice A S.length c).ownBlock = some i → (Value.slice B K.length d).ownBlock = some i → False) (hS : Led S) (hbw : base ≤ w.heap.size) (hk : 1 ≤ o.kind ∧ o.kind ≤ 4) (hr : -9223372036854775808 ≤ o.amount ∧ o.amount ≤ 9223372036854775807) (ha : o.kind ≠ 1 → 1 ≤ o.amount) (h4 : o.kind = 4 → o.frm ≠ o.to) (hSl : S.length ≤ 1000) (hk1 : o.kind ≠ 1) (hg : getW S o.frm = none) : Calls Tryd.prog 41 ⟨[(ptr r), (agg (Opm.cells o))]⟩ w (fun e w' => ∃ A' c', e = .returned (i64 (actE S o)) ∧ Keeps (fun i => i = r ∨ (Value.slice A S.length c).ownBlock = some i) w w' ∧ Has w' r (rowL [.slice A' (actS S o).length c', .slice B K.length d] 55) ∧ OwnT w' base 98 2 RowM.cells (.slice A' (actS S o).length c') (actS S o) ∧ (∀ i, (Value.slice A' (actS S o).length c').ownBlock = some i → (Value.slice A S.length c).ownBlock = some i ∨ w.heap.size ≤ i)) := by
 have hR := OwnT.rd hO
 have hQ := OwnT.rd hP
 have Hrl := Hr.lt
 have hcap := RdT.len RowM.two (by decide) hR
 have hcapk := RdT.len kref10 (by decide) hQ
 unfold maxLen at hcap hcapk
 have hfn := findw_none hg
 have K0 : Keeps none_ w w := Keeps.refl w
 refine q_calls Tryd.func41 (by kernel_rfl) (by kernel_rfl) ?_
 refine qsg ?_
 refine onew (rowL (Opm.cells o) 24) (fun b => (ptr b)) 3 (fun b => rfl) (fun b1 w2 hb3 H4 K5 hs6 => ?_)
 have lb1r : r < b1 := by have := Hr.lt; omega
 have nb1 : w.heap.size ≤ b1 := by have := K0.size; omega
 replace K0 := K0.t0 K5
 replace Hr := Hr.kn K5
 replace hO := own_keep0 hO K5
 replace hP := own_keep0 hP K5
 clear K5 hs6
 refine odz 1 ?_
 refine qsg ?_
 refine og 2 [(0, ptr r), (3, ptr b1), (4, i64 0), (11, ptr r), (12, .pointer (some ⟨b1, 1, none⟩))] 2 ?_
 refine ogo (Value.string (str o.frm)) 13 (rld 9 b1 1 H4) rfl ?_
 refine ocQ 14 (Rfind_calls _ r A c S B d K o.frm Hr (OwnT.rd hO) (OwnT.rd hP)) ?_
 rintro _ w10 ⟨rfl, K9⟩
 refine ⟨_, _, rfl, rfl, ?_⟩
 replace K0 := K0.t0 K9
 replace Hr := Hr.kn K9
 replace H4 := H4.kn K9
 replace hO := own_keep0 hO K9
 clear K9
 refine odz 5 ?_
 refine qs ?_
 refine qsg ?_
 refine og 1 [(0, ptr r), (3, ptr b1), (4, i64 0), (5, i64 ↑(posW S o.frm)), (6, .bool (hasW S o.frm)), (17, ptr b1)] 1 ?_
 refine ogo (i64 o.kind) 18 (rld 3 b1 0 H4) rfl ?_
 refine ogd 1 [(0, ptr r), (3, ptr b1), (4, i64 0), (5, i64 ↑(posW S o.frm)), (6, .bool (hasW S o.frm)), (19, .bool (o.kind == 1))] ?_
 have h11 : (o.kind == 1) = false := beq_eq_false_iff_ne.2 hk1
 rw [h11]
 refine q_else (o := .tmp 19) (by kernel_rfl) rfl ?_
 refine qkQ ?_
 refine qs ?_
 refine qsg ?_
 refine ogd 2 [(0, ptr r), (3, ptr b1), (4, i64 0), (5, i64 ↑(posW S o.frm)), (48, (Value.bool (!(hasW S o.frm))))] ?_
 have h12 : (!(hasW S o.frm)) = true := by rw [show (hasW S o.frm) = false from hfn]; rfl
 rw [h12]
 refine q_then (o := .tmp 48) (by kernel_rfl) rfl ?_
 refine qsg ?_
 refine ogd 1 [(0, ptr r), (3, ptr b1), (4, i64 40), (5, i64 ↑(posW S o.frm))] ?_
 refine qtQ ?_
 refine ⟨(i64 40), retv_tmp rfl rfl, ?_⟩
 have e1 : actE S o = 40 := by unfold actE; rw [if_neg hk1, hg]
 have e2 : actS S o = S := act_refused (by rw [e1]; decide)
 rw [e1, e2]
 exact ⟨A, c, rfl, K0.mono fun _ _ h => h.elim, Hr, hO, fun i h => .inl h⟩
set_option maxHeartbeats 2000000 in
theorem Ract_two (w : World) (base r : Nat) (A : Option Addr) (c : Nat) (S : List RowM) (B : Option Addr) (d : Nat) (K : List KeptM) (o : Opm) (Hr : Has w r (rowL [.slice A S.length c, .slice B K.length d] 55)) (hO : OwnT w base 98 2 RowM.cells (.slice A S.length c) S) (hP : OwnT w base 101 10 kref (.slice B K.length d) K) (hne : ∀ i, (Value.slice A S.length c).ownBlock = some i → i ≠ r) (hne2 : ∀ i, (Value.slice B K.length d).ownBlock = some i → i ≠ r) (hnn : ∀ i, (Value.slice A S.length c).ownBlock = some i → (Value.slice B K.length d).ownBlock = some i → False) (hS : Led S) (hbw : base ≤ w.heap.size) (hk : 1 ≤ o.kind ∧ o.kind ≤ 4) (hr : -9223372036854775808 ≤ o.amount ∧ o.amount ≤ 9223372036854775807) (ha : o.kind ≠ 1 → 1 ≤ o.amount) (h4 : o.kind = 4 → o.frm ≠ o.to) (hSl : S.length ≤ 1000) (hk2 : o.kind = 2) (a : RowM) (hg : getW S o.frm = some a) : Calls Tryd.prog 41 ⟨[(ptr r), (agg (Opm.cells o))]⟩ w (fun e w' => ∃ A' c', e = .returned (i64 (actE S o)) ∧ Keeps (fun i => i = r ∨ (Value.slice A S.length c).ownBlock = some i) w w' ∧ Has w' r (rowL [.slice A' (actS S o).length c', .slice B K.length d] 55) ∧ OwnT w' base 98 2 RowM.cells (.slice A' (actS S o).length c') (actS S o) ∧ (∀ i, (Value.slice A' (actS S o).length c').ownBlock = some i → (Value.slice A S.length c).ownBlock = some i ∨ w.heap.size ≤ i)) := by
 have hR := OwnT.rd hO
 have hQ := OwnT.rd hP
 have Hrl := Hr.lt
 have hcap := RdT.len RowM.two (by decide) hR
 have hcapk := RdT.len kref10 (by decide) hQ
 unfold maxLen at hcap hcapk
 have hfs := findw_some hS hg
 have hf2 := hfs.2
 have hfl := (List.getElem?_eq_some_iff.1 hf2).1
 have hao := hS.ok a (getW_some hg).1
 have hal := hao.lo
 have hah := hao.hi
 have hnm := (getW_some hg).2
 obtain ⟨gb, cur, hA, hgb, Hg, hcl, hca, hput⟩ := OwnT.open RowM.two (by decide) hf2 hO
 have c1 : cur[posW S o.frm * 2 + 1]? = some (i64 a.amount) := hca 1 _ rfl
 have hgr : gb ≠ r := hne gb (by rw [hA]; rfl)
 have Hgl := Hg.lt
 have K0 : Keeps (fun i => i = gb) w w := (Keeps.refl w).mono (fun _ _ h => h.elim)
 refine q_calls Tryd.func41 (by kernel_rfl) (by kernel_rfl) ?_
 refine qsg ?_
 refine onew (rowL (Opm.cells o) 24) (fun b => (ptr b)) 3 (fun b => rfl) (fun b1 w2 hb3 H4 K5 hs6 => ?_)
 have lb1r : r < b1 := by have := Hr.lt; omega
 have lb1gb : gb < b1 := by have := Hg.lt; omega
 have nb1 : w.heap.size ≤ b1 := by have := K0.size; omega
 replace K0 := K0.tn K5
 replace Hr := Hr.kn K5
 replace Hg := Hg.kn K5
 replace hO := own_keep0 hO K5
 replace hP := own_keep0 hP K5
 clear K5 hs6
 refine odz 1 ?_
 refine qsg ?_
 refine og 2 [(0, ptr r), (3, ptr b1), (4, i64 0), (11, ptr r), (12, .pointer (some ⟨b1, 1, none⟩))] 2 ?_
 refine ogo (Value.string (str o.frm)) 13 (rld 9 b1 1 H4) rfl ?_
 refine ocQ 14 (Rfind_calls _ r A c S B d K o.frm Hr (OwnT.rd hO) (OwnT.rd hP)) ?_
 rintro _ w10 ⟨rfl, K9⟩
 refine ⟨_, _, rfl, rfl, ?_⟩
 replace K0 := K0.tn K9
 replace Hr := Hr.kn K9
 replace Hg := Hg.kn K9
 replace H4 := H4.kn K9
 replace hO := own_keep0 hO K9
 clear K9
 refine odz 5 ?_
 refine qs ?_
 refine qsg ?_
 refine og 1 [(0, ptr r), (3, ptr b1), (4, i64 0), (5, i64 ↑(posW S o.frm)), (6, .bool (hasW S o.frm)), (17, ptr b1)] 1 ?_
 refine ogo (i64 o.kind) 18 (rld 3 b1 0 H4) rfl ?_
 refine ogd 1 [(0, ptr r), (3, ptr b1), (4, i64 0), (5, i64 ↑(posW S o.frm)), (6, .bool (hasW S o.frm)), (19, .bool (o.kind == 1))] ?_
 have h11 : (o.kind == 1) = false := beq_eq_false_iff_ne.2 (by omega)
 rw [h11]
 refine q_else (o := .tmp 19) (by kernel_rfl) rfl ?_
 refine qkQ ?_
 refine qs ?_
 refine qsg ?_
 refine ogd 2 [(0, ptr r), (3, ptr b1), (4, i64 0), (5, i64 ↑(posW S o.frm)), (48, (Value.bool (!(hasW S o.frm))))] ?_
 have h12 : (!(hasW S o.frm)) = false := by rw [show (hasW S o.frm) = true from hfs.1]; rfl
 rw [h12]
 refine q_else (o := .tmp 48) (by kernel_rfl) rfl ?_
 refine qkQ ?_
 refine qs ?_
 refine qsg ?_
 refine og 1 [(0, ptr r), (3, ptr b1), (4, i64 0), (5, i64 ↑(posW S o.frm)), (49, ptr b1)] 1 ?_
 refine ogo (i64 o.kind) 50 (rld 3 b1 0 H4) rfl ?_
 refine ogd 1 [(0, ptr r), (3, ptr b1), (4, i64 0), (5, i64 ↑(posW S o.frm)), (51, .bool (o.kind == 2))] ?_
 have h13 : (o.kind == 2) = true := beq_iff_eq.2 (by omega)
 rw [h13]
 refine q_then (o := .tmp 51) (by kernel_rfl) rfl ?_
 refine qs ?_
 refine qs ?_
 refine q_draw (fun wz => Keeps none_ w10 wz) 12 (by kernel_rfl) (by kernel_rfl) (by kernel_rfl) (fun w14 K15 _ _ => ⟨K15, ?_⟩)
 replace K0 := K0.tn K15
 replace Hr := Hr.kn K15
 replace Hg := Hg.kn K15
 replace H4 := H4.kn K15
 replace hO := own_keep0 hO K15
 refine Dr.strong (S' := (fun wz => Keeps none_ w14 wz)) (Keeps.refl w14) (fun wz hx => K15.trans hx (fun i _ h => h) (fun _ _ h => h)) ?_
 refine dkQ 11 [0] [(0, ptr r), (3, ptr b1), (4, i64 0), (5, i64 ↑(posW S o.frm)), (52, .pointer (some ⟨b1, 3, none⟩))] ?_
 refine dtQ 1 (i64 o.amount) 53 (fun wz hS => rld 2 b1 3 (H4.keep hS (fun h => h))) rfl ?_
 refine dkQ 7 [2, 3, 4] [(0, ptr r), (3, ptr b1), (4, i64 0), (5, i64 ↑(posW S o.frm)), (53, i64 o.amount), (56, ptr r)] ?_
 refine dtQ 5 (Value.slice A S.length c) 57 (fun wz hS => rld 26 r 0 (Hr.keep hS (fun h => h))) rfl ?_
 refine dkQ 5 [6] [(0, ptr r), (3, ptr b1), (4, i64 0), (5, i64 ↑(posW S o.frm)), (53, i64 o.amount), (57, .slice A S.length c), (58, i64 ↑(posW S o.frm))] ?_
 refine dtQ 7 (Value.pointer (some ⟨gb, (posW S o.frm) * 2, none⟩)) 59 (fun wz hS => Runs.ixSliceE (k := IntKind.i64) (t := 26) (len := S.length) (cap := c) (s := 2) (off' := (posW S o.frm) * 2) (i := ((posW S o.frm : Nat) : Int)) hA (by kernel_rfl) (by kernel_rfl) (by omega) (by omega) (by omega)) rfl ?_
 refine dkQ 3 [8] [(0, ptr r), (3, ptr b1), (4, i64 0), (5, i64 ↑(posW S o.frm)), (53, i64 o.amount), (60, (Value.pointer (some ⟨gb, (posW S o.frm) * 2 + 1, none⟩)))] ?_
 refine dtQ 9 (i64 a.amount) 61 (fun wz hS => Runs.load (t := 2) (a := ⟨gb, (posW S o.frm) * 2 + 1, none⟩) (by kernel_rfl) ((Hg.keep hS (fun h => h)).loads (loadC1 (by kernel_rfl) c1))) rfl ?_
 refine dkQ 1 [10] [(0, ptr r), (3, ptr b1), (4, i64 0), (5, i64 ↑(posW S o.frm)), (53, i64 o.amount), (62, (i64 (IntKind.i64.wrap (9223372036854775807 - a.amount))))] ?_
 have e16 : IntKind.i64.wrap (9223372036854775807 - a.amount) = 9223372036854775807 - a.amount := wrap_i64 (by omega) (by omega)
 rw [e16]
 refine dkQ 0 [11] [(0, ptr r), (3, ptr b1), (4, i64 0), (5, i64 ↑(posW S o.frm)), (63, (Value.bool (decide (o.amount > 9223372036854775807 - a.amount))))] ?_
 refine Dr.done (by kernel_rfl) ?_
 refine qcQ 63 (decide (o.amount > 9223372036854775807 - a.amount)) rfl (fun h17 => ?_) (fun h17 => ?_)
 ·rw [h17]
  have p18 := of_decide_eq_true h17
  refine qsg ?_
  refine ogd 1 [(0, ptr r), (3, ptr b1), (4, i64 43), (5, i64 ↑(posW S o.frm))] ?_
  refine qtQ ?_
  refine ⟨(i64 43), retv_tmp rfl rfl, ?_⟩
  have e1 : actE S o = 43 := by unfold actE; rw [if_neg (by omega), hg]; simp only []; rw [if_pos hk2, if_pos (by omega)]
  have e2 : actS S o = S := act_refused (by rw [e1]; decide)
  rw [e1, e2]
  exact ⟨A, c, rfl, K0.mono fun i _ h => .inr (by rw [hA]; exact congrArg some (Eq.symm h)), Hr, hO, fun i h => .inl h⟩
 ·rw [h17]
  have p19 := of_decide_eq_false h17
  refine qkQ ?_
  refine qs ?_
  refine q_draw (fun wz => Keeps (fun i => i = gb) w14 wz) 19 (by kernel_rfl) (by kernel_rfl) (by kernel_rfl) (fun w20 K21 _ _ => ⟨(K21.mono (fun _ _ h => h.elim)), ?_⟩)
  replace K0 := K0.tn K21
  replace Hr := Hr.kn K21
  replace Hg := Hg.kn K21
  replace H4 := H4.kn K21
  refine Dr.strong (S' := (fun wz => Keeps (fun i => i = gb) w20 wz)) ((Keeps.refl w20).mono (fun _ _ h => h.elim)) (fun wz hx => K21.trans hx (fun i _ h => h.elim) (fun _ _ h => h)) ?_
  refine dkQ 16 [0, 1, 2] [(0, ptr r), (3, ptr b1), (4, i64 0), (5, i64 ↑(posW S o.frm)), (66, ptr r)] ?_
  refine dtQ 3 (Value.slice A S.length c) 67 (fun wz hS => rld 26 r 0 (Hr.keep hS (by intro h; change r = gb at h; omega))) rfl ?_
  refine dkQ 11 [4, 5, 6, 7] [(0, ptr r), (3, ptr b1), (4, i64 0), (5, i64 ↑(posW S o.frm)), (67, .slice A S.length c), (68, i64 ↑(posW S o.frm)), (71, ptr r)] ?_
  refine dtQ 8 (Value.slice A S.length c) 72 (fun wz hS => rld 26 r 0 (Hr.keep hS (by intro h; change r = gb at h; omega))) rfl ?_
  refine dkQ 9 [9] [(0, ptr r), (3, ptr b1), (4, i64 0), (5, i64 ↑(posW S o.frm)), (67, .slice A S.length c), (68, i64 ↑(posW S o.frm)), (72, .slice A S.length c), (73, i64 ↑(posW S o.frm))] ?_
  refine dtQ 10 (Value.pointer (some ⟨gb, (posW S o.frm) * 2, none⟩)) 74 (fun wz hS => Runs.ixSliceE (k := IntKind.i64) (t := 26) (len := S.length) (cap := c) (s := 2) (off' := (posW S o.frm) * 2) (i := ((posW S o.frm : Nat) : Int)) hA (by kernel_rfl) (by kernel_rfl) (by omega) (by omega) (by omega)) rfl ?_
  refine dkQ 6 [11, 13] [(0, ptr r), (3, ptr b1), (4, i64 0), (5, i64 ↑(posW S o.frm)), (67, .slice A S.length c), (68, i64 ↑(posW S o.frm)), (75, (Value.pointer (some ⟨gb, (posW S o.frm) * 2 + 1, none⟩))), (77, .pointer (some ⟨b1, 3, none⟩))] ?_
  refine dtQ 14 (i64 o.amount) 78 (fun wz hS => rld 2 b1 3 (H4.keep hS (by intro h; change b1 = gb at h; omega))) rfl ?_
  refine Dr.go (i := 12) (v := (i64 a.amount)) (by kernel_rfl) (by kernel_rfl) (Runs.load (t := 2) (a := ⟨gb, (posW S o.frm) * 2 + 1, none⟩) (by kernel_rfl) (Hg.loads (loadC1 (by kernel_rfl) c1))) (d := (some 76)) (by kernel_rfl) rfl ((Keeps.refl _).mono (fun _ _ h => h.elim)) ?_
  refine dkQ 3 [15] [(0, ptr r), (3, ptr b1), (4, i64 0), (5, i64 ↑(posW S o.frm)), (67, .slice A S.length c), (68, i64 ↑(posW S o.frm)), (79, (i64 (IntKind.i64.wrap (a.amount + o.amount))))] ?_
  have e22 : IntKind.i64.wrap (a.amount + o.amount) = a.amount + o.amount := wrap_i64 (by omega) (by omega)
  rw [e22]
  refine dtQ 16 (Value.pointer (some ⟨gb, (posW S o.frm) * 2, none⟩)) 80 (fun wz hS => Runs.ixSliceE (k := IntKind.i64) (t := 26) (len := S.length) (cap := c) (s := 2) (off' := (posW S o.frm) * 2) (i := ((posW S o.frm : Nat) : Int)) hA (by kernel_rfl) (by kernel_rfl) (by omega) (by omega) (by omega)) rfl ?_
  refine dkQ 1 [17] [(0, ptr r), (3, ptr b1), (4, i64 0), (5, i64 ↑(posW S o.frm)), (79, (i64 (a.amount + o.amount))), (81, (Value.pointer (some ⟨gb, (posW S o.frm) * 2 + 1, none⟩)))] ?_
  refine Dr.put (i := 18) (t := 2) (b := gb) (off := (posW S o.frm) * 2 + 1) (v := (i64 (a.amount + o.amount))) (ys := (cur.set ((posW S o.frm) * 2 + 1) (i64 (a.amount + o.amount)))) (by kernel_rfl) (by kernel_rfl) (by kernel_rfl) Hg (storeC1 (by kernel_rfl) rfl (by first | omega | (simp only [List.length_set]; omega)) rfl) (d := none) (by kernel_rfl) rfl (fun w23 H24 K25 => ?_)
  clear Hg
  replace K0 := K0.t1 K25 (fun _ => rfl)
  replace Hr := Hr.k1 K25 (by omega)
  clear hO
  refine ⟨K25, ?_⟩
  refine Dr.strong (S' := (fun wz => Keeps (fun i => i = gb) w23 wz)) ((Keeps.refl w23).mono (fun _ _ h => h.elim)) (fun wz hx => K25.trans hx (fun i _ h => by have h : i = gb := h; show i = gb; omega) (fun _ _ h => h)) ?_
  refine Dr.done (by kernel_rfl) ?_
  refine qsg ?_
  refine ogd 1 [(0, ptr r), (3, ptr b1), (4, i64 0), (5, i64 ↑(posW S o.frm))] ?_
  refine qtQ ?_
  refine ⟨(i64 0), retv_tmp rfl rfl, ?_⟩
  have e1 : actE S o = 0 := by unfold actE; rw [if_neg (by omega), hg]; simp only []; rw [if_pos hk2, if_neg (by omega)]
  have e2 : actS S o = S.set (posW S o.frm) ⟨o.frm, a.amount + o.amount⟩ := by unfold actS; rw [if_neg (by omega), hg]; simp only []; rw [if_pos hk2, if_neg (by omega)]; exact setw_at hS hg _
  have hq := hput 1 (i64 (a.amount + o.amount)) ⟨o.frm, a.amount + o.amount⟩ (by decide) (by rw [← hnm]; rfl) _ H24
  rw [e1, e2, List.length_set]
  exact ⟨A, c, rfl, K0.mono fun i _ h => .inr (by rw [hA]; exact congrArg some (Eq.symm h)), Hr, hq, fun i h => .inl h⟩
set_option maxHeartbeats 2000000 in
theorem Ract_three (w : World) (base r : Nat) (A : Option Addr) (c : Nat) (S : List RowM) (B : Option Addr) (d : Nat) (K : List KeptM) (o : Opm) (Hr : Has w r (rowL [.slice A S.length c, .slice B K.length d] 55)) (hO : OwnT w base 98 2 RowM.cells (.slice A S.length c) S) (hP : OwnT w base 101 10 kref (.slice B K.length d) K) (hne : ∀ i, (Value.slice A S.length c).ownBlock = some i → i ≠ r) (hne2 : ∀ i, (Value.slice B K.length d).ownBlock = some i → i ≠ r) (hnn : ∀ i, (Value.slice A S.length c).ownBlock = some i → (Value.slice B K.length d).ownBlock = some i → False) (hS : Led S) (hbw : base ≤ w.heap.size) (hk : 1 ≤ o.kind ∧ o.kind ≤ 4) (hr : -9223372036854775808 ≤ o.amount ∧ o.amount ≤ 9223372036854775807) (ha : o.kind ≠ 1 → 1 ≤ o.amount) (h4 : o.kind = 4 → o.frm ≠ o.to) (hSl : S.length ≤ 1000) (hk3 : o.kind = 3) (a : RowM) (hg : getW S o.frm = some a) : Calls Tryd.prog 41 ⟨[(ptr r), (agg (Opm.cells o))]⟩ w (fun e w' => ∃ A' c', e = .returned (i64 (actE S o)) ∧ Keeps (fun i => i = r ∨ (Value.slice A S.length c).ownBlock = some i) w w' ∧ Has w' r (rowL [.slice A' (actS S o).length c', .slice B K.length d] 55) ∧ OwnT w' base 98 2 RowM.cells (.slice A' (actS S o).length c') (actS S o) ∧ (∀ i, (Value.slice A' (actS S o).length c').ownBlock = some i → (Value.slice A S.length c).ownBlock = some i ∨ w.heap.size ≤ i)) := by
 have hR := OwnT.rd hO
 have hQ := OwnT.rd hP
 have Hrl := Hr.lt
 have hcap := RdT.len RowM.two (by decide) hR
 have hcapk := RdT.len kref10 (by decide) hQ
 unfold maxLen at hcap hcapk
 have hfs := findw_some hS hg
 have hf2 := hfs.2
 have hfl := (List.getElem?_eq_some_iff.1 hf2).1
 have hao := hS.ok a (getW_some hg).1
 have hal := hao.lo
 have hah := hao.hi
 have hnm := (getW_some hg).2
 obtain ⟨gb, cur, hA, hgb, Hg, hcl, hca, hput⟩ := OwnT.open RowM.two (by decide) hf2 hO
 have c1 : cur[posW S o.frm * 2 + 1]? = some (i64 a.amount) := hca 1 _ rfl
 have hgr : gb ≠ r := hne gb (by rw [hA]; rfl)
 have Hgl := Hg.lt
 have K0 : Keeps (fun i => i = gb) w w := (Keeps.refl w).mono (fun _ _ h => h.elim)
 refine q_calls Tryd.func41 (by kernel_rfl) (by kernel_rfl) ?_
 refine qsg ?_
 refine onew (rowL (Opm.cells o) 24) (fun b => (ptr b)) 3 (fun b => rfl) (fun b1 w2 hb3 H4 K5 hs6 => ?_)
 have lb1r : r < b1 := by have := Hr.lt; omega
 have lb1gb : gb < b1 := by have := Hg.lt; omega
 have nb1 : w.heap.size ≤ b1 := by have := K0.size; omega
 replace K0 := K0.tn K5
 replace Hr := Hr.kn K5
 replace Hg := Hg.kn K5
 replace hO := own_keep0 hO K5
 replace hP := own_keep0 hP K5
 clear K5 hs6
 refine odz 1 ?_
 refine qsg ?_
 refine og 2 [(0, ptr r), (3, ptr b1), (4, i64 0), (11, ptr r), (12, .pointer (some ⟨b1, 1, none⟩))] 2 ?_
 refine ogo (Value.string (str o.frm)) 13 (rld 9 b1 1 H4) rfl ?_
 refine ocQ 14 (Rfind_calls _ r A c S B d K o.frm Hr (OwnT.rd hO) (OwnT.rd hP)) ?_
 rintro _ w10 ⟨rfl, K9⟩
 refine ⟨_, _, rfl, rfl, ?_⟩
 replace K0 := K0.tn K9
 replace Hr := Hr.kn K9
 replace Hg := Hg.kn K9
 replace H4 := H4.kn K9
 replace hO := own_keep0 hO K9
 clear K9
 refine odz 5 ?_
 refine qs ?_
 refine qsg ?_
 refine og 1 [(0, ptr r), (3, ptr b1), (4, i64 0), (5, i64 ↑(posW S o.frm)), (6, .bool (hasW S o.frm)), (17, ptr b1)] 1 ?_
 refine ogo (i64 o.kind) 18 (rld 3 b1 0 H4) rfl ?_
 refine ogd 1 [(0, ptr r), (3, ptr b1), (4, i64 0), (5, i64 ↑(posW S o.frm)), (6, .bool (hasW S o.frm)), (19, .bool (o.kind == 1))] ?_
 have h11 : (o.kind == 1) = false := beq_eq_false_iff_ne.2 (by omega)
 rw [h11]
 refine q_else (o := .tmp 19) (by kernel_rfl) rfl ?_
 refine qkQ ?_
 refine qs ?_
 refine qsg ?_
 refine ogd 2 [(0, ptr r), (3, ptr b1), (4, i64 0), (5, i64 ↑(posW S o.frm)), (48, (Value.bool (!(hasW S o.frm))))] ?_
 have h12 : (!(hasW S o.frm)) = false := by rw [show (hasW S o.frm) = true from hfs.1]; rfl
 rw [h12]
 refine q_else (o := .tmp 48) (by kernel_rfl) rfl ?_
 refine qkQ ?_
 refine qs ?_
 refine qsg ?_
 refine og 1 [(0, ptr r), (3, ptr b1), (4, i64 0), (5, i64 ↑(posW S o.frm)), (49, ptr b1)] 1 ?_
 refine ogo (i64 o.kind) 50 (rld 3 b1 0 H4) rfl ?_
 refine ogd 1 [(0, ptr r), (3, ptr b1), (4, i64 0), (5, i64 ↑(posW S o.frm)), (51, .bool (o.kind == 2))] ?_
 have h13 : (o.kind == 2) = false := beq_eq_false_iff_ne.2 (by omega)
 rw [h13]
 refine q_else (o := .tmp 51) (by kernel_rfl) rfl ?_
 refine qkQ ?_
 refine qs ?_
 refine qs ?_
 refine q_draw (fun wz => Keeps none_ w10 wz) 11 (by kernel_rfl) (by kernel_rfl) (by kernel_rfl) (fun w14 K15 _ _ => ⟨K15, ?_⟩)
 replace K0 := K0.tn K15
 replace Hr := Hr.kn K15
 replace Hg := Hg.kn K15
 replace H4 := H4.kn K15
 replace hO := own_keep0 hO K15
 refine Dr.strong (S' := (fun wz => Keeps none_ w14 wz)) (Keeps.refl w14) (fun wz hx => K15.trans hx (fun i _ h => h) (fun _ _ h => h)) ?_
 refine dkQ 10 [0] [(0, ptr r), (3, ptr b1), (4, i64 0), (5, i64 ↑(posW S o.frm)), (82, .pointer (some ⟨b1, 3, none⟩))] ?_
 refine dtQ 1 (i64 o.amount) 83 (fun wz hS => rld 2 b1 3 (H4.keep hS (fun h => h))) rfl ?_
 refine dkQ 6 [2, 3, 4] [(0, ptr r), (3, ptr b1), (4, i64 0), (5, i64 ↑(posW S o.frm)), (83, i64 o.amount), (86, ptr r)] ?_
 refine dtQ 5 (Value.slice A S.length c) 87 (fun wz hS => rld 26 r 0 (Hr.keep hS (fun h => h))) rfl ?_
 refine dkQ 4 [6] [(0, ptr r), (3, ptr b1), (4, i64 0), (5, i64 ↑(posW S o.frm)), (83, i64 o.amount), (87, .slice A S.length c), (88, i64 ↑(posW S o.frm))] ?_
 refine dtQ 7 (Value.pointer (some ⟨gb, (posW S o.frm) * 2, none⟩)) 89 (fun wz hS => Runs.ixSliceE (k := IntKind.i64) (t := 26) (len := S.length) (cap := c) (s := 2) (off' := (posW S o.frm) * 2) (i := ((posW S o.frm : Nat) : Int)) hA (by kernel_rfl) (by kernel_rfl) (by omega) (by omega) (by omega)) rfl ?_
 refine dkQ 2 [8] [(0, ptr r), (3, ptr b1), (4, i64 0), (5, i64 ↑(posW S o.frm)), (83, i64 o.amount), (90, (Value.pointer (some ⟨gb, (posW S o.frm) * 2 + 1, none⟩)))] ?_
 refine dtQ 9 (i64 a.amount) 91 (fun wz hS => Runs.load (t := 2) (a := ⟨gb, (posW S o.frm) * 2 + 1, none⟩) (by kernel_rfl) ((Hg.keep hS (fun h => h)).loads (loadC1 (by kernel_rfl) c1))) rfl ?_
 refine dkQ 0 [10] [(0, ptr r), (3, ptr b1), (4, i64 0), (5, i64 ↑(posW S o.frm)), (92, (Value.bool (decide (o.amount > a.amount))))] ?_
 refine Dr.done (by kernel_rfl) ?_
 refine qcQ 92 (decide (o.amount > a.amount)) rfl (fun h16 => ?_) (fun h16 => ?_)
 ·rw [h16]
  have p17 := of_decide_eq_true h16
  refine qsg ?_
  refine ogd 1 [(0, ptr r), (3, ptr b1), (4, i64 42), (5, i64 ↑(posW S o.frm))] ?_
  refine qtQ ?_
  refine ⟨(i64 42), retv_tmp rfl rfl, ?_⟩
  have e1 : actE S o = 42 := by unfold actE; rw [if_neg (by omega), hg]; simp only []; rw [if_neg (by omega), if_pos (by omega)]
  have e2 : actS S o = S := act_refused (by rw [e1]; decide)
  rw [e1, e2]
  exact ⟨A, c, rfl, K0.mono fun i _ h => .inr (by rw [hA]; exact congrArg some (Eq.symm h)), Hr, hO, fun i h => .inl h⟩
 ·rw [h16]
  have p18 := of_decide_eq_false h16
  refine qkQ ?_
  refine qs ?_
  refine qsg ?_
  refine og 1 [(0, ptr r), (3, ptr b1), (4, i64 0), (5, i64 ↑(posW S o.frm)), (93, ptr b1)] 1 ?_
  refine ogo (i64 o.kind) 94 (rld 3 b1 0 H4) rfl ?_
  refine ogd 1 [(0, ptr r), (3, ptr b1), (4, i64 0), (5, i64 ↑(posW S o.frm)), (95, .bool (o.kind == 4))] ?_
  have h19 : (o.kind == 4) = false := beq_eq_false_iff_ne.2 (by omega)
  rw [h19]
  refine q_else (o := .tmp 95) (by kernel_rfl) rfl ?_
  refine qkQ ?_
  refine qs ?_
  refine q_draw (fun wz => Keeps (fun i => i = gb) w14 wz) 19 (by kernel_rfl) (by kernel_rfl) (by kernel_rfl) (fun w20 K21 _ _ => ⟨(K21.mono (fun _ _ h => h.elim)), ?_⟩)
  replace K0 := K0.tn K21
  replace Hr := Hr.kn K21
  replace Hg := Hg.kn K21
  replace H4 := H4.kn K21
  refine Dr.strong (S' := (fun wz => Keeps (fun i => i = gb) w20 wz)) ((Keeps.refl w20).mono (fun _ _ h => h.elim)) (fun wz hx => K21.trans hx (fun i _ h => h.elim) (fun _ _ h => h)) ?_
  refine dkQ 16 [0, 1, 2] [(0, ptr r), (3, ptr b1), (4, i64 0), (5, i64 ↑(posW S o.frm)), (137, ptr r)] ?_
  refine dtQ 3 (Value.slice A S.length c) 138 (fun wz hS => rld 26 r 0 (Hr.keep hS (by intro h; change r = gb at h; omega))) rfl ?_
  refine dkQ 11 [4, 5, 6, 7] [(3, ptr b1), (4, i64 0), (5, i64 ↑(posW S o.frm)), (138, .slice A S.length c), (139, i64 ↑(posW S o.frm)), (142, ptr r)] ?_
  refine dtQ 8 (Value.slice A S.length c) 143 (fun wz hS => rld 26 r 0 (Hr.keep hS (by intro h; change r = gb at h; omega))) rfl ?_
  refine dkQ 9 [9] [(3, ptr b1), (4, i64 0), (138, .slice A S.length c), (139, i64 ↑(posW S o.frm)), (143, .slice A S.length c), (144, i64 ↑(posW S o.frm))] ?_
  refine dtQ 10 (Value.pointer (some ⟨gb, (posW S o.frm) * 2, none⟩)) 145 (fun wz hS => Runs.ixSliceE (k := IntKind.i64) (t := 26) (len := S.length) (cap := c) (s := 2) (off' := (posW S o.frm) * 2) (i := ((posW S o.frm : Nat) : Int)) hA (by kernel_rfl) (by kernel_rfl) (by omega) (by omega) (by omega)) rfl ?_
  refine dkQ 6 [11, 13] [(4, i64 0), (138, .slice A S.length c), (139, i64 ↑(posW S o.frm)), (146, (Value.pointer (some ⟨gb, (posW S o.frm) * 2 + 1, none⟩))), (148, .pointer (some ⟨b1, 3, none⟩))] ?_
  refine dtQ 14 (i64 o.amount) 149 (fun wz hS => rld 2 b1 3 (H4.keep hS (by intro h; change b1 = gb at h; omega))) rfl ?_
  refine Dr.go (i := 12) (v := (i64 a.amount)) (by kernel_rfl) (by kernel_rfl) (Runs.load (t := 2) (a := ⟨gb, (posW S o.frm) * 2 + 1, none⟩) (by kernel_rfl) (Hg.loads (loadC1 (by kernel_rfl) c1))) (d := (some 147)) (by kernel_rfl) rfl ((Keeps.refl _).mono (fun _ _ h => h.elim)) ?_
  refine dkQ 3 [15] [(4, i64 0), (138, .slice A S.length c), (139, i64 ↑(posW S o.frm)), (150, (i64 (IntKind.i64.wrap (a.amount - o.amount))))] ?_
  have e22 : IntKind.i64.wrap (a.amount - o.amount) = a.amount - o.amount := wrap_i64 (by omega) (by omega)
  rw [e22]
  refine dtQ 16 (Value.pointer (some ⟨gb, (posW S o.frm) * 2, none⟩)) 151 (fun wz hS => Runs.ixSliceE (k := IntKind.i64) (t := 26) (len := S.length) (cap := c) (s := 2) (off' := (posW S o.frm) * 2) (i := ((posW S o.frm : Nat) : Int)) hA (by kernel_rfl) (by kernel_rfl) (by omega) (by omega) (by omega)) rfl ?_
  refine dkQ 1 [17] [(4, i64 0), (150, (i64 (a.amount - o.amount))), (152, (Value.pointer (some ⟨gb, (posW S o.frm) * 2 + 1, none⟩)))] ?_
  refine Dr.put (i := 18) (t := 2) (b := gb) (off := (posW S o.frm) * 2 + 1) (v := (i64 (a.amount - o.amount))) (ys := (cur.set ((posW S o.frm) * 2 + 1) (i64 (a.amount - o.amount)))) (by kernel_rfl) (by kernel_rfl) (by kernel_rfl) Hg (storeC1 (by kernel_rfl) rfl (by first | omega | (simp only [List.length_set]; omega)) rfl) (d := none) (by kernel_rfl) rfl (fun w23 H24 K25 => ?_)
  clear Hg
  replace K0 := K0.t1 K25 (fun _ => rfl)
  replace Hr := Hr.k1 K25 (by omega)
  clear hO
  refine ⟨K25, ?_⟩
  refine Dr.strong (S' := (fun wz => Keeps (fun i => i = gb) w23 wz)) ((Keeps.refl w23).mono (fun _ _ h => h.elim)) (fun wz hx => K25.trans hx (fun i _ h => by have h : i = gb := h; show i = gb; omega) (fun _ _ h => h)) ?_
  refine Dr.done (by kernel_rfl) ?_
  refine qsg ?_
  refine ogd 1 [(4, i64 0)] ?_
  refine qtQ ?_
  refine ⟨(i64 0), retv_tmp rfl rfl, ?_⟩
  have e1 : actE S o = 0 := by unfold actE; rw [if_neg (by omega), hg]; simp only []; rw [if_neg (by omega), if_neg (by omega), if_neg (by omega)]
  have e2 : actS S o = S.set (posW S o.frm) ⟨o.frm, a.amount - o.amount⟩ := by unfold actS; rw [if_neg (by omega), hg]; simp only []; rw [if_neg (by omega), if_neg (by omega), if_neg (by omega)]; exact setw_at hS hg _
  have hq := hput 1 (i64 (a.amount - o.amount)) ⟨o.frm, a.amount - o.amount⟩ (by decide) (by rw [← hnm]; rfl) _ H24
  rw [e1, e2, List.length_set]
  exact ⟨A, c, rfl, K0.mono fun i _ h => .inr (by rw [hA]; exact congrArg some (Eq.symm h)), Hr, hq, fun i h => .inl h⟩
set_option maxHeartbeats 2000000 in
theorem Ract_four0 (w : World) (base r : Nat) (A : Option Addr) (c : Nat) (S : List RowM) (B : Option Addr) (d : Nat) (K : List KeptM) (o : Opm) (Hr : Has w r (rowL [.slice A S.length c, .slice B K.length d] 55)) (hO : OwnT w base 98 2 RowM.cells (.slice A S.length c) S) (hP : OwnT w base 101 10 kref (.slice B K.length d) K) (hne : ∀ i, (Value.slice A S.length c).ownBlock = some i → i ≠ r) (hne2 : ∀ i, (Value.slice B K.length d).ownBlock = some i → i ≠ r) (hnn : ∀ i, (Value.slice A S.length c).ownBlock = some i → (Value.slice B K.length d).ownBlock = some i → False) (hS : Led S) (hbw : base ≤ w.heap.size) (hk : 1 ≤ o.kind ∧ o.kind ≤ 4) (hr : -9223372036854775808 ≤ o.amount ∧ o.amount ≤ 9223372036854775807) (ha : o.kind ≠ 1 → 1 ≤ o.amount) (h4 : o.kind = 4 → o.frm ≠ o.to) (hSl : S.length ≤ 1000) (hk4 : o.kind = 4) (a : RowM) (hg : getW S o.frm = some a) (ht : getW S o.to = none) : Calls Tryd.prog 41 ⟨[(ptr r), (agg (Opm.cells o))]⟩ w (fun e w' => ∃ A' c', e = .returned (i64 (actE S o)) ∧ Keeps (fun i => i = r ∨ (Value.slice A S.length c).ownBlock = some i) w w' ∧ Has w' r (rowL [.slice A' (actS S o).length c', .slice B K.length d] 55) ∧ OwnT w' base 98 2 RowM.cells (.slice A' (actS S o).length c') (actS S o) ∧ (∀ i, (Value.slice A' (actS S o).length c').ownBlock = some i → (Value.slice A S.length c).ownBlock = some i ∨ w.heap.size ≤ i)) := by
 have hR := OwnT.rd hO
 have hQ := OwnT.rd hP
 have Hrl := Hr.lt
 have hcap := RdT.len RowM.two (by decide) hR
 have hcapk := RdT.len kref10 (by decide) hQ
 unfold maxLen at hcap hcapk
 have hfs := findw_some hS hg
 have hf2 := hfs.2
 have hfl := (List.getElem?_eq_some_iff.1 hf2).1
 have hao := hS.ok a (getW_some hg).1
 have hal := hao.lo
 have hah := hao.hi
 have hnm := (getW_some hg).2
 have hft := findw_none ht
 obtain ⟨gb, cur, hA, hgb, Hg, hcl, hca, hput⟩ := OwnT.open RowM.two (by decide) hf2 hO
 have c1 : cur[posW S o.frm * 2 + 1]? = some (i64 a.amount) := hca 1 _ rfl
 have hgr : gb ≠ r := hne gb (by rw [hA]; rfl)
 have Hgl := Hg.lt
 have K0 : Keeps (fun i => i = gb) w w := (Keeps.refl w).mono (fun _ _ h => h.elim)
 refine q_calls Tryd.func41 (by kernel_rfl) (by kernel_rfl) ?_
 refine qsg ?_
 refine onew (rowL (Opm.cells o) 24) (fun b => (ptr b)) 3 (fun b => rfl) (fun b1 w2 hb3 H4 K5 hs6 => ?_)
 have lb1r : r < b1 := by have := Hr.lt; omega
 have lb1gb : gb < b1 := by have := Hg.lt; omega
 have nb1 : w.heap.size ≤ b1 := by have := K0.size; omega
 replace K0 := K0.tn K5
 replace Hr := Hr.kn K5
 replace Hg := Hg.kn K5
 replace hO := own_keep0 hO K5
 replace hP := own_keep0 hP K5
 clear K5 hs6
 refine odz 1 ?_
 refine qsg ?_
 refine og 2 [(0, ptr r), (3, ptr b1), (4, i64 0), (11, ptr r), (12, .pointer (some ⟨b1, 1, none⟩))] 2 ?_
 refine ogo (Value.string (str o.frm)) 13 (rld 9 b1 1 H4) rfl ?_
 refine ocQ 14 (Rfind_calls _ r A c S B d K o.frm Hr (OwnT.rd hO) (OwnT.rd hP)) ?_
 rintro _ w10 ⟨rfl, K9⟩
 refine ⟨_, _, rfl, rfl, ?_⟩
 replace K0 := K0.tn K9
 replace Hr := Hr.kn K9
 replace Hg := Hg.kn K9
 replace H4 := H4.kn K9
 replace hO := own_keep0 hO K9
 replace hP := own_keep0 hP K9
 clear K9
 refine odz 5 ?_
 refine qs ?_
 refine qsg ?_
 refine og 1 [(0, ptr r), (3, ptr b1), (4, i64 0), (5, i64 ↑(posW S o.frm)), (6, .bool (hasW S o.frm)), (17, ptr b1)] 1 ?_
 refine ogo (i64 o.kind) 18 (rld 3 b1 0 H4) rfl ?_
 refine ogd 1 [(0, ptr r), (3, ptr b1), (4, i64 0), (5, i64 ↑(posW S o.frm)), (6, .bool (hasW S o.frm)), (19, .bool (o.kind == 1))] ?_
 have h11 : (o.kind == 1) = false := beq_eq_false_iff_ne.2 (by omega)
 rw [h11]
 refine q_else (o := .tmp 19) (by kernel_rfl) rfl ?_
 refine qkQ ?_
 refine qs ?_
 refine qsg ?_
 refine ogd 2 [(0, ptr r), (3, ptr b1), (4, i64 0), (5, i64 ↑(posW S o.frm)), (48, (Value.bool (!(hasW S o.frm))))] ?_
 have h12 : (!(hasW S o.frm)) = false := by rw [show (hasW S o.frm) = true from hfs.1]; rfl
 rw [h12]
 refine q_else (o := .tmp 48) (by kernel_rfl) rfl ?_
 refine qkQ ?_
 refine qs ?_
 refine qsg ?_
 refine og 1 [(0, ptr r), (3, ptr b1), (4, i64 0), (5, i64 ↑(posW S o.frm)), (49, ptr b1)] 1 ?_
 refine ogo (i64 o.kind) 50 (rld 3 b1 0 H4) rfl ?_
 refine ogd 1 [(0, ptr r), (3, ptr b1), (4, i64 0), (5, i64 ↑(posW S o.frm)), (51, .bool (o.kind == 2))] ?_
 have h13 : (o.kind == 2) = false := beq_eq_false_iff_ne.2 (by omega)
 rw [h13]
 refine q_else (o := .tmp 51) (by kernel_rfl) rfl ?_
 refine qkQ ?_
 refine qs ?_
 refine qs ?_
 refine q_draw (fun wz => Keeps none_ w10 wz) 11 (by kernel_rfl) (by kernel_rfl) (by kernel_rfl) (fun w14 K15 _ _ => ⟨K15, ?_⟩)
 replace K0 := K0.tn K15
 replace Hr := Hr.kn K15
 replace Hg := Hg.kn K15
 replace H4 := H4.kn K15
 replace hO := own_keep0 hO K15
 replace hP := own_keep0 hP K15
 refine Dr.strong (S' := (fun wz => Keeps none_ w14 wz)) (Keeps.refl w14) (fun wz hx => K15.trans hx (fun i _ h => h) (fun _ _ h => h)) ?_
 refine dkQ 10 [0] [(0, ptr r), (3, ptr b1), (4, i64 0), (5, i64 ↑(posW S o.frm)), (82, .pointer (some ⟨b1, 3, none⟩))] ?_
 refine dtQ 1 (i64 o.amount) 83 (fun wz hS => rld 2 b1 3 (H4.keep hS (fun h => h))) rfl ?_
 refine dkQ 6 [2, 3, 4] [(0, ptr r), (3, ptr b1), (4, i64 0), (5, i64 ↑(posW S o.frm)), (83, i64 o.amount), (86, ptr r)] ?_
 refine dtQ 5 (Value.slice A S.length c) 87 (fun wz hS => rld 26 r 0 (Hr.keep hS (fun h => h))) rfl ?_
 refine dkQ 4 [6] [(0, ptr r), (3, ptr b1), (4, i64 0), (5, i64 ↑(posW S o.frm)), (83, i64 o.amount), (87, .slice A S.length c), (88, i64 ↑(posW S o.frm))] ?_
 refine dtQ 7 (Value.pointer (some ⟨gb, (posW S o.frm) * 2, none⟩)) 89 (fun wz hS => Runs.ixSliceE (k := IntKind.i64) (t := 26) (len := S.length) (cap := c) (s := 2) (off' := (posW S o.frm) * 2) (i := ((posW S o.frm : Nat) : Int)) hA (by kernel_rfl) (by kernel_rfl) (by omega) (by omega) (by omega)) rfl ?_
 refine dkQ 2 [8] [(0, ptr r), (3, ptr b1), (4, i64 0), (5, i64 ↑(posW S o.frm)), (83, i64 o.amount), (90, (Value.pointer (some ⟨gb, (posW S o.frm) * 2 + 1, none⟩)))] ?_
 refine dtQ 9 (i64 a.amount) 91 (fun wz hS => Runs.load (t := 2) (a := ⟨gb, (posW S o.frm) * 2 + 1, none⟩) (by kernel_rfl) ((Hg.keep hS (fun h => h)).loads (loadC1 (by kernel_rfl) c1))) rfl ?_
 refine dkQ 0 [10] [(0, ptr r), (3, ptr b1), (4, i64 0), (5, i64 ↑(posW S o.frm)), (92, (Value.bool (decide (o.amount > a.amount))))] ?_
 refine Dr.done (by kernel_rfl) ?_
 refine qcQ 92 (decide (o.amount > a.amount)) rfl (fun h16 => ?_) (fun h16 => ?_)
 ·rw [h16]
  have p17 := of_decide_eq_true h16
  refine qsg ?_
  refine ogd 1 [(0, ptr r), (3, ptr b1), (4, i64 42), (5, i64 ↑(posW S o.frm))] ?_
  refine qtQ ?_
  refine ⟨(i64 42), retv_tmp rfl rfl, ?_⟩
  have e1 : actE S o = 42 := by unfold actE; rw [if_neg (by omega), hg]; simp only []; rw [if_neg (by omega), if_pos (by omega)]
  have e2 : actS S o = S := act_refused (by rw [e1]; decide)
  rw [e1, e2]
  exact ⟨A, c, rfl, K0.mono fun i _ h => .inr (by rw [hA]; exact congrArg some (Eq.symm h)), Hr, hO, fun i h => .inl h⟩
 ·rw [h16]
  have p18 := of_decide_eq_false h16
  refine qkQ ?_
  refine qs ?_
  refine qsg ?_
  refine og 1 [(0, ptr r), (3, ptr b1), (4, i64 0), (5, i64 ↑(posW S o.frm)), (93, ptr b1)] 1 ?_
  refine ogo (i64 o.kind) 94 (rld 3 b1 0 H4) rfl ?_
  refine ogd 1 [(0, ptr r), (3, ptr b1), (4, i64 0), (5, i64 ↑(posW S o.frm)), (95, .bool (o.kind == 4))] ?_
  have h19 : (o.kind == 4) = true := beq_iff_eq.2 (by omega)
  rw [h19]
  refine q_then (o := .tmp 95) (by kernel_rfl) rfl ?_
  refine qsg ?_
  refine og 2 [(0, ptr r), (3, ptr b1), (4, i64 0), (5, i64 ↑(posW S o.frm)), (97, ptr r), (98, .pointer (some ⟨b1, 2, none⟩))] 2 ?_
  refine ogo (Value.string (str o.to)) 99 (rld 9 b1 2 H4) rfl ?_
  refine ocQ 100 (Rfind_calls _ r A c S B d K o.to Hr (OwnT.rd hO) (OwnT.rd hP)) ?_
  rintro _ w21 ⟨rfl, K20⟩
  refine ⟨_, _, rfl, rfl, ?_⟩
  replace K0 := K0.tn K20
  replace Hr := Hr.kn K20
  replace hO := own_keep0 hO K20
  refine odz 5 ?_
  refine qs ?_
  refine qsg ?_
  refine ogd 2 [(0, ptr r), (3, ptr b1), (4, i64 0), (5, i64 ↑(posW S o.frm)), (8, i64 ↑(posW S o.to)), (104, (Value.bool (!(hasW S o.to))))] ?_
  have h22 : (!(hasW S o.to)) = true := by rw [show (hasW S o.to) = false from hft]; rfl
  rw [h22]
  refine q_then (o := .tmp 104) (by kernel_rfl) rfl ?_
  refine qsg ?_
  refine ogd 1 [(0, ptr r), (3, ptr b1), (4, i64 40), (5, i64 ↑(posW S o.frm)), (8, i64 ↑(posW S o.to))] ?_
  refine qtQ ?_
  refine ⟨(i64 40), retv_tmp rfl rfl, ?_⟩
  have e1 : actE S o = 40 := by unfold actE; rw [if_neg (by omega), hg]; simp only []; rw [if_neg (by omega), if_neg (by omega), if_pos hk4, ht]
  have e2 : actS S o = S := act_refused (by rw [e1]; decide)
  rw [e1, e2]
  exact ⟨A, c, rfl, K0.mono fun i _ h => .inr (by rw [hA]; exact congrArg some (Eq.symm h)), Hr, hO, fun i h => .inl h⟩
set_option maxHeartbeats 2000000 in
theorem Ract_four (w : World) (base r : Nat) (A : Option Addr) (c : Nat) (S : List RowM) (B : Option Addr) (d : Nat) (K : List KeptM) (o : Opm) (Hr : Has w r (rowL [.slice A S.length c, .slice B K.length d] 55)) (hO : OwnT w base 98 2 RowM.cells (.slice A S.length c) S) (hP : OwnT w base 101 10 kref (.slice B K.length d) K) (hne : ∀ i, (Value.slice A S.length c).ownBlock = some i → i ≠ r) (hne2 : ∀ i, (Value.slice B K.length d).ownBlock = some i → i ≠ r) (hnn : ∀ i, (Value.slice A S.length c).ownBlock = some i → (Value.slice B K.length d).ownBlock = some i → False) (hS : Led S) (hbw : base ≤ w.heap.size) (hk : 1 ≤ o.kind ∧ o.kind ≤ 4) (hr : -9223372036854775808 ≤ o.amount ∧ o.amount ≤ 9223372036854775807) (ha : o.kind ≠ 1 → 1 ≤ o.amount) (h4 : o.kind = 4 → o.frm ≠ o.to) (hSl : S.length ≤ 1000) (hk4 : o.kind = 4) (a : RowM) (hg : getW S o.frm = some a) (b : RowM) (ht : getW S o.to = some b) : Calls Tryd.prog 41 ⟨[(ptr r), (agg (Opm.cells o))]⟩ w (fun e w' => ∃ A' c', e = .returned (i64 (actE S o)) ∧ Keeps (fun i => i = r ∨ (Value.slice A S.length c).ownBlock = some i) w w' ∧ Has w' r (rowL [.slice A' (actS S o).length c', .slice B K.length d] 55) ∧ OwnT w' base 98 2 RowM.cells (.slice A' (actS S o).length c') (actS S o) ∧ (∀ i, (Value.slice A' (actS S o).length c').ownBlock = some i → (Value.slice A S.length c).ownBlock = some i ∨ w.heap.size ≤ i)) := by
 have hR := OwnT.rd hO
 have hQ := OwnT.rd hP
 have Hrl := Hr.lt
 have hcap := RdT.len RowM.two (by decide) hR
 have hcapk := RdT.len kref10 (by decide) hQ
 unfold maxLen at hcap hcapk
 have hfs := findw_some hS hg
 have hf2 := hfs.2
 have hfl := (List.getElem?_eq_some_iff.1 hf2).1
 have hao := hS.ok a (getW_some hg).1
 have hal := hao.lo
 have hah := hao.hi
 have hnm := (getW_some hg).2
 have hfst := findw_some hS ht
 have hft2 := hfst.2
 have hflt := (List.getElem?_eq_some_iff.1 hft2).1
 have haot := hS.ok b (getW_some ht).1
 have halt := haot.lo
 have haht := haot.hi
 have hnmt := (getW_some ht).2
 have hpq : posW S o.frm ≠ posW S o.to := fun q => by rw [q, hft2] at hf2; injection hf2 with q2; exact h4 hk4 (by rw [← hnm, ← hnmt, q2])
 obtain ⟨gb, cur, hA, hgb, Hg, hcl, hclt, hca, hcat, hput, hput2⟩ := OwnT.open2 RowM.two (by decide) hf2 hft2 hpq hO
 have d1 : cur[posW S o.to * 2 + 1]? = some (i64 b.amount) := hcat 1 _ rfl
 have c1 : cur[posW S o.frm * 2 + 1]? = some (i64 a.amount) := hca 1 _ rfl
 have hgr : gb ≠ r := hne gb (by rw [hA]; rfl)
 have Hgl := Hg.lt
 have K0 : Keeps (fun i => i = gb) w w := (Keeps.refl w).mono (fun _ _ h => h.elim)
 refine q_calls Tryd.func41 (by kernel_rfl) (by kernel_rfl) ?_
 refine qsg ?_
 refine onew (rowL (Opm.cells o) 24) (fun b => (ptr b)) 3 (fun b => rfl) (fun b1 w2 hb3 H4 K5 hs6 => ?_)
 have lb1r : r < b1 := by have := Hr.lt; omega
 have lb1gb : gb < b1 := by have := Hg.lt; omega
 have nb1 : w.heap.size ≤ b1 := by have := K0.size; omega
 replace K0 := K0.tn K5
 replace Hr := Hr.kn K5
 replace Hg := Hg.kn K5
 replace hO := own_keep0 hO K5
 replace hP := own_keep0 hP K5
 clear K5 hs6
 refine odz 1 ?_
 refine qsg ?_
 refine og 2 [(0, ptr r), (3, ptr b1), (4, i64 0), (11, ptr r), (12, .pointer (some ⟨b1, 1, none⟩))] 2 ?_
 refine ogo (Value.string (str o.frm)) 13 (rld 9 b1 1 H4) rfl ?_
 refine ocQ 14 (Rfind_calls _ r A c S B d K o.frm Hr (OwnT.rd hO) (OwnT.rd hP)) ?_
 rintro _ w10 ⟨rfl, K9⟩
 refine ⟨_, _, rfl, rfl, ?_⟩
 replace K0 := K0.tn K9
 replace Hr := Hr.kn K9
 replace Hg := Hg.kn K9
 replace H4 := H4.kn K9
 replace hO := own_keep0 hO K9
 replace hP := own_keep0 hP K9
 clear K9
 refine odz 5 ?_
 refine qs ?_
 refine qsg ?_
 refine og 1 [(0, ptr r), (3, ptr b1), (4, i64 0), (5, i64 ↑(posW S o.frm)), (6, .bool (hasW S o.frm)), (17, ptr b1)] 1 ?_
 refine ogo (i64 o.kind) 18 (rld 3 b1 0 H4) rfl ?_
 refine ogd 1 [(0, ptr r), (3, ptr b1), (4, i64 0), (5, i64 ↑(posW S o.frm)), (6, .bool (hasW S o.frm)), (19, .bool (o.kind == 1))] ?_
 have h11 : (o.kind == 1) = false := beq_eq_false_iff_ne.2 (by omega)
 rw [h11]
 refine q_else (o := .tmp 19) (by kernel_rfl) rfl ?_
 refine qkQ ?_
 refine qs ?_
 refine qsg ?_
 refine ogd 2 [(0, ptr r), (3, ptr b1), (4, i64 0), (5, i64 ↑(posW S o.frm)), (48, (Value.bool (!(hasW S o.frm))))] ?_
 have h12 : (!(hasW S o.frm)) = false := by rw [show (hasW S o.frm) = true from hfs.1]; rfl
 rw [h12]
 refine q_else (o := .tmp 48) (by kernel_rfl) rfl ?_
 refine qkQ ?_
 refine qs ?_
 refine qsg ?_
 refine og 1 [(0, ptr r), (3, ptr b1), (4, i64 0), (5, i64 ↑(posW S o.frm)), (49, ptr b1)] 1 ?_
 refine ogo (i64 o.kind) 50 (rld 3 b1 0 H4) rfl ?_
 refine ogd 1 [(0, ptr r), (3, ptr b1), (4, i64 0), (5, i64 ↑(posW S o.frm)), (51, .bool (o.kind == 2))] ?_
 have h13 : (o.kind == 2) = false := beq_eq_false_iff_ne.2 (by omega)
 rw [h13]
 refine q_else (o := .tmp 51) (by kernel_rfl) rfl ?_
 refine qkQ ?_
 refine qs ?_
 refine qs ?_
 refine q_draw (fun wz => Keeps none_ w10 wz) 11 (by kernel_rfl) (by kernel_rfl) (by kernel_rfl) (fun w14 K15 _ _ => ⟨K15, ?_⟩)
 replace K0 := K0.tn K15
 replace Hr := Hr.kn K15
 replace Hg := Hg.kn K15
 replace H4 := H4.kn K15
 replace hO := own_keep0 hO K15
 replace hP := own_keep0 hP K15
 refine Dr.strong (S' := (fun wz => Keeps none_ w14 wz)) (Keeps.refl w14) (fun wz hx => K15.trans hx (fun i _ h => h) (fun _ _ h => h)) ?_
 refine dkQ 10 [0] [(0, ptr r), (3, ptr b1), (4, i64 0), (5, i64 ↑(posW S o.frm)), (82, .pointer (some ⟨b1, 3, none⟩))] ?_
 refine dtQ 1 (i64 o.amount) 83 (fun wz hS => rld 2 b1 3 (H4.keep hS (fun h => h))) rfl ?_
 refine dkQ 6 [2, 3, 4] [(0, ptr r), (3, ptr b1), (4, i64 0), (5, i64 ↑(posW S o.frm)), (83, i64 o.amount), (86, ptr r)] ?_
 refine dtQ 5 (Value.slice A S.length c) 87 (fun wz hS => rld 26 r 0 (Hr.keep hS (fun h => h))) rfl ?_
 refine dkQ 4 [6] [(0, ptr r), (3, ptr b1), (4, i64 0), (5, i64 ↑(posW S o.frm)), (83, i64 o.amount), (87, .slice A S.length c), (88, i64 ↑(posW S o.frm))] ?_
 refine dtQ 7 (Value.pointer (some ⟨gb, (posW S o.frm) * 2, none⟩)) 89 (fun wz hS => Runs.ixSliceE (k := IntKind.i64) (t := 26) (len := S.length) (cap := c) (s := 2) (off' := (posW S o.frm) * 2) (i := ((posW S o.frm : Nat) : Int)) hA (by kernel_rfl) (by kernel_rfl) (by omega) (by omega) (by omega)) rfl ?_
 refine dkQ 2 [8] [(0, ptr r), (3, ptr b1), (4, i64 0), (5, i64 ↑(posW S o.frm)), (83, i64 o.amount), (90, (Value.pointer (some ⟨gb, (posW S o.frm) * 2 + 1, none⟩)))] ?_
 refine dtQ 9 (i64 a.amount) 91 (fun wz hS => Runs.load (t := 2) (a := ⟨gb, (posW S o.frm) * 2 + 1, none⟩) (by kernel_rfl) ((Hg.keep hS (fun h => h)).loads (loadC1 (by kernel_rfl) c1))) rfl ?_
 refine dkQ 0 [10] [(0, ptr r), (3, ptr b1), (4, i64 0), (5, i64 ↑(posW S o.frm)), (92, (Value.bool (decide (o.amount > a.amount))))] ?_
 refine Dr.done (by kernel_rfl) ?_
 refine qcQ 92 (decide (o.amount > a.amount)) rfl (fun h16 => ?_) (fun h16 => ?_)
 ·rw [h16]
  have p17 := of_decide_eq_true h16
  refine qsg ?_
  refine ogd 1 [(0, ptr r), (3, ptr b1), (4, i64 42), (5, i64 ↑(posW S o.frm))] ?_
  refine qtQ ?_
  refine ⟨(i64 42), retv_tmp rfl rfl, ?_⟩
  have e1 : actE S o = 42 := by unfold actE; rw [if_neg (by omega), hg]; simp only []; rw [if_neg (by omega), if_pos (by omega)]
  have e2 : actS S o = S := act_refused (by rw [e1]; decide)
  rw [e1, e2]
  exact ⟨A, c, rfl, K0.mono fun i _ h => .inr (by rw [hA]; exact congrArg some (Eq.symm h)), Hr, hO, fun i h => .inl h⟩
 ·rw [h16]
  have p18 := of_decide_eq_false h16
  refine qkQ ?_
  refine qs ?_
  refine qsg ?_
  refine og 1 [(0, ptr r), (3, ptr b1), (4, i64 0), (5, i64 ↑(posW S o.frm)), (93, ptr b1)] 1 ?_
  refine ogo (i64 o.kind) 94 (rld 3 b1 0 H4) rfl ?_
  refine ogd 1 [(0, ptr r), (3, ptr b1), (4, i64 0), (5, i64 ↑(posW S o.frm)), (95, .bool (o.kind == 4))] ?_
  have h19 : (o.kind == 4) = true := beq_iff_eq.2 (by omega)
  rw [h19]
  refine q_then (o := .tmp 95) (by kernel_rfl) rfl ?_
  refine qsg ?_
  refine og 2 [(0, ptr r), (3, ptr b1), (4, i64 0), (5, i64 ↑(posW S o.frm)), (97, ptr r), (98, .pointer (some ⟨b1, 2, none⟩))] 2 ?_
  refine ogo (Value.string (str o.to)) 99 (rld 9 b1 2 H4) rfl ?_
  refine ocQ 100 (Rfind_calls _ r A c S B d K o.to Hr (OwnT.rd hO) (OwnT.rd hP)) ?_
  rintro _ w21 ⟨rfl, K20⟩
  refine ⟨_, _, rfl, rfl, ?_⟩
  replace K0 := K0.tn K20
  replace Hr := Hr.kn K20
  replace Hg := Hg.kn K20
  replace H4 := H4.kn K20
  replace hO := own_keep0 hO K20
  refine odz 5 ?_
  refine qs ?_
  refine qsg ?_
  refine ogd 2 [(0, ptr r), (3, ptr b1), (4, i64 0), (5, i64 ↑(posW S o.frm)), (8, i64 ↑(posW S o.to)), (104, (Value.bool (!(hasW S o.to))))] ?_
  have h22 : (!(hasW S o.to)) = false := by rw [show (hasW S o.to) = true from hfst.1]; rfl
  rw [h22]
  refine q_else (o := .tmp 104) (by kernel_rfl) rfl ?_
  refine qkQ ?_
  refine qs ?_
  refine qs ?_
  refine q_draw (fun wz => Keeps none_ w21 wz) 12 (by kernel_rfl) (by kernel_rfl) (by kernel_rfl) (fun w23 K24 _ _ => ⟨K24, ?_⟩)
  replace K0 := K0.tn K24
  replace Hr := Hr.kn K24
  replace Hg := Hg.kn K24
  replace H4 := H4.kn K24
  replace hO := own_keep0 hO K24
  refine Dr.strong (S' := (fun wz => Keeps none_ w23 wz)) (Keeps.refl w23) (fun wz hx => K24.trans hx (fun i _ h => h) (fun _ _ h => h)) ?_
  refine dkQ 11 [0] [(0, ptr r), (3, ptr b1), (4, i64 0), (5, i64 ↑(posW S o.frm)), (8, i64 ↑(posW S o.to)), (105, .pointer (some ⟨b1, 3, none⟩))] ?_
  refine dtQ 1 (i64 o.amount) 106 (fun wz hS => rld 2 b1 3 (H4.keep hS (fun h => h))) rfl ?_
  refine dkQ 7 [2, 3, 4] [(0, ptr r), (3, ptr b1), (4, i64 0), (5, i64 ↑(posW S o.frm)), (8, i64 ↑(posW S o.to)), (106, i64 o.amount), (109, ptr r)] ?_
  refine dtQ 5 (Value.slice A S.length c) 110 (fun wz hS => rld 26 r 0 (Hr.keep hS (fun h => h))) rfl ?_
  refine dkQ 5 [6] [(0, ptr r), (3, ptr b1), (4, i64 0), (5, i64 ↑(posW S o.frm)), (8, i64 ↑(posW S o.to)), (106, i64 o.amount), (110, .slice A S.length c), (111, i64 ↑(posW S o.to))] ?_
  refine dtQ 7 (Value.pointer (some ⟨gb, (posW S o.to) * 2, none⟩)) 112 (fun wz hS => Runs.ixSliceE (k := IntKind.i64) (t := 26) (len := S.length) (cap := c) (s := 2) (off' := (posW S o.to) * 2) (i := ((posW S o.to : Nat) : Int)) hA (by kernel_rfl) (by kernel_rfl) (by omega) (by omega) (by omega)) rfl ?_
  refine dkQ 3 [8] [(0, ptr r), (3, ptr b1), (4, i64 0), (5, i64 ↑(posW S o.frm)), (8, i64 ↑(posW S o.to)), (106, i64 o.amount), (113, (Value.pointer (some ⟨gb, (posW S o.to) * 2 + 1, none⟩)))] ?_
  refine dtQ 9 (i64 b.amount) 114 (fun wz hS => Runs.load (t := 2) (a := ⟨gb, (posW S o.to) * 2 + 1, none⟩) (by kernel_rfl) ((Hg.keep hS (fun h => h)).loads (loadC1 (by kernel_rfl) d1))) rfl ?_
  refine dkQ 1 [10] [(0, ptr r), (3, ptr b1), (4, i64 0), (5, i64 ↑(posW S o.frm)), (8, i64 ↑(posW S o.to)), (106, i64 o.amount), (115, (i64 (IntKind.i64.wrap (9223372036854775807 - b.amount))))] ?_
  have e25 : IntKind.i64.wrap (9223372036854775807 - b.amount) = 9223372036854775807 - b.amount := wrap_i64 (by omega) (by omega)
  rw [e25]
  refine dkQ 0 [11] [(0, ptr r), (3, ptr b1), (4, i64 0), (5, i64 ↑(posW S o.frm)), (8, i64 ↑(posW S o.to)), (116, (Value.bool (decide (o.amount > 9223372036854775807 - b.amount))))] ?_
  refine Dr.done (by kernel_rfl) ?_
  refine qcQ 116 (decide (o.amount > 9223372036854775807 - b.amount)) rfl (fun h26 => ?_) (fun h26 => ?_)
  ·rw [h26]
   have p27 := of_decide_eq_true h26
   refine qsg ?_
   refine ogd 1 [(0, ptr r), (3, ptr b1), (4, i64 43), (5, i64 ↑(posW S o.frm)), (8, i64 ↑(posW S o.to))] ?_
   refine qtQ ?_
   refine ⟨(i64 43), retv_tmp rfl rfl, ?_⟩
   have e1 : actE S o = 43 := by unfold actE; rw [if_neg (by omega), hg]; simp only []; rw [if_neg (by omega), if_neg (by omega), if_pos hk4, ht]; simp only []; rw [if_pos (by omega)]
   have e2 : actS S o = S := act_refused (by rw [e1]; decide)
   rw [e1, e2]
   exact ⟨A, c, rfl, K0.mono fun i _ h => .inr (by rw [hA]; exact congrArg some (Eq.symm h)), Hr, hO, fun i h => .inl h⟩
  ·rw [h26]
   have p28 := of_decide_eq_false h26
   refine qkQ ?_
   refine q_draw (fun wz => Keeps (fun i => i = gb) w23 wz) 19 (by kernel_rfl) (by kernel_rfl) (by kernel_rfl) (fun w29 K30 _ _ => ⟨(K30.mono (fun _ _ h => h.elim)), ?_⟩)
   replace K0 := K0.tn K30
   replace Hr := Hr.kn K30
   replace Hg := Hg.kn K30
   replace H4 := H4.kn K30
   refine Dr.strong (S' := (fun wz => Keeps (fun i => i = gb) w29 wz)) ((Keeps.refl w29).mono (fun _ _ h => h.elim)) (fun wz hx => K30.trans hx (fun i _ h => h.elim) (fun _ _ h => h)) ?_
   refine dkQ 16 [0, 1, 2] [(0, ptr r), (3, ptr b1), (4, i64 0), (5, i64 ↑(posW S o.frm)), (8, i64 ↑(posW S o.to)), (119, ptr r)] ?_
   refine dtQ 3 (Value.slice A S.length c) 120 (fun wz hS => rld 26 r 0 (Hr.keep hS (by intro h; change r = gb at h; omega))) rfl ?_
   refine dkQ 11 [4, 5, 6, 7] [(0, ptr r), (3, ptr b1), (4, i64 0), (5, i64 ↑(posW S o.frm)), (8, i64 ↑(posW S o.to)), (120, .slice A S.length c), (121, i64 ↑(posW S o.to)), (124, ptr r)] ?_
   refine dtQ 8 (Value.slice A S.length c) 125 (fun wz hS => rld 26 r 0 (Hr.keep hS (by intro h; change r = gb at h; omega))) rfl ?_
   refine dkQ 9 [9] [(0, ptr r), (3, ptr b1), (4, i64 0), (5, i64 ↑(posW S o.frm)), (120, .slice A S.length c), (121, i64 ↑(posW S o.to)), (125, .slice A S.length c), (126, i64 ↑(posW S o.to))] ?_
   refine dtQ 10 (Value.pointer (some ⟨gb, (posW S o.to) * 2, none⟩)) 127 (fun wz hS => Runs.ixSliceE (k := IntKind.i64) (t := 26) (len := S.length) (cap := c) (s := 2) (off' := (posW S o.to) * 2) (i := ((posW S o.to : Nat) : Int)) hA (by kernel_rfl) (by kernel_rfl) (by omega) (by omega) (by omega)) rfl ?_
   refine dkQ 6 [11, 13] [(0, ptr r), (3, ptr b1), (4, i64 0), (5, i64 ↑(posW S o.frm)), (120, .slice A S.length c), (121, i64 ↑(posW S o.to)), (128, (Value.pointer (some ⟨gb, (posW S o.to) * 2 + 1, none⟩))), (130, .pointer (some ⟨b1, 3, none⟩))] ?_
   refine dtQ 14 (i64 o.amount) 131 (fun wz hS => rld 2 b1 3 (H4.keep hS (by intro h; change b1 = gb at h; omega))) rfl ?_
   refine Dr.go (i := 12) (v := (i64 b.amount)) (by kernel_rfl) (by kernel_rfl) (Runs.load (t := 2) (a := ⟨gb, (posW S o.to) * 2 + 1, none⟩) (by kernel_rfl) (Hg.loads (loadC1 (by kernel_rfl) d1))) (d := (some 129)) (by kernel_rfl) rfl ((Keeps.refl _).mono (fun _ _ h => h.elim)) ?_
   refine dkQ 3 [15] [(0, ptr r), (3, ptr b1), (4, i64 0), (5, i64 ↑(posW S o.frm)), (120, .slice A S.length c), (121, i64 ↑(posW S o.to)), (132, (i64 (IntKind.i64.wrap (b.amount + o.amount))))] ?_
   have e31 : IntKind.i64.wrap (b.amount + o.amount) = b.amount + o.amount := wrap_i64 (by omega) (by omega)
   rw [e31]
   refine dtQ 16 (Value.pointer (some ⟨gb, (posW S o.to) * 2, none⟩)) 133 (fun wz hS => Runs.ixSliceE (k := IntKind.i64) (t := 26) (len := S.length) (cap := c) (s := 2) (off' := (posW S o.to) * 2) (i := ((posW S o.to : Nat) : Int)) hA (by kernel_rfl) (by kernel_rfl) (by omega) (by omega) (by omega)) rfl ?_
   refine dkQ 1 [17] [(0, ptr r), (3, ptr b1), (4, i64 0), (5, i64 ↑(posW S o.frm)), (132, (i64 (b.amount + o.amount))), (134, (Value.pointer (some ⟨gb, (posW S o.to) * 2 + 1, none⟩)))] ?_
   refine Dr.put (i := 18) (t := 2) (b := gb) (off := (posW S o.to) * 2 + 1) (v := (i64 (b.amount + o.amount))) (ys := (cur.set ((posW S o.to) * 2 + 1) (i64 (b.amount + o.amount)))) (by kernel_rfl) (by kernel_rfl) (by kernel_rfl) Hg (storeC1 (by kernel_rfl) rfl (by first | omega | (simp only [List.length_set]; omega)) rfl) (d := none) (by kernel_rfl) rfl (fun w32 H33 K34 => ?_)
   clear Hg
   replace K0 := K0.t1 K34 (fun _ => rfl)
   replace Hr := Hr.k1 K34 (by omega)
   replace H4 := H4.k1 K34 (by omega)
   clear hO
   refine ⟨K34, ?_⟩
   refine Dr.strong (S' := (fun wz => Keeps (fun i => i = gb) w32 wz)) ((Keeps.refl w32).mono (fun _ _ h => h.elim)) (fun wz hx => K34.trans hx (fun i _ h => by have h : i = gb := h; show i = gb; omega) (fun _ _ h => h)) ?_
   refine Dr.done (by kernel_rfl) ?_
   refine qs ?_
   refine q_draw (fun wz => Keeps (fun i => i = gb) w32 wz) 19 (by kernel_rfl) (by kernel_rfl) (by kernel_rfl) (fun w35 K36 _ _ => ⟨(K36.mono (fun _ _ h => h.elim)), ?_⟩)
   replace K0 := K0.tn K36
   replace Hr := Hr.kn K36
   replace H33 := H33.kn K36
   replace H4 := H4.kn K36
   refine Dr.strong (S' := (fun wz => Keeps (fun i => i = gb) w35 wz)) ((Keeps.refl w35).mono (fun _ _ h => h.elim)) (fun wz hx => K36.trans hx (fun i _ h => h.elim) (fun _ _ h => h)) ?_
   refine dkQ 16 [0, 1, 2] [(0, ptr r), (3, ptr b1), (4, i64 0), (5, i64 ↑(posW S o.frm)), (137, ptr r)] ?_
   refine dtQ 3 (Value.slice A S.length c) 138 (fun wz hS => rld 26 r 0 (Hr.keep hS (by intro h; change r = gb at h; omega))) rfl ?_
   refine dkQ 11 [4, 5, 6, 7] [(3, ptr b1), (4, i64 0), (5, i64 ↑(posW S o.frm)), (138, .slice A S.length c), (139, i64 ↑(posW S o.frm)), (142, ptr r)] ?_
   refine dtQ 8 (Value.slice A S.length c) 143 (fun wz hS => rld 26 r 0 (Hr.keep hS (by intro h; change r = gb at h; omega))) rfl ?_
   refine dkQ 9 [9] [(3, ptr b1), (4, i64 0), (138, .slice A S.length c), (139, i64 ↑(posW S o.frm)), (143, .slice A S.length c), (144, i64 ↑(posW S o.frm))] ?_
   refine dtQ 10 (Value.pointer (some ⟨gb, (posW S o.frm) * 2, none⟩)) 145 (fun wz hS => Runs.ixSliceE (k := IntKind.i64) (t := 26) (len := S.length) (cap := c) (s := 2) (off' := (posW S o.frm) * 2) (i := ((posW S o.frm : Nat) : Int)) hA (by kernel_rfl) (by kernel_rfl) (by omega) (by omega) (by omega)) rfl ?_
   refine dkQ 6 [11, 13] [(4, i64 0), (138, .slice A S.length c), (139, i64 ↑(posW S o.frm)), (146, (Value.pointer (some ⟨gb, (posW S o.frm) * 2 + 1, none⟩))), (148, .pointer (some ⟨b1, 3, none⟩))] ?_
   refine dtQ 14 (i64 o.amount) 149 (fun wz hS => rld 2 b1 3 (H4.keep hS (by intro h; change b1 = gb at h; omega))) rfl ?_
   refine Dr.go (i := 12) (v := (i64 a.amount)) (by kernel_rfl) (by kernel_rfl) (Runs.load (t := 2) (a := ⟨gb, (posW S o.frm) * 2 + 1, none⟩) (by kernel_rfl) (H33.loads (loadC1 (by kernel_rfl) (by rw [List.getElem?_set_ne (by omega)]; exact c1)))) (d := (some 147)) (by kernel_rfl) rfl ((Keeps.refl _).mono (fun _ _ h => h.elim)) ?_
   refine dkQ 3 [15] [(4, i64 0), (138, .slice A S.length c), (139, i64 ↑(posW S o.frm)), (150, (i64 (IntKind.i64.wrap (a.amount - o.amount))))] ?_
   have e37 : IntKind.i64.wrap (a.amount - o.amount) = a.amount - o.amount := wrap_i64 (by omega) (by omega)
   rw [e37]
   refine dtQ 16 (Value.pointer (some ⟨gb, (posW S o.frm) * 2, none⟩)) 151 (fun wz hS => Runs.ixSliceE (k := IntKind.i64) (t := 26) (len := S.length) (cap := c) (s := 2) (off' := (posW S o.frm) * 2) (i := ((posW S o.frm : Nat) : Int)) hA (by kernel_rfl) (by kernel_rfl) (by omega) (by omega) (by omega)) rfl ?_
   refine dkQ 1 [17] [(4, i64 0), (150, (i64 (a.amount - o.amount))), (152, (Value.pointer (some ⟨gb, (posW S o.frm) * 2 + 1, none⟩)))] ?_
   refine Dr.put (i := 18) (t := 2) (b := gb) (off := (posW S o.frm) * 2 + 1) (v := (i64 (a.amount - o.amount))) (ys := ((cur.set ((posW S o.to) * 2 + 1) (i64 (b.amount + o.amount))).set ((posW S o.frm) * 2 + 1) (i64 (a.amount - o.amount)))) (by kernel_rfl) (by kernel_rfl) (by kernel_rfl) H33 (storeC1 (by kernel_rfl) rfl (by first | omega | (simp only [List.length_set]; omega)) rfl) (d := none) (by kernel_rfl) rfl (fun w38 H39 K40 => ?_)
   replace K0 := K0.t1 K40 (fun _ => rfl)
   replace Hr := Hr.k1 K40 (by omega)
   refine ⟨K40, ?_⟩
   refine Dr.strong (S' := (fun wz => Keeps (fun i => i = gb) w38 wz)) ((Keeps.refl w38).mono (fun _ _ h => h.elim)) (fun wz hx => K40.trans hx (fun i _ h => by have h : i = gb := h; show i = gb; omega) (fun _ _ h => h)) ?_
   refine Dr.done (by kernel_rfl) ?_
   refine qsg ?_
   refine ogd 1 [(4, i64 0)] ?_
   refine qtQ ?_
   refine ⟨(i64 0), retv_tmp rfl rfl, ?_⟩
   have e1 : actE S o = 0 := by unfold actE; rw [if_neg (by omega), hg]; simp only []; rw [if_neg (by omega), if_neg (by omega), if_pos hk4, ht]; simp only []; rw [if_neg (by omega)]
   have e2 : actS S o = (S.set (posW S o.to) ⟨o.to, b.amount + o.amount⟩).set (posW S o.frm) ⟨o.frm, a.amount - o.amount⟩ := by unfold actS; rw [if_neg (by omega), hg]; simp only []; rw [if_neg (by omega), if_neg (by omega), if_pos hk4, ht]; simp only []; rw [if_neg (by omega)]; exact setw2_at hS hg ht (h4 hk4) _ _
   have hq := hput2 1 1 (i64 (b.amount + o.amount)) (i64 (a.amount - o.amount)) ⟨o.to, b.amount + o.amount⟩ ⟨o.frm, a.amount - o.amount⟩ (by decide) (by decide) (by rw [← hnmt]; rfl) (by rw [← hnm]; rfl) _ H39
   rw [e1, e2, List.length_set, List.length_set]
   exact ⟨A, c, rfl, K0.mono fun i _ h => .inr (by rw [hA]; exact congrArg some (Eq.symm h)), Hr, hq, fun i h => .inl h⟩
theorem Ract_calls (w : World) (base r : Nat) (A : Option Addr) (c : Nat) (S : List RowM) (B : Option Addr) (d : Nat) (K : List KeptM) (o : Opm) (Hr : Has w r (rowL [.slice A S.length c, .slice B K.length d] 55)) (hO : OwnT w base 98 2 RowM.cells (.slice A S.length c) S) (hP : OwnT w base 101 10 kref (.slice B K.length d) K) (hne : ∀ i, (Value.slice A S.length c).ownBlock = some i → i ≠ r) (hne2 : ∀ i, (Value.slice B K.length d).ownBlock = some i → i ≠ r) (hnn : ∀ i, (Value.slice A S.length c).ownBlock = some i → (Value.slice B K.length d).ownBlock = some i → False) (hS : Led S) (hbw : base ≤ w.heap.size) (hk : 1 ≤ o.kind ∧ o.kind ≤ 4) (hr : -9223372036854775808 ≤ o.amount ∧ o.amount ≤ 9223372036854775807) (ha : o.kind ≠ 1 → 1 ≤ o.amount) (h4 : o.kind = 4 → o.frm ≠ o.to) (hSl : S.length ≤ 1000) : Calls Tryd.prog 41 ⟨[(ptr r), (agg (Opm.cells o))]⟩ w (fun e w' => ∃ A' c', e = .returned (i64 (actE S o)) ∧ Keeps (fun i => i = r ∨ (Value.slice A S.length c).ownBlock = some i) w w' ∧ Has w' r (rowL [.slice A' (actS S o).length c', .slice B K.length d] 55) ∧ OwnT w' base 98 2 RowM.cells (.slice A' (actS S o).length c') (actS S o) ∧ (∀ i, (Value.slice A' (actS S o).length c').ownBlock = some i → (Value.slice A S.length c).ownBlock = some i ∨ w.heap.size ≤ i)) := by
 by_cases h1 : o.kind = 1
 ·cases hg : getW S o.frm with
  | none => exact Ract_new w base r A c S B d K o Hr hO hP hne hne2 hnn hS hbw hk hr ha h4 hSl h1 hg
  | some a => exact Ract_twice w base r A c S B d K o Hr hO hP hne hne2 hnn hS hbw hk hr ha h4 hSl h1 a hg
 ·cases hg : getW S o.frm with
  | none => exact Ract_no w base r A c S B d K o Hr hO hP hne hne2 hnn hS hbw hk hr ha h4 hSl h1 hg
  | some a =>
   by_cases h2 : o.kind = 2
   ·exact Ract_two w base r A c S B d K o Hr hO hP hne hne2 hnn hS hbw hk hr ha h4 hSl h2 a hg
   ·by_cases h3 : o.kind = 3
    ·exact Ract_three w base r A c S B d K o Hr hO hP hne hne2 hnn hS hbw hk hr ha h4 hSl h3 a hg
    ·cases ht : getW S o.to with
     | none => exact Ract_four0 w base r A c S B d K o Hr hO hP hne hne2 hnn hS hbw hk hr ha h4 hSl (by omega) a hg ht
     | some b => exact Ract_four w base r A c S B d K o Hr hO hP hne hne2 hnn hS hbw hk hr ha h4 hSl (by omega) a hg b ht
end Go.Proofs.YtnbcghbgeiocbaaDoor
namespace Go.Proofs.YtnbcghbgeiocbaaDoor
open Go.Q Go.RowKit
set_option maxHeartbeats 4000000 in
theorem RDo_calls (w : World) (base r : Nat) (A : Option Addr) (c : Nat) (S : List RowM) (B : Option Addr) (d : Nat) (K : List KeptM) (o : Opm) (Hr : Has w r (rowL [.slice A S.length c, .slice B K.length d] 55)) (hO : OwnT w base 98 2 RowM.cells (.slice A S.length c) S) (hP : OwnT w base 101 10 kref (.slice B K.length d) K) (hne : ∀ i, (Value.slice A S.length c).ownBlock = some i → i ≠ r) (hne2 : ∀ i, (Value.slice B K.length d).ownBlock = some i → i ≠ r) (hnn : ∀ i, (Value.slice A S.length c).ownBlock = some i → (Value.slice B K.length d).ownBlock = some i → False) (hS : Led S) (hbw : base ≤ w.heap.size) (hL : Ledg S K) (hr : -9223372036854775808 ≤ o.amount ∧ o.amount ≤ 9223372036854775807) (hSl : S.length ≤ 1000) (hKl : K.length ≤ 1000) : Calls Tryd.prog 22 ⟨[(ptr r), (agg (Opm.cells o))]⟩ w (fun e w' => ∃ A' c' B' d' AR cR, e = .returned (agg [i64 (doR S K o).why, i64 (doR S K o).amount, .slice AR (doR S K o).rows.length cR]) ∧ Keeps (fun i => i = r ∨ (Value.slice A S.length c).ownBlock = some i ∨ (Value.slice B K.length d).ownBlock = some i) w w' ∧ Has w' r (rowL [.slice A' (doS S K o).length c', .slice B' (doK S K o).length d'] 55) ∧ OwnT w' base 98 2 RowM.cells (Value.slice A' (doS S K o).length c') (doS S K o) ∧ OwnT w' base 101 10 kref (Value.slice B' (doK S K o).length d') (doK S K o) ∧ OwnR w' w.heap.size 98 (Value.slice AR (doR S K o).rows.length cR) (doR S K o).rows ∧ (∀ i, ((Value.slice A' (doS S K o).length c')).ownBlock = some i → ((Value.slice A S.length c)).ownBlock = some i ∨ w.heap.size ≤ i) ∧ (∀ i, ((Value.slice B' (doK S K o).length d')).ownBlock = some i → ((Value.slice B K.length d)).ownBlock = some i ∨ w.heap.size ≤ i) ∧ (∀ i, (Value.slice A' (doS S K o).length c').ownBlock = some i → (Value.slice B' (doK S K o).length d').ownBlock = some i → False) ∧ (∀ i, (Value.slice AR (doR S K o).rows.length cR).ownBlock = some i → (Value.slice A' (doS S K o).length c').ownBlock = some i → False) ∧ (∀ i, (Value.slice AR (doR S K o).rows.length cR).ownBlock = some i → (Value.slice B' (doK S K o).length d').ownBlock = some i → False)) := by
 have hR := OwnT.rd hO
 have hQ := OwnT.rd hP
 have Hrl := Hr.lt
 have hcap := RdT.len RowM.two (by decide) hR
 have hcapk := RdT.len kref10 (by decide) hQ
 unfold maxLen at hcap hcapk
 have K0 : Keeps (fun i => i = r ∨ (Value.slice A S.length c).ownBlock = some i ∨ (Value.slice B K.length d).ownBlock = some i) w w := (Keeps.refl w).mono (fun _ _ h => h.elim)
 refine q_calls Tryd.func22 (by kernel_rfl) (by kernel_rfl) ?_
 refine qsg ?_
 refine onew (rowL (Opm.cells o) 24) (fun b => (ptr b)) 3 (fun b => rfl) (fun b1 w2 hb3 H4 K5 hs6 => ?_)
 have lb1r : r < b1 := by have := Hr.lt; omega
 have nb1 : w.heap.size ≤ b1 := by have := K0.size; omega
 have ob7 : ∀ i, Ow (.slice A S.length c) i → i < b1 := fun i hi => by have := (World.ownsRow.lt hO i hi).2; omega
 have ob8 : ∀ i, Ow (.slice B K.length d) i → i < b1 := fun i hi => by have := (World.ownsRow.lt hP i hi).2; omega
 replace K0 := K0.tn K5
 replace Hr := Hr.kn K5
 replace hO := own_keep0 hO K5
 replace hP := own_keep0 hP K5
 clear K5 hs6
 refine onew (rowL [(i64 0), (i64 0), (Value.slice none 0 0)] 28) (fun b => (ptr b)) 4 (fun b => rfl) (fun b9 w10 hb11 H12 K13 hs14 => ?_)
 have lb9r : r < b9 := by have := Hr.lt; omega
 have lb9b1 : b1 < b9 := by have := H4.lt; omega
 have nb9 : w.heap.size ≤ b9 := by have := K0.size; omega
 have ob15 : ∀ i, Ow (.slice A S.length c) i → i < b9 := fun i hi => by have := (World.ownsRow.lt hO i hi).2; omega
 have ob16 : ∀ i, Ow (.slice B K.length d) i → i < b9 := fun i hi => by have := (World.ownsRow.lt hP i hi).2; omega
 replace K0 := K0.tn K13
 replace Hr := Hr.kn K13
 replace H4 := H4.kn K13
 replace hO := own_keep0 hO K13
 replace hP := own_keep0 hP K13
 clear K13 hs14
 refine od ?_
 refine qsg ?_
 refine ogo (agg (Opm.cells o)) 12 (rld 24 b1 0 H4) rfl ?_
 refine ocQ 13 (RWrong_calls _ o) ?_
 rintro _ w18 ⟨rfl, K17⟩
 refine ⟨_, _, rfl, rfl, ?_⟩
 replace K0 := K0.tn K17
 replace Hr := Hr.kn K17
 replace H4 := H4.kn K17
 replace H12 := H12.kn K17
 replace hO := own_keep0 hO K17
 replace hP := own_keep0 hP K17
 refine odz 1 ?_
 refine qs ?_
 refine qsg ?_
 refine ogd 2 [(0, ptr r), (3, ptr b1), (4, ptr b9), (5, (i64 (wrongE o))), (15, (Value.bool ((wrongE o) != 0)))] ?_
 refine qcQ 15 ((wrongE o) != 0) rfl (fun h19 => ?_) (fun h19 => ?_)
 ·rw [h19]
  have p20 := of_bne_t h19
  refine qsg ?_
  refine og 2 [(0, ptr r), (3, ptr b1), (4, ptr b9), (17, (agg [(i64 (wrongE o)), (i64 0), (Value.slice none 0 0)]))] 2 ?_
  refine oput 28 b9 [(i64 (wrongE o)), (i64 0), (Value.slice none 0 0)] H12 rfl (fun w21 H22 K23 => ?_)
  replace K0 := K0.t1 K23 fun _ => by omega
  replace Hr := Hr.k1 K23 (by omega)
  replace hO := own_keep hO K23 (fun i hi => by have := ob15 i hi; omega)
  replace hP := own_keep hP K23 (fun i hi => by have := ob16 i hi; omega)
  refine od ?_
  refine qtQ ?_
  refine ⟨(agg [(i64 (wrongE o)), (i64 0), (Value.slice none 0 0)]), retv_cell rfl rfl (H22.loads (by kernel_rfl)), ?_⟩
  have e0 := do_wrong (S := S) (K := K) (o := o) (by omega)
  obtain ⟨e1, e2, e3⟩ := e0
  rw [e1, e2, e3]
  exact ⟨_, _, _, _, none, 0, rfl, K0, Hr, hO, hP, (OwnT.nil _ _ _ _ _), (fun _ h => .inl h), (fun _ h => .inl h), hnn, (fun i h => by cases h), (fun i h => by cases h)⟩
 ·rw [h19]
  have p24 := of_bne_f h19
  have hw : wrongE o = 0 := by omega
  refine qkQ ?_
  refine qs ?_
  refine qsg ?_
  refine og 1 [(0, ptr r), (3, ptr b1), (4, ptr b9), (18, ptr b1)] 1 ?_
  refine ogo (i64 o.kind) 19 (rld 3 b1 0 H4) rfl ?_
  refine od ?_
  refine q_block (id := 0) (by kernel_rfl) ?_
  refine qsg ?_
  refine ogd 2 [(0, ptr r), (3, ptr b1), (4, ptr b9), (19, i64 o.kind), (20, .bool (o.kind == 7))] ?_
  refine qcQ 20 (o.kind == 7) rfl (fun h25 => ?_) (fun h25 => ?_)
  ·rw [h25]
   have p26 := of_beq_t h25
   refine qsg ?_
   refine og 1 [(0, ptr r), (3, ptr b1), (4, ptr b9), (19, i64 o.kind), (22, (agg [(i64 0), (i64 0), (Value.slice none 0 0)]))] 1 ?_
   refine oput 28 b9 [(i64 0), (i64 0), (Value.slice none 0 0)] H12 rfl (fun w27 H28 K29 => ?_)
   replace K0 := K0.t1 K29 fun _ => by omega
   replace Hr := Hr.k1 K29 (by omega)
   replace hO := own_keep hO K29 (fun i hi => by have := ob15 i hi; omega)
   replace hP := own_keep hP K29 (fun i hi => by have := ob16 i hi; omega)
   refine od ?_
   refine qtQ ?_
   refine ⟨(agg [(i64 0), (i64 0), (Value.slice none 0 0)]), retv_cell rfl rfl (H28.loads (by kernel_rfl)), ?_⟩
   have e0 := do_move (S := S) (K := K) (o := o) hw (by omega)
   obtain ⟨e1, e2, e3⟩ := e0
   rw [e1, e2, e3]
   exact ⟨_, _, _, _, none, 0, rfl, K0, Hr, hO, hP, (OwnT.nil _ _ _ _ _), (fun _ h => .inl h), (fun _ h => .inl h), hnn, (fun i h => by cases h), (fun i h => by cases h)⟩
  ·rw [h25]
   have p30 := of_beq_f h25
   refine qsg ?_
   refine ogd 2 [(0, ptr r), (3, ptr b1), (4, ptr b9), (19, i64 o.kind), (23, .bool (o.kind == 6))] ?_
   refine qcQ 23 (o.kind == 6) rfl (fun h31 => ?_) (fun h31 => ?_)
   ·rw [h31]
    have p32 := of_beq_t h31
    refine qsg ?_
    refine onew (rowL [(i64 0), (i64 0), (Value.slice none 0 0)] 28) (fun b => (ptr b)) 6 (fun b => rfl) (fun b33 w34 hb35 H36 K37 hs38 => ?_)
    have lb33r : r < b33 := by have := Hr.lt; omega
    have lb33b1 : b1 < b33 := by have := H4.lt; omega
    have lb33b9 : b9 < b33 := by have := H12.lt; omega
    have nb33 : w.heap.size ≤ b33 := by have := K0.size; omega
    have ob39 : ∀ i, Ow (.slice A S.length c) i → i < b33 := fun i hi => by have := (World.ownsRow.lt hO i hi).2; omega
    have ob40 : ∀ i, Ow (.slice B K.length d) i → i < b33 := fun i hi => by have := (World.ownsRow.lt hP i hi).2; omega
    replace K0 := K0.tn K37
    replace Hr := Hr.kn K37
    replace H12 := H12.kn K37
    replace hO := own_keep0 hO K37
    replace hP := own_keep0 hP K37
    clear K37 hs38
    refine od ?_
    refine qs ?_
    refine q_draw (fun wz => Keeps (fun i => i = b33) w34 wz) 9 (by kernel_rfl) (by kernel_rfl) (by kernel_rfl) (fun w41 K42 _ _ => ⟨(K42.mono (fun _ _ h => h.elim)), ?_⟩)
    replace K0 := K0.tn K42
    replace Hr := Hr.kn K42
    replace H12 := H12.kn K42
    replace H36 := H36.kn K42
    replace hO := own_keep0 hO K42
    replace hP := own_keep0 hP K42
    refine Dr.strong (S' := (fun wz => Keeps (fun i => i = b33) w41 wz)) ((Keeps.refl w41).mono (fun _ _ h => h.elim)) (fun wz hx => K42.trans hx (fun i _ h => h.elim) (fun _ _ h => h)) ?_
    refine dkQ 5 [0, 2, 3, 4] [(0, ptr r), (3, ptr b1), (4, ptr b9), (6, ptr b33), (19, i64 o.kind), (25, .pointer (some ⟨b33, 2, none⟩)), (29, ptr r)] ?_
    refine dtQ 5 (Value.slice A S.length c) 30 (fun wz hS => rld 26 r 0 (Hr.keep hS (by intro h; change r = b33 at h; omega))) rfl ?_
    refine Dr.go (i := 1) (v := (Value.slice none 0 0)) (by kernel_rfl) (by kernel_rfl) (rld 26 b33 2 H36) (d := (some 26)) (by kernel_rfl) rfl ((Keeps.refl _).mono (fun _ _ h => h.elim)) ?_
    obtain ⟨v43, w44, hr45, hO46, hK47, hg48⟩ := OwnT.app (ty := 26) RowM.two RowM.one tyR (OwnT.nil _ w.heap.size 98 2 RowM.cells) (OwnT.rd hO) (by (try simp only [List.length_append]); (try simp only [List.length_cons]); (try simp only [List.length_nil]); omega) (by (try simp only [List.length_append]); (try simp only [List.length_cons]); (try simp only [List.length_nil]); omega) K0.size
    obtain ⟨A50, c51, rfl⟩ := RdT.form RowM.two (by decide) (OwnT.rd hO46)
    obtain ⟨l52, hl53⟩ : ∃ z, z = [] ++ S := ⟨_, rfl⟩
    rw [← hl53] at hr45 hO46 hg48
    have hn54 : l52.length = 0 + S.length := by simp [hl53]
    have ob57 : ∀ i, Ow (.slice A50 l52.length c51) i → i ≠ b9 := fun i hi => by rcases hg48 i hi with h | h; (cases h); (have := H12.lt; omega)
    have ob58 : ∀ i, Ow (.slice A50 l52.length c51) i → i ≠ b33 := fun i hi => by rcases hg48 i hi with h | h; (cases h); (have := H36.lt; omega)
    have oo59 : ∀ i, Ow (.slice A S.length c) i → Ow (.slice A50 l52.length c51) i → False := fun i hi hs => by rcases hg48 i hs with h | h; (cases h); (have := (World.ownsRow.lt hO i hi).2; omega)
    have oo60 : ∀ i, Ow (.slice A50 l52.length c51) i → Ow (.slice A S.length c) i → False := fun i hi hs => oo59 i hs hi
    have oo61 : ∀ i, Ow (.slice B K.length d) i → Ow (.slice A50 l52.length c51) i → False := fun i hi hs => by rcases hg48 i hs with h | h; (cases h); (have := (World.ownsRow.lt hP i hi).2; omega)
    have oo62 : ∀ i, Ow (.slice A50 l52.length c51) i → Ow (.slice B K.length d) i → False := fun i hi hs => oo61 i hs hi
    have K49 := Keeps.mono (U := none_) hK47 (fun _ _ h => by cases h)
    replace K0 := K0.tn K49
    replace Hr := Hr.kn K49
    replace H12 := H12.kn K49
    replace H36 := H36.kn K49
    replace hO := own_keep0 hO K49
    replace hP := own_keep0 hP K49
    refine Dr.go (i := 6) (v := (Value.slice A50 l52.length c51)) (by kernel_rfl) (by kernel_rfl) (Runs.append (ts := #[26, 26]) (ty := 26) (vs := [(Value.slice none 0 0), (Value.slice A S.length c)]) (by kernel_rfl) hr45) (d := (some 31)) (by kernel_rfl) rfl (K49.mono (fun _ _ h => h.elim)) ?_
    refine Dr.strong (S' := (fun wz => Keeps (fun i => i = b33) w44 wz)) ((Keeps.refl w44).mono (fun _ _ h => h.elim)) (fun wz hx => K49.trans hx (fun i _ h => h.elim) (fun _ _ h => h)) ?_
    clear K49 hr45 hK47 hg48
    refine dkQ 1 [7] [(0, ptr r), (3, ptr b1), (4, ptr b9), (6, ptr b33), (19, i64 o.kind), (31, .slice A50 l52.length c51), (32, .pointer (some ⟨b33, 2, none⟩))] ?_
    refine Dr.put (i := 8) (t := 26) (b := b33) (off := 2) (v := (Value.slice A50 l52.length c51)) (ys := [(i64 0), (i64 0), (Value.slice A50 l52.length c51)]) (by kernel_rfl) (by kernel_rfl) (by kernel_rfl) H36 (by kernel_rfl) (d := none) (by kernel_rfl) rfl (fun w63 H64 K65 => ?_)
    replace K0 := K0.t1 K65 fun _ => by omega
    replace Hr := Hr.k1 K65 (by omega)
    replace H12 := H12.k1 K65 (by omega)
    replace hO := own_keep hO K65 (fun i hi => by have := ob39 i hi; omega)
    replace hP := own_keep hP K65 (fun i hi => by have := ob40 i hi; omega)
    replace hO46 := own_keep hO46 K65 (fun i hi => by have := ob58 i hi; omega)
    refine ⟨K65, ?_⟩
    refine Dr.strong (S' := (fun wz => Keeps (fun i => i = b33) w63 wz)) ((Keeps.refl w63).mono (fun _ _ h => h.elim)) (fun wz hx => K65.trans hx (fun i _ h => by have h : i = b33 := h; show i = b33; omega) (fun _ _ h => h)) ?_
    refine Dr.done (by kernel_rfl) ?_
    refine qsg ?_
    refine ogo (agg [(i64 0), (i64 0), (Value.slice A50 l52.length c51)]) 33 (rld 28 b33 0 H64) rfl ?_
    refine oput 28 b9 [(i64 0), (i64 0), (Value.slice A50 l52.length c51)] H12 rfl (fun w66 H67 K68 => ?_)
    replace K0 := K0.t1 K68 fun _ => by omega
    replace Hr := Hr.k1 K68 (by omega)
    replace hO := own_keep hO K68 (fun i hi => by have := ob15 i hi; omega)
    replace hP := own_keep hP K68 (fun i hi => by have := ob16 i hi; omega)
    replace hO46 := own_keep hO46 K68 (fun i hi => by have := ob57 i hi; omega)
    refine od ?_
    refine qtQ ?_
    refine ⟨(agg [(i64 0), (i64 0), (Value.slice A50 l52.length c51)]), retv_cell rfl rfl (H67.loads (by kernel_rfl)), ?_⟩
    have e0 := do_audit (S := S) (K := K) (o := o) hw (by omega)
    obtain ⟨e1, e2, e3⟩ := e0
    have oo69 := oo60
    have oo70 := oo62
    rw [hl53, List.nil_append] at hO46 oo69 oo70
    have hlz : l52.length = S.length := by rw [hl53]; rfl
    rw [e1, e2, e3]
    exact ⟨_, _, _, _, A50, c51, by rw [hl53, List.nil_append], K0, Hr, hO, hP, hO46, (fun _ h => .inl h), (fun _ h => .inl h), hnn, oo69, oo70⟩
   ·rw [h31]
    have p71 := of_beq_f h31
    refine qsg ?_
    refine ogd 2 [(0, ptr r), (3, ptr b1), (4, ptr b9), (34, .bool (o.kind == 5))] ?_
    refine qcQ 34 (o.kind == 5) rfl (fun h72 => ?_) (fun h72 => ?_)
    ·rw [h72]
     have p73 := of_beq_t h72
     refine qsg ?_
     refine og 2 [(0, ptr r), (3, ptr b1), (4, ptr b9), (37, ptr r), (38, .pointer (some ⟨b1, 1, none⟩))] 2 ?_
     refine ogo (Value.string (str o.frm)) 39 (rld 9 b1 1 H4) rfl ?_
     refine ocQ 40 (Rfind_calls _ r A c S B d K o.frm Hr (OwnT.rd hO) (OwnT.rd hP)) ?_
     rintro _ w75 ⟨rfl, K74⟩
     refine ⟨_, _, rfl, rfl, ?_⟩
     replace K0 := K0.tn K74
     replace Hr := Hr.kn K74
     replace H12 := H12.kn K74
     replace hO := own_keep0 hO K74
     replace hP := own_keep0 hP K74
     refine odz 5 ?_
     refine qs ?_
     refine qsg ?_
     refine ogd 2 [(0, ptr r), (3, ptr b1), (4, ptr b9), (7, i64 ↑(posW S o.frm)), (44, (Value.bool (!(hasW S o.frm))))] ?_
     refine qcQ 44 (!(hasW S o.frm)) rfl (fun h76 => ?_) (fun h76 => ?_)
     ·rw [h76]
      have p77 := bnot_true h76
      have hg := hasw_none hS (bnot_true h76)
      refine qsg ?_
      refine og 1 [(0, ptr r), (3, ptr b1), (4, ptr b9), (7, i64 ↑(posW S o.frm)), (45, (agg [(i64 40), (i64 0), (Value.slice none 0 0)]))] 1 ?_
      refine oput 28 b9 [(i64 40), (i64 0), (Value.slice none 0 0)] H12 rfl (fun w78 H79 K80 => ?_)
      replace K0 := K0.t1 K80 fun _ => by omega
      replace Hr := Hr.k1 K80 (by omega)
      replace hO := own_keep hO K80 (fun i hi => by have := ob15 i hi; omega)
      replace hP := own_keep hP K80 (fun i hi => by have := ob16 i hi; omega)
      refine od ?_
      refine qtQ ?_
      refine ⟨(agg [(i64 40), (i64 0), (Value.slice none 0 0)]), retv_cell rfl rfl (H79.loads (by kernel_rfl)), ?_⟩
      have e0 := do_bal_none (S := S) (K := K) (o := o) hw (by omega) hg
      obtain ⟨e1, e2, e3⟩ := e0
      rw [e1, e2, e3]
      exact ⟨_, _, _, _, none, 0, rfl, K0, Hr, hO, hP, (OwnT.nil _ _ _ _ _), (fun _ h => .inl h), (fun _ h => .inl h), hnn, (fun i h => by cases h), (fun i h => by cases h)⟩
     ·rw [h76]
      have p81 := bnot_false h76
      obtain ⟨a, hg, hf2⟩ := hasw_get hS (bnot_false h76)
      have hfl := (List.getElem?_eq_some_iff.1 hf2).1
      obtain ⟨rb82, ro83, hA84⟩ := Rd.addr (OwnT.rd hO) (by omega)
      refine qkQ ?_
      refine qsg ?_
      refine og 3 [(0, ptr r), (3, ptr b1), (4, ptr b9), (7, i64 ↑(posW S o.frm)), (48, ptr r)] 3 ?_
      refine ogo (Value.slice A S.length c) 49 (rld 26 r 0 Hr) rfl ?_
      refine og 1 [(0, ptr r), (3, ptr b1), (4, ptr b9), (49, .slice A S.length c), (50, i64 ↑(posW S o.frm))] 5 ?_
      refine Ops.go (by kernel_rfl) (Runs.ixSliceE (k := IntKind.i64) (t := 26) (len := S.length) (cap := c) (s := 2) (off' := ro83 + (posW S o.frm) * 2) (i := ((posW S o.frm : Nat) : Int)) hA84 (by kernel_rfl) (by kernel_rfl) (by omega) (by omega) (by omega)) (d := (some 51)) (by kernel_rfl) rfl ?_
      refine og 1 [(0, ptr r), (3, ptr b1), (4, ptr b9), (52, (Value.pointer (some ⟨rb82, ro83 + (posW S o.frm) * 2 + 1, none⟩)))] 7 ?_
      refine ogo (i64 a.amount) 53 (Runs.load (t := 2) (a := ⟨rb82, ro83 + (posW S o.frm) * 2 + 1, none⟩) (by kernel_rfl) (RdT.ldf (f := RowM.cells) (x := a) (o := 1) RowM.two (OwnT.rd hO) (by kernel_rfl) hA84 hf2 rfl)) rfl ?_
      refine og 1 [(0, ptr r), (3, ptr b1), (4, ptr b9), (54, (agg [(i64 0), (i64 a.amount), (Value.slice none 0 0)]))] 9 ?_
      refine oput 28 b9 [(i64 0), (i64 a.amount), (Value.slice none 0 0)] H12 rfl (fun w85 H86 K87 => ?_)
      replace K0 := K0.t1 K87 fun _ => by omega
      replace Hr := Hr.k1 K87 (by omega)
      replace hO := own_keep hO K87 (fun i hi => by have := ob15 i hi; omega)
      replace hP := own_keep hP K87 (fun i hi => by have := ob16 i hi; omega)
      refine od ?_
      refine qtQ ?_
      refine ⟨(agg [(i64 0), (i64 a.amount), (Value.slice none 0 0)]), retv_cell rfl rfl (H86.loads (by kernel_rfl)), ?_⟩
      have e0 := do_bal_some (S := S) (K := K) (o := o) hw (by omega) hg
      obtain ⟨e1, e2, e3⟩ := e0
      rw [e1, e2, e3]
      exact ⟨_, _, _, _, none, 0, rfl, K0, Hr, hO, hP, (OwnT.nil _ _ _ _ _), (fun _ h => .inl h), (fun _ h => .inl h), hnn, (fun i h => by cases h), (fun i h => by cases h)⟩
    ·rw [h72]
     have p88 := of_beq_f h72
     have hwa := wrong_act hw (by omega) (by omega) (by omega)
     have hro : -9223372036854775808 ≤ (plainE o).amount ∧ (plainE o).amount ≤ 9223372036854775807 := by unfold plainE; simp only; split <;> omega
     refine qkQ ?_
     refine qsg ?_
     refine ogo (agg (Opm.cells o)) 55 (rld 24 b1 0 H4) rfl ?_
     refine ocQ 56 (just_calls _ o) ?_
     rintro _ w90 ⟨rfl, K89⟩
     refine ⟨_, _, rfl, rfl, ?_⟩
     replace K0 := K0.tn K89
     replace Hr := Hr.kn K89
     replace H4 := H4.kn K89
     replace H12 := H12.kn K89
     replace hO := own_keep0 hO K89
     replace hP := own_keep0 hP K89
     refine oput 24 b1 [(i64 o.kind), (Value.string (str o.frm)), (Value.string (str ((plainE o).to))), (i64 ((plainE o).amount)), (Value.string (str o.key)), (i64 0), (i64 0)] H4 rfl (fun w91 H92 K93 => ?_)
     clear H4
     replace K0 := K0.t1 K93 fun _ => by omega
     replace Hr := Hr.k1 K93 (by omega)
     replace H12 := H12.k1 K93 (by omega)
     replace hO := own_keep hO K93 (fun i hi => by have := ob7 i hi; omega)
     replace hP := own_keep hP K93 (fun i hi => by have := ob8 i hi; omega)
     refine od ?_
     refine qs ?_
     refine qsg ?_
     refine ogd 1 [(0, ptr r), (3, ptr b1), (4, ptr b9), (9, i64 0)] ?_
     refine q_block (id := 1) (by kernel_rfl) ?_
     refine q_keep (R := [(0, ptr r), (3, ptr b1), (4, ptr b9), (9, i64 0)]) (by kernel_rfl) ?_
     refine q_loop (fun (i : Nat) L (wx : World) => L = [(0, (ptr r)), (3, (ptr b1)), (4, (ptr b9)), (9, (i64 ((i : Nat) : Int)))] ∧ OwnT wx base 98 2 RowM.cells (Value.slice A S.length c) S ∧ OwnT wx base 101 10 kref (Value.slice B K.length d) K ∧ i ≤ K.length ∧ (∀ j y, j < i → K[j]? = some y → ¬ (y.op.frm = o.frm ∧ y.op.key = o.key)) ∧ Keeps (fun i => i = r ∨ Ow (.slice A S.length c) i ∨ Ow (.slice B K.length d) i) w wx ∧ Has wx r (rowL [(Value.slice A S.length c), (Value.slice B K.length d)] 55) ∧ Has wx b1 (rowL [(i64 o.kind), (Value.string (str o.frm)), (Value.string (str ((plainE o).to))), (i64 ((plainE o).amount)), (Value.string (str o.key)), (i64 0), (i64 0)] 24) ∧ Has wx b9 (rowL [(i64 0), (i64 0), (Value.slice none 0 0)] 28)) (fun (i : Nat) => K.length - i) 0 (by kernel_rfl) ⟨rfl, hO, hP, Nat.zero_le _, (fun j y h => absurd h (Nat.not_lt_zero _)), K0, Hr, H92, H12⟩ ?_
     clear Hr H92 H12 hO hP K0
     rintro i _ w94 ⟨rfl, hC0, hC1, hi, hno, K95, H96, H97, H98⟩
     refine qs ?_
     refine qsg ?_
     refine og 4 [(0, ptr r), (3, ptr b1), (4, ptr b9), (9, i64 ↑i), (57, i64 ↑i), (60, .pointer (some ⟨r, 1, none⟩))] 4 ?_
     refine ogo (Value.slice B K.length d) 61 (rld 53 r 1 H96) rfl ?_
     refine ogd 2 [(0, ptr r), (3, ptr b1), (4, ptr b9), (9, i64 ↑i), (63, (Value.bool (decide (((i : Nat) : Int) < ((K.length : Nat) : Int)))))] ?_
     refine qcQ 63 (decide (((i : Nat) : Int) < ((K.length : Nat) : Int))) rfl (fun h99 => ?_) (fun h99 => ?_)
     ·rw [h99]
      have p100 := of_decide_eq_true h99
      obtain ⟨x, hx⟩ : ∃ y, K[i]? = some y := ⟨_, List.getElem?_eq_getElem (by omega)⟩
      obtain ⟨rb101, ro102, hA103⟩ := Rd.addr (OwnT.rd hC1) (by omega)
      refine qkQ ?_
      refine qs ?_
      refine q_block (id := 2) (by kernel_rfl) ?_
      refine qsg ?_
      refine og 3 [(0, ptr r), (3, ptr b1), (4, ptr b9), (9, i64 ↑i), (68, .pointer (some ⟨r, 1, none⟩))] 3 ?_
      refine ogo (Value.slice B K.length d) 69 (rld 53 r 1 H96) rfl ?_
      refine og 1 [(0, ptr r), (3, ptr b1), (4, ptr b9), (9, i64 ↑i), (69, .slice B K.length d), (70, i64 ↑i)] 5 ?_
      refine Ops.go (by kernel_rfl) (Runs.ixSliceE (k := IntKind.i64) (t := 53) (len := K.length) (cap := d) (s := 10) (off' := ro102 + i * 10) (i := ((i : Nat) : Int)) hA103 (by kernel_rfl) (by kernel_rfl) (by omega) (by omega) (by omega)) (d := (some 71)) (by kernel_rfl) rfl ?_
      refine ogo (agg [(i64 x.op.kind), (Value.string (str x.op.frm)), (Value.string (str x.op.to)), (i64 x.op.amount), (Value.string (str x.op.key)), (i64 x.op.slot), (i64 x.op.shard), (i64 x.why), (i64 0), (Value.slice none 0 0)]) 72 (Runs.load (t := 101) (a := ⟨rb101, ro102 + i * 10, none⟩) (by kernel_rfl) (RdT.ld (f := kref) (x := x) kref10 (OwnT.rd hC1) (by kernel_rfl) (by kernel_rfl) hA103 hx)) rfl ?_
      refine onew (rowL [(i64 0), (Value.string ByteArray.empty), (Value.string ByteArray.empty), (i64 0), (Value.string ByteArray.empty), (i64 0), (i64 0), (i64 0), (i64 0), (Value.slice none 0 0)] 101) (fun b => (ptr b)) 10 (fun b => rfl) (fun b104 w105 hb106 H107 K108 hs109 => ?_)
      have lb104r : r < b104 := by have := H96.lt; omega
      have lb104b1 : b1 < b104 := by have := H97.lt; omega
      have lb104b9 : b9 < b104 := by have := H98.lt; omega
      have nb104 : w.heap.size ≤ b104 := by have := K95.size; omega
      have ob110 : ∀ i, Ow (.slice A S.length c) i → i < b104 := fun i hi => by have := (World.ownsRow.lt hC0 i hi).2; omega
      have ob111 : ∀ i, Ow (.slice B K.length d) i → i < b104 := fun i hi => by have := (World.ownsRow.lt hC1 i hi).2; omega
      replace K95 := K95.tn K108
      replace H96 := H96.kn K108
      replace H97 := H97.kn K108
      replace H98 := H98.kn K108
      replace hC0 := own_keep0 hC0 K108
      replace hC1 := own_keep0 hC1 K108
      clear K108 hs109
      refine oput 101 b104 [(i64 x.op.kind), (Value.string (str x.op.frm)), (Value.string (str x.op.to)), (i64 x.op.amount), (Value.string (str x.op.key)), (i64 x.op.slot), (i64 x.op.shard), (i64 x.why), (i64 0), (Value.slice none 0 0)] H107 rfl (fun w112 H113 K114 => ?_)
      replace K95 := K95.t1 K114 fun _ => by omega
      replace H96 := H96.k1 K114 (by omega)
      replace H97 := H97.k1 K114 (by omega)
      replace H98 := H98.k1 K114 (by omega)
      replace hC0 := own_keep hC0 K114 (fun i hi => by have := ob110 i hi; omega)
      replace hC1 := own_keep hC1 K114 (fun i hi => by have := ob111 i hi; omega)
      refine od ?_
      refine qsg ?_
      refine og 2 [(0, ptr r), (3, ptr b1), (4, ptr b9), (9, i64 ↑i), (10, ptr b104), (74, .pointer (some ⟨b104, 1, none⟩))] 2 ?_
      refine ogo (Value.string (str x.op.frm)) 75 (rld 9 b104 1 H113) rfl ?_
      refine og 1 [(0, ptr r), (3, ptr b1), (4, ptr b9), (9, i64 ↑i), (10, ptr b104), (75, .string (str x.op.frm)), (76, .pointer (some ⟨b1, 1, none⟩))] 4 ?_
      refine ogo (Value.string (str o.frm)) 77 (rld 9 b1 1 H97) rfl ?_
      refine ogo (Value.bool (x.op.frm == o.frm)) 78 (Runs.streq (t := 9) (by kernel_rfl)) rfl ?_
      refine og 1 [(0, ptr r), (3, ptr b1), (4, ptr b9), (9, i64 ↑i), (10, ptr b104), (79, .bool (x.op.frm == o.frm))] 7 ?_
      refine Ops.split (x.op.frm == o.frm) (fun h115 => ?_) (fun h115 => ?_)
      ·rw [h115]
       have p116 : (x.op.frm == o.frm) = true := h115
       refine og 2 [(0, ptr r), (3, ptr b1), (4, ptr b9), (9, i64 ↑i), (10, ptr b104), (79, .bool true), (81, .pointer (some ⟨b104, 4, none⟩))] 9 ?_
       refine ogo (Value.string (str x.op.key)) 82 (rld 9 b104 4 H113) rfl ?_
       refine og 1 [(0, ptr r), (3, ptr b1), (4, ptr b9), (9, i64 ↑i), (10, ptr b104), (79, .bool true), (82, .string (str x.op.key)), (83, .pointer (some ⟨b1, 4, none⟩))] 11 ?_
       refine ogo (Value.string (str o.key)) 84 (rld 9 b1 4 H97) rfl ?_
       refine ogo (Value.bool (x.op.key == o.key)) 85 (Runs.streq (t := 9) (by kernel_rfl)) rfl ?_
       refine ogd 1 [(0, ptr r), (3, ptr b1), (4, ptr b9), (9, i64 ↑i), (10, ptr b104), (86, .bool (x.op.key == o.key))] ?_
       refine qcQ 86 (x.op.key == o.key) rfl (fun h117 => ?_) (fun h117 => ?_)
       ·rw [h117]
        have p118 : (x.op.key == o.key) = true := h117
        refine qs ?_
        refine qsg ?_
        refine og 1 [(0, ptr r), (3, ptr b1), (4, ptr b9), (9, i64 ↑i), (10, ptr b104), (87, ptr b104)] 1 ?_
        refine ogo (agg (Opm.cells x.op)) 88 (rld 24 b104 0 H113) rfl ?_
        refine ogo (agg [(i64 o.kind), (Value.string (str o.frm)), (Value.string (str ((plainE o).to))), (i64 ((plainE o).amount)), (Value.string (str o.key)), (i64 0), (i64 0)]) 89 (rld 24 b1 0 H97) rfl ?_
        refine ogo (Value.bool (!(aggB [(i64 x.op.kind), (Value.string (str x.op.frm)), (Value.string (str x.op.to)), (i64 x.op.amount), (Value.string (str x.op.key)), (i64 x.op.slot), (i64 x.op.shard)] [(i64 o.kind), (Value.string (str o.frm)), (Value.string (str ((plainE o).to))), (i64 ((plainE o).amount)), (Value.string (str o.key)), (i64 0), (i64 0)]))) 90 (Runs.aggne (t := 24) (by kernel_rfl) (by kernel_rfl)) rfl ?_
        refine od ?_
        refine qcQ 90 (!(aggB [(i64 x.op.kind), (Value.string (str x.op.frm)), (Value.string (str x.op.to)), (i64 x.op.amount), (Value.string (str x.op.key)), (i64 x.op.slot), (i64 x.op.shard)] [(i64 o.kind), (Value.string (str o.frm)), (Value.string (str ((plainE o).to))), (i64 ((plainE o).amount)), (Value.string (str o.key)), (i64 0), (i64 0)])) rfl (fun h119 => ?_) (fun h119 => ?_)
        ·rw [h119]
         have p120 := bnot_true h119
         have hfk : findK K o.frm o.key = some x := findK_is hL hx (by simp_all) (by simp_all)
         refine qsg ?_
         refine og 1 [(0, ptr r), (3, ptr b1), (4, ptr b9), (9, i64 ↑i), (10, ptr b104), (91, (agg [(i64 45), (i64 0), (Value.slice none 0 0)]))] 1 ?_
         refine oput 28 b9 [(i64 45), (i64 0), (Value.slice none 0 0)] H98 rfl (fun w121 H122 K123 => ?_)
         replace K95 := K95.t1 K123 fun _ => by omega
         replace H96 := H96.k1 K123 (by omega)
         replace hC0 := own_keep hC0 K123 (fun i hi => by have := ob15 i hi; omega)
         replace hC1 := own_keep hC1 K123 (fun i hi => by have := ob16 i hi; omega)
         refine od ?_
         refine qtQ ?_
         refine ⟨(agg [(i64 45), (i64 0), (Value.slice none 0 0)]), retv_cell rfl rfl (H122.loads (by kernel_rfl)), ?_⟩
         have e0 := do_other (S := S) (K := K) (o := o) hw (by omega) (by omega) (by omega) hfk (bnot_true h119)
         obtain ⟨e1, e2, e3⟩ := e0
         rw [e1, e2, e3]
         exact ⟨_, _, _, _, none, 0, rfl, K95, H96, hC0, hC1, (OwnT.nil _ _ _ _ _), (fun _ h => .inl h), (fun _ h => .inl h), hnn, (fun i h => by cases h), (fun i h => by cases h)⟩
        ·rw [h119]
         have p124 := bnot_false h119
         have hfk : findK K o.frm o.key = some x := findK_is hL hx (by simp_all) (by simp_all)
         refine qkQ ?_
         refine qsg ?_
         refine og 1 [(0, ptr r), (3, ptr b1), (4, ptr b9), (9, i64 ↑i), (92, .pointer (some ⟨b104, 7, none⟩))] 1 ?_
         refine ogo (agg [(i64 x.why), (i64 0), (Value.slice none 0 0)]) 93 (rld 28 b104 7 H113) rfl ?_
         refine oput 28 b9 [(i64 x.why), (i64 0), (Value.slice none 0 0)] H98 rfl (fun w125 H126 K127 => ?_)
         replace K95 := K95.t1 K127 fun _ => by omega
         replace H96 := H96.k1 K127 (by omega)
         replace hC0 := own_keep hC0 K127 (fun i hi => by have := ob15 i hi; omega)
         replace hC1 := own_keep hC1 K127 (fun i hi => by have := ob16 i hi; omega)
         refine od ?_
         refine qtQ ?_
         refine ⟨(agg [(i64 x.why), (i64 0), (Value.slice none 0 0)]), retv_cell rfl rfl (H126.loads (by kernel_rfl)), ?_⟩
         have e0 := do_again (S := S) (K := K) (o := o) hw (by omega) (by omega) (by omega) hfk (bnot_false h119)
         obtain ⟨e1, e2, e3⟩ := e0
         rw [e1, e2, e3]
         exact ⟨_, _, _, _, none, 0, rfl, K95, H96, hC0, hC1, (OwnT.nil _ _ _ _ _), (fun _ h => .inl h), (fun _ h => .inl h), hnn, (fun i h => by cases h), (fun i h => by cases h)⟩
       ·rw [h117]
        have p128 : (x.op.key == o.key) = false := h117
        refine qkQ ?_
        refine qg ?_
        refine oid 3 (fun z => [(0, ptr r), (3, ptr b1), (4, ptr b9), (9, i64 z)]) i ?_
        exact ⟨i + 1, ⟨rfl, hC0, hC1, (by omega), (no_step hx hno (by first | (simp_all; done) | (rintro ⟨q1, q2⟩; simp_all))), K95, H96, H97, H98⟩, (show K.length - (i + 1) < K.length - i from by omega)⟩
      ·rw [h115]
       have p130 : (x.op.frm == o.frm) = false := h115
       refine ogd 7 [(0, ptr r), (3, ptr b1), (4, ptr b9), (9, i64 ↑i), (10, ptr b104), (86, .bool false)] ?_
       refine q_else (o := .tmp 86) (by kernel_rfl) rfl ?_
       refine qkQ ?_
       refine qg ?_
       refine oid 3 (fun z => [(0, ptr r), (3, ptr b1), (4, ptr b9), (9, i64 z)]) i ?_
       exact ⟨i + 1, ⟨rfl, hC0, hC1, (by omega), (no_step hx hno (by first | (simp_all; done) | (rintro ⟨q1, q2⟩; simp_all))), K95, H96, H97, H98⟩, (show K.length - (i + 1) < K.length - i from by omega)⟩
     ·rw [h99]
      have p132 := of_decide_eq_false h99
      have hfk : findK K o.frm o.key = none := findK_no (fun j y hy => hno j y (by have := (List.getElem?_eq_some_iff.1 hy).1; omega) hy)
      refine q_exit (id := 1) (by kernel_rfl) ?_
      refine qsg ?_
      refine og 1 [(0, ptr r), (3, ptr b1), (4, ptr b9), (94, ptr r)] 1 ?_
      refine ogo (agg [(i64 o.kind), (Value.string (str o.frm)), (Value.string (str ((plainE o).to))), (i64 ((plainE o).amount)), (Value.string (str o.key)), (i64 0), (i64 0)]) 95 (rld 24 b1 0 H97) rfl ?_
      refine ocQ 96 (Ract_calls _ base r A c S B d K (plainE o) H96 hC0 hC1 hne hne2 hnn hS (Nat.le_trans hbw K95.size) hwa.1 hro (fun q => by rw [plainE_amount o q]; exact hwa.2.2.2.1 q) (fun q => by rw [plainE_to o q]; exact (hwa.2.2.2.2 q).2) hSl) ?_
      rintro _ w135 ⟨A133, c134, rfl, K136, H137, hO138, hg139⟩
      have ob140 : ∀ i, ((Value.slice A133 ((actS S (plainE o)).length) c134)).ownBlock = some i → i ≠ r := fun i hi => by rcases hg139 i hi with h | h; (have := hne i h; omega); (have := H96.lt; omega)
      have ob142 : ∀ i, ((Value.slice A133 ((actS S (plainE o)).length) c134)).ownBlock = some i → i ≠ b9 := fun i hi => by rcases hg139 i hi with h | h; (have := ob15 i h; omega); (have := H98.lt; omega)
      have oo143 : ∀ i, Ow (.slice B K.length d) i → ((Value.slice A133 ((actS S (plainE o)).length) c134)).ownBlock = some i → False := fun i hi hs => by rcases hg139 i hs with h | h; (exact (fun i h h2 => hnn i h2 h) i hi h); (have := (World.ownsRow.lt hC1 i hi).2; omega)
      have oo144 : ∀ i, ((Value.slice A133 ((actS S (plainE o)).length) c134)).ownBlock = some i → Ow (.slice B K.length d) i → False := fun i hi hs => oo143 i hs hi
      have hgw145 : ∀ i, ((Value.slice A133 ((actS S (plainE o)).length) c134)).ownBlock = some i → Ow (.slice A S.length c) i ∨ w.heap.size ≤ i := fun i hi => (hg139 i hi).elim .inl fun h => .inr (Nat.le_trans K95.size h)
      refine ⟨_, _, rfl, rfl, ?_⟩
      replace K95 := K95.trans K136 (U := (fun i => i = r ∨ Ow (.slice A S.length c) i ∨ Ow (.slice B K.length d) i)) (fun i h1 h2 => h2) (fun i h1 h2 => by have h2 : i = r ∨ Ow (.slice A S.length c) i := h2; rcases h2 with h2 | h2; (exact .inl h2); (exact .inr (.inl h2)))
      replace H97 := H97.keep K136 (by intro h; change b1 = r ∨ Ow (.slice A S.length c) b1 at h; rcases h with h | h; (omega); (have := ob7 b1 h; omega))
      replace H98 := H98.keep K136 (by intro h; change b9 = r ∨ Ow (.slice A S.length c) b9 at h; rcases h with h | h; (omega); (have := ob15 b9 h; omega))
      clear hC0
      replace hC1 := own_keep hC1 K136 (fun i hi hs => by have hs : i = r ∨ Ow (.slice A S.length c) i := hs; rcases hs with hs | hs; (have := hne2 i hi; omega); (exact (fun i h h2 => hnn i h2 h) i hi hs))
      refine og 1 [(0, ptr r), (3, ptr b1), (4, ptr b9), (97, (agg [(i64 (actE S (plainE o))), (i64 0), (Value.slice none 0 0)]))] 4 ?_
      refine onew (rowL [(i64 0), (i64 0), (Value.slice none 0 0)] 28) (fun b => (ptr b)) 11 (fun b => rfl) (fun b146 w147 hb148 H149 K150 hs151 => ?_)
      have lb146r : r < b146 := by have := H137.lt; omega
      have lb146b1 : b1 < b146 := by have := H97.lt; omega
      have lb146b9 : b9 < b146 := by have := H98.lt; omega
      have nb146 : w.heap.size ≤ b146 := by have := K95.size; omega
      have ob152 : ∀ i, Ow (.slice B K.length d) i → i < b146 := fun i hi => by have := (World.ownsRow.lt hC1 i hi).2; omega
      have ob153 : ∀ i, ((Value.slice A133 ((actS S (plainE o)).length) c134)).ownBlock = some i → i < b146 := fun i hi => by have := (World.ownsRow.lt hO138 i hi).2; omega
      replace K95 := K95.tn K150
      replace H137 := H137.kn K150
      replace H97 := H97.kn K150
      replace H98 := H98.kn K150
      replace hC1 := own_keep0 hC1 K150
      replace hO138 := own_keep0 hO138 K150
      clear K150 hs151
      refine oput 28 b146 [(i64 (actE S (plainE o))), (i64 0), (Value.slice none 0 0)] H149 rfl (fun w154 H155 K156 => ?_)
      replace K95 := K95.t1 K156 fun _ => by omega
      replace H137 := H137.k1 K156 (by omega)
      replace H97 := H97.k1 K156 (by omega)
      replace H98 := H98.k1 K156 (by omega)
      replace hC1 := own_keep hC1 K156 (fun i hi => by have := ob152 i hi; omega)
      replace hO138 := own_keep hO138 K156 (fun i hi => by have := ob153 i hi; omega)
      refine od ?_
      refine qs ?_
      refine q_draw (fun wz => Keeps (fun i => Ow (.slice B K.length d) i ∨ i = r) w154 wz) 13 (by kernel_rfl) (by kernel_rfl) (by kernel_rfl) (fun w157 K158 _ _ => ⟨(K158.mono (fun _ _ h => h.elim)), ?_⟩)
      replace K95 := K95.tn K158
      replace H137 := H137.kn K158
      replace H97 := H97.kn K158
      replace H98 := H98.kn K158
      replace H155 := H155.kn K158
      replace hC1 := own_keep0 hC1 K158
      replace hO138 := own_keep0 hO138 K158
      refine Dr.strong (S' := (fun wz => Keeps (fun i => Ow (.slice B K.length d) i ∨ i = r) w157 wz)) ((Keeps.refl w157).mono (fun _ _ h => h.elim)) (fun wz hx => K158.trans hx (fun i _ h => h.elim) (fun _ _ h => h)) ?_
      refine dkQ 9 [0, 1, 2, 3] [(3, ptr b1), (4, ptr b9), (11, ptr b146), (98, ptr r), (101, .pointer (some ⟨r, 1, none⟩))] ?_
      refine dtQ 5 (agg [(i64 o.kind), (Value.string (str o.frm)), (Value.string (str ((plainE o).to))), (i64 ((plainE o).amount)), (Value.string (str o.key)), (i64 0), (i64 0)]) 103 (fun wz hS => rld 24 b1 0 (H97.keep hS (by intro h; change Ow (.slice B K.length d) b1 ∨ b1 = r at h; rcases h with h | h; (have := ob8 b1 h; omega); (omega)))) rfl ?_
      refine dtQ 6 (agg [(i64 (actE S (plainE o))), (i64 0), (Value.slice none 0 0)]) 104 (fun wz hS => rld 28 b146 0 (H155.keep hS (by intro h; change Ow (.slice B K.length d) b146 ∨ b146 = r at h; rcases h with h | h; (have := ob152 b146 h; omega); (omega)))) rfl ?_
      refine dkQ 6 [7] [(4, ptr b9), (11, ptr b146), (98, ptr r), (101, .pointer (some ⟨r, 1, none⟩)), (105, (agg [(i64 o.kind), (Value.string (str o.frm)), (Value.string (str ((plainE o).to))), (i64 ((plainE o).amount)), (Value.string (str o.key)), (i64 0), (i64 0), (i64 (actE S (plainE o))), (i64 0), (Value.slice none 0 0)]))] ?_
      refine Dr.float [(4, (ptr b9)), (11, (ptr b146)), (98, (ptr r)), (102, (Value.slice B K.length d)), (105, (agg [(i64 o.kind), (Value.string (str o.frm)), (Value.string (str ((plainE o).to))), (i64 ((plainE o).amount)), (Value.string (str o.key)), (i64 0), (i64 0), (i64 (actE S (plainE o))), (i64 0), (Value.slice none 0 0)]))] 4 ?_
      refine DrB.new (i := 4) (j := 8) (t := 53) (a := ⟨r, 1, none⟩) (v := (Value.slice B K.length d)) (o := rowL [(i64 o.kind), (Value.string (str o.frm)), (Value.string (str ((plainE o).to))), (i64 ((plainE o).amount)), (Value.string (str o.key)), (i64 0), (i64 0), (i64 (actE S (plainE o))), (i64 0), (Value.slice none 0 0)] 101) (V := fun b => (Value.slice (some ⟨b, 0, none⟩) 1 1)) (by kernel_rfl) (.inl rfl) (by kernel_rfl) (by kernel_rfl) (by kernel_rfl) (by kernel_rfl) (di := (some 102)) (by kernel_rfl) (by kernel_rfl) (by kernel_rfl) (by kernel_rfl) (dj := (some 106)) (by kernel_rfl) (fun b => rfl) (fun b => rfl) (H137.loads (by kernel_rfl)) ((Keeps.refl _).mono (fun _ _ h => h.elim)) (fun b159 w160 hb161 H162 K163 hs164 => ?_)
      have lb159r : r < b159 := by have := H137.lt; omega
      have lb159b1 : b1 < b159 := by have := H97.lt; omega
      have lb159b9 : b9 < b159 := by have := H98.lt; omega
      have lb159b146 : b146 < b159 := by have := H155.lt; omega
      have nb159 : w.heap.size ≤ b159 := by have := K95.size; omega
      replace K95 := K95.tn K163
      replace H137 := H137.kn K163
      replace H98 := H98.kn K163
      replace H155 := H155.kn K163
      replace hC1 := own_keep0 hC1 K163
      replace hO138 := own_keep0 hO138 K163
      refine ⟨(K163.mono (fun _ _ h => h.elim)), ?_⟩
      refine DrB.strong (S' := (fun wz => Keeps (fun i => Ow (.slice B K.length d) i ∨ i = r) w160 wz)) ((Keeps.refl w160).mono (fun _ _ h => h.elim)) (fun wz hx => K163.trans hx (fun i _ h => h.elim) (fun _ _ h => h)) ?_
      clear K163 hs164
      refine DrB.end_ (t := 53) (a := ⟨r, 1, none⟩) (v := (Value.slice B K.length d)) (R := [(4, (ptr b9)), (11, (ptr b146)), (98, (ptr r)), (102, (Value.slice B K.length d)), (106, (Value.slice (some ⟨b159, 0, none⟩) 1 1))]) (by kernel_rfl) (by kernel_rfl) (by kernel_rfl) (di := (some 102)) (by kernel_rfl) (by kernel_rfl) (by kernel_rfl) (H137.loads (by kernel_rfl)) ((Keeps.refl _).mono (fun _ _ h => h.elim)) ?_
      obtain ⟨v167, w168, hr169, hO170, hK171, hg172⟩ := OwnT.app (ty := 53) kref10 kref_one tyRK hC1 (show RdT _ 10 kref _ [(⟨(plainE o), actE S (plainE o)⟩ : KeptM)] from Rd.lit H162 (n := 1) rfl (by decide)) (by (try simp only [List.length_append]); (try simp only [List.length_cons]); (try simp only [List.length_nil]); omega) (by (try simp only [List.length_append]); (try simp only [List.length_cons]); (try simp only [List.length_nil]); omega) (Nat.le_trans hbw K95.size)
      obtain ⟨A174, c175, rfl⟩ := RdT.form kref10 (by decide) (OwnT.rd hO170)
      obtain ⟨l176, hl177⟩ : ∃ z, z = K ++ [(⟨(plainE o), actE S (plainE o)⟩ : KeptM)] := ⟨_, rfl⟩
      rw [← hl177] at hr169 hO170 hg172
      have hn178 : l176.length = K.length + 1 := by simp [hl177]
      have ob179 : ∀ i, Ow (.slice A174 l176.length c175) i → i ≠ r := fun i hi => by rcases hg172 i hi with h | h; (have := hne2 i h; omega); (have := H137.lt; omega)
      have ob181 : ∀ i, Ow (.slice A174 l176.length c175) i → i ≠ b9 := fun i hi => by rcases hg172 i hi with h | h; (have := ob16 i h; omega); (have := H98.lt; omega)
      have oo184 : ∀ i, ((Value.slice A133 ((actS S (plainE o)).length) c134)).ownBlock = some i → Ow (.slice A174 l176.length c175) i → False := fun i hi hs => by rcases hg172 i hs with h | h; (exact oo144 i hi h); (have := (World.ownsRow.lt hO138 i hi).2; omega)
      have K173 := hK171
      have hsz186 := K95.size
      replace K95 := K95.trans K173 (U := (fun i => i = r ∨ Ow (.slice A S.length c) i ∨ Ow (.slice B K.length d) i)) (fun i h1 h2 => h2) (fun i h1 h2 => by have h2 : Ow (.slice B K.length d) i := h2; exact .inr (.inr (h2)))
      replace H137 := H137.keep K173 (by intro h; change Ow (.slice B K.length d) r at h; have := hne2 r h; omega)
      replace H98 := H98.keep K173 (by intro h; change Ow (.slice B K.length d) b9 at h; have := ob16 b9 h; omega)
      replace H155 := H155.keep K173 (by intro h; change Ow (.slice B K.length d) b146 at h; have := ob152 b146 h; omega)
      clear hC1
      replace hO138 := own_keep hO138 K173 (fun i hi hs => by have hs : Ow (.slice B K.length d) i := hs; exact oo144 i hi hs)
      refine Dr.go (i := 9) (v := (Value.slice A174 l176.length c175)) (by kernel_rfl) (by kernel_rfl) (Runs.append (ts := #[53, 53]) (ty := 53) (vs := [(Value.slice B K.length d), (Value.slice (some ⟨b159, 0, none⟩) 1 1)]) (by kernel_rfl) hr169) (d := (some 107)) (by kernel_rfl) rfl (K173.mono (fun i _ h => by have h : Ow (.slice B K.length d) i := h; show Ow (.slice B K.length d) i ∨ i = r; exact (.inl h))) ?_
      refine Dr.strong (S' := (fun wz => Keeps (fun i => Ow (.slice B K.length d) i ∨ i = r) w168 wz)) ((Keeps.refl w168).mono (fun _ _ h => h.elim)) (fun wz hx => K173.trans hx (fun i _ h => by have h : Ow (.slice B K.length d) i := h; show Ow (.slice B K.length d) i ∨ i = r; exact (.inl h)) (fun _ _ h => h)) ?_
      have hgw187 : ∀ i, Ow (.slice A174 l176.length c175) i → Ow (.slice B K.length d) i ∨ w.heap.size ≤ i := fun i hi => (hg172 i hi).imp id (Nat.le_trans hsz186)
      clear K173 hr169 hK171 hg172
      refine dkQ 1 [10, 11] [(4, ptr b9), (11, ptr b146), (107, .slice A174 l176.length c175), (109, .pointer (some ⟨r, 1, none⟩))] ?_
      refine Dr.put (i := 12) (t := 53) (b := r) (off := 1) (v := (Value.slice A174 l176.length c175)) (ys := [(Value.slice A133 ((actS S (plainE o)).length) c134), (Value.slice A174 l176.length c175)]) (by kernel_rfl) (by kernel_rfl) (by kernel_rfl) H137 (by kernel_rfl) (d := none) (by kernel_rfl) rfl (fun w188 H189 K190 => ?_)
      replace K95 := K95.t1 K190 fun _ => .inl rfl
      replace H98 := H98.k1 K190 (by omega)
      replace H155 := H155.k1 K190 (by omega)
      replace hO138 := own_keep hO138 K190 (fun i hi => by have := ob140 i hi; omega)
      replace hO170 := own_keep hO170 K190 (fun i hi => by have := ob179 i hi; omega)
      refine ⟨(K190.mono (fun i _ h => by have h : i = r := h; show Ow (.slice B K.length d) i ∨ i = r; exact (.inr h))), ?_⟩
      refine Dr.strong (S' := (fun wz => Keeps (fun i => Ow (.slice B K.length d) i ∨ i = r) w188 wz)) ((Keeps.refl w188).mono (fun _ _ h => h.elim)) (fun wz hx => K190.trans hx (fun i _ h => by have h : i = r := h; show Ow (.slice B K.length d) i ∨ i = r; exact (.inr h)) (fun _ _ h => h)) ?_
      refine Dr.done (by kernel_rfl) ?_
      refine qsg ?_
      refine ogo (agg [(i64 (actE S (plainE o))), (i64 0), (Value.slice none 0 0)]) 110 (rld 28 b146 0 H155) rfl ?_
      refine oput 28 b9 [(i64 (actE S (plainE o))), (i64 0), (Value.slice none 0 0)] H98 rfl (fun w191 H192 K193 => ?_)
      replace K95 := K95.t1 K193 fun _ => by omega
      replace H189 := H189.k1 K193 (by omega)
      replace hO138 := own_keep hO138 K193 (fun i hi => by have := ob142 i hi; omega)
      replace hO170 := own_keep hO170 K193 (fun i hi => by have := ob181 i hi; omega)
      refine od ?_
      refine qtQ ?_
      refine ⟨(agg [(i64 (actE S (plainE o))), (i64 0), (Value.slice none 0 0)]), retv_cell rfl rfl (H192.loads (by kernel_rfl)), ?_⟩
      have e0 := do_fresh (S := S) (K := K) (o := o) hw (by omega) (by omega) (by omega) hfk
      obtain ⟨e1, e2, e3⟩ := e0
      have hnn9 := oo184
      rw [hl177] at H189 hO170 hgw187 hnn9
      rw [e1, e2, e3]
      exact ⟨_, _, _, _, none, 0, rfl, K95, H189, hO138, hO170, (OwnT.nil _ _ _ _ _), hgw145, hgw187, hnn9, (fun i h => by cases h), (fun i h => by cases h)⟩
end Go.Proofs.YtnbcghbgeiocbaaDoor
namespace Go.Proofs.YtnbcghbgeiocbaaDoor
open Go.Q Go.RowKit
theorem RCopy_calls (w : World) (r : Nat) (A : Option Addr) (c : Nat) (S : List RowM) (B : Option Addr) (d : Nat) (K : List KeptM) (Hr : Has w r (rowL [.slice A S.length c, .slice B K.length d] 55)) (hR : RdT w 2 RowM.cells (.slice A S.length c) S) (hQ : RdT w 10 kref (.slice B K.length d) K) (hSl : S.length ≤ 1000) (hKl : K.length ≤ 1000) : Calls Tryd.prog 52 ⟨[(ptr r)]⟩ w (fun e w' => ∃ r2 A2 c2 B2 d2, e = .returned (ptr r2) ∧ Keeps none_ w w' ∧ Has w' r2 (rowL [.slice A2 S.length c2, .slice B2 K.length d2] 55) ∧ OwnT w' w.heap.size 98 2 RowM.cells (.slice A2 S.length c2) S ∧ OwnT w' w.heap.size 101 10 kref (.slice B2 K.length d2) K ∧ w.heap.size ≤ r2 ∧ (∀ i, (Value.slice A2 S.length c2).ownBlock = some i → i ≠ r2) ∧ (∀ i, (Value.slice B2 K.length d2).ownBlock = some i → i ≠ r2) ∧ (∀ i, (Value.slice A2 S.length c2).ownBlock = some i → (Value.slice B2 K.length d2).ownBlock = some i → False)) := by
 have Hrl := Hr.lt
 have hcap := RdT.len RowM.two (by decide) hR
 have hcapk := RdT.len kref10 (by decide) hQ
 unfold maxLen at hcap hcapk
 have K0 : Keeps none_ w w := Keeps.refl w
 refine q_calls Tryd.func52 (by kernel_rfl) (by kernel_rfl) ?_
 refine qsg ?_
 refine odz 1 ?_
 refine qsg ?_
 refine og 1 [(0, ptr r), (2, .pointer none), (4, (agg [(Value.slice none 0 0), (Value.slice none 0 0)]))] 1 ?_
 refine onew (rowL [(Value.slice none 0 0), (Value.slice none 0 0)] 55) (fun b => (ptr b)) 5 (fun b => rfl) (fun b1 w2 hb3 H4 K5 hs6 => ?_)
 have lb1r : r < b1 := by have := Hr.lt; omega
 have nb1 : w.heap.size ≤ b1 := by have := K0.size; omega
 replace K0 := K0.t0 K5
 replace Hr := Hr.kn K5
 clear K5 hs6
 refine ogd 1 [(0, ptr r), (2, .pointer none), (3, ptr b1)] ?_
 refine qs ?_
 refine q_draw (fun wz => Keeps (fun i => i = b1) w2 wz) 13 (by kernel_rfl) (by kernel_rfl) (by kernel_rfl) (fun w7 K8 _ _ => ⟨(K8.mono (fun _ _ h => h.elim)), ?_⟩)
 replace K0 := K0.t0 K8
 replace Hr := Hr.kn K8
 replace H4 := H4.kn K8
 refine Dr.strong (S' := (fun wz => Keeps (fun i => i = b1) w7 wz)) ((Keeps.refl w7).mono (fun _ _ h => h.elim)) (fun wz hx => K8.trans hx (fun i _ h => h.elim) (fun _ _ h => h)) ?_
 clear K8
 refine dkQ 6 [0, 1, 2, 3, 5, 6, 7] [(0, ptr r), (2, .pointer none), (3, ptr b1), (6, ptr b1), (9, ptr b1), (13, ptr r)] ?_
 refine dtQ 8 (Value.slice A S.length c) 14 (fun wz hS => rld 26 r 0 (Hr.keep hS (by intro h; change r = b1 at h; omega))) rfl ?_
 refine Dr.go (i := 4) (v := (Value.slice none 0 0)) (by kernel_rfl) (by kernel_rfl) (rld 26 b1 0 H4) (d := (some 10)) (by kernel_rfl) rfl ((Keeps.refl _).mono (fun _ _ h => h.elim)) ?_
 obtain ⟨v9, w10, hr11, hO12, hK13, hg14⟩ := OwnT.app (ty := 26) RowM.two RowM.one tyR (OwnT.nil _ w.heap.size 98 2 RowM.cells) (Rd.keep0 (by decide) hR K0) (by first | omega | (simp only [List.length_nil]; omega)) (by first | omega | (simp only [List.length_nil]; omega)) (K0.size)
 obtain ⟨A16, c17, rfl⟩ := RdT.form RowM.two (by decide) (OwnT.rd hO12)
 have ob19 : ∀ i, Ow (.slice A16 (([] ++ S).length) c17) i → i ≠ b1 := fun i hi => by rcases hg14 i hi with h | h; (cases h); (have := H4.lt; omega)
 have K15 := Keeps.mono (U := none_) hK13 (fun _ _ h => by cases h)
 replace K0 := K0.t0 K15
 replace Hr := Hr.kn K15
 replace H4 := H4.kn K15
 refine Dr.go (i := 9) (v := (Value.slice A16 (([] ++ S).length) c17)) (by kernel_rfl) (by kernel_rfl) (Runs.append (ts := #[26, 26]) (ty := 26) (vs := [(Value.slice none 0 0), (Value.slice A S.length c)]) (by kernel_rfl) hr11) (d := (some 15)) (by kernel_rfl) rfl (K15.mono (fun _ _ h => h.elim)) ?_
 refine Dr.strong (S' := (fun wz => Keeps (fun i => i = b1) w10 wz)) ((Keeps.refl w10).mono (fun _ _ h => h.elim)) (fun wz hx => K15.trans hx (fun i _ h => h.elim) (fun _ _ h => h)) ?_
 clear K15 hr11 hK13 hg14
 refine dkQ 1 [10, 11] [(0, ptr r), (2, .pointer none), (3, ptr b1), (15, (Value.slice A16 (([] ++ S).length) c17)), (17, ptr b1)] ?_
 refine Dr.put (i := 12) (t := 26) (b := b1) (off := 0) (v := (Value.slice A16 (([] ++ S).length) c17)) (ys := [(Value.slice A16 (([] ++ S).length) c17), (Value.slice none 0 0)]) (by kernel_rfl) (by kernel_rfl) (by kernel_rfl) H4 (by kernel_rfl) (d := none) (by kernel_rfl) rfl (fun w20 H21 K22 => ?_)
 clear H4
 replace K0 := K0.t1 K22 fun _ => by omega
 replace Hr := Hr.k1 K22 (by omega)
 replace hO12 := own_keep hO12 K22 (fun i hi => by have := ob19 i hi; omega)
 refine ⟨K22, ?_⟩
 refine Dr.strong (S' := (fun wz => Keeps (fun i => i = b1) w20 wz)) ((Keeps.refl w20).mono (fun _ _ h => h.elim)) (fun wz hx => K22.trans hx (fun i _ h => by have h : i = b1 := h; show i = b1; omega) (fun _ _ h => h)) ?_
 refine Dr.done (by kernel_rfl) ?_
 refine qs ?_
 refine q_draw (fun wz => Keeps (fun i => i = b1) w20 wz) 13 (by kernel_rfl) (by kernel_rfl) (by kernel_rfl) (fun w23 K24 _ _ => ⟨(K24.mono (fun _ _ h => h.elim)), ?_⟩)
 replace K0 := K0.t0 K24
 replace Hr := Hr.kn K24
 replace H21 := H21.kn K24
 replace hO12 := own_keep0 hO12 K24
 refine Dr.strong (S' := (fun wz => Keeps (fun i => i = b1) w23 wz)) ((Keeps.refl w23).mono (fun _ _ h => h.elim)) (fun wz hx => K24.trans hx (fun i _ h => h.elim) (fun _ _ h => h)) ?_
 refine dkQ 6 [0, 1, 2, 3, 5, 6, 7] [(2, .pointer none), (3, ptr b1), (18, ptr b1), (21, .pointer (some ⟨b1, 1, none⟩)), (25, .pointer (some ⟨r, 1, none⟩))] ?_
 refine dtQ 8 (Value.slice B K.length d) 26 (fun wz hS => rld 53 r 1 (Hr.keep hS (by intro h; change r = b1 at h; omega))) rfl ?_
 refine Dr.go (i := 4) (v := (Value.slice none 0 0)) (by kernel_rfl) (by kernel_rfl) (rld 53 b1 1 H21) (d := (some 22)) (by kernel_rfl) rfl ((Keeps.refl _).mono (fun _ _ h => h.elim)) ?_
 obtain ⟨v25, w26, hr27, hO28, hK29, hg30⟩ := OwnT.app (ty := 53) kref10 kref_one tyRK (OwnT.nil _ w.heap.size 101 10 kref) (Rd.keep0 (by decide) hQ K0) (by first | omega | (simp only [List.length_nil]; omega)) (by first | omega | (simp only [List.length_nil]; omega)) (K0.size)
 obtain ⟨A32, c33, rfl⟩ := RdT.form kref10 (by decide) (OwnT.rd hO28)
 have ob35 : ∀ i, Ow (.slice A32 (([] ++ K).length) c33) i → i ≠ b1 := fun i hi => by rcases hg30 i hi with h | h; (cases h); (have := H21.lt; omega)
 have oo36 : ∀ i, Ow (.slice A16 (([] ++ S).length) c17) i → Ow (.slice A32 (([] ++ K).length) c33) i → False := fun i hi hs => by rcases hg30 i hs with h | h; (cases h); (have := (World.ownsRow.lt hO12 i hi).2; omega)
 have K31 := Keeps.mono (U := none_) hK29 (fun _ _ h => by cases h)
 replace K0 := K0.t0 K31
 replace H21 := H21.kn K31
 replace hO12 := own_keep0 hO12 K31
 refine Dr.go (i := 9) (v := (Value.slice A32 (([] ++ K).length) c33)) (by kernel_rfl) (by kernel_rfl) (Runs.append (ts := #[53, 53]) (ty := 53) (vs := [(Value.slice none 0 0), (Value.slice B K.length d)]) (by kernel_rfl) hr27) (d := (some 27)) (by kernel_rfl) rfl (K31.mono (fun _ _ h => h.elim)) ?_
 refine Dr.strong (S' := (fun wz => Keeps (fun i => i = b1) w26 wz)) ((Keeps.refl w26).mono (fun _ _ h => h.elim)) (fun wz hx => K31.trans hx (fun i _ h => h.elim) (fun _ _ h => h)) ?_
 clear K31 hr27 hK29 hg30
 refine dkQ 1 [10, 11] [(2, .pointer none), (3, ptr b1), (27, (Value.slice A32 (([] ++ K).length) c33)), (29, .pointer (some ⟨b1, 1, none⟩))] ?_
 refine Dr.put (i := 12) (t := 53) (b := b1) (off := 1) (v := (Value.slice A32 (([] ++ K).length) c33)) (ys := [(Value.slice A16 (([] ++ S).length) c17), (Value.slice A32 (([] ++ K).length) c33)]) (by kernel_rfl) (by kernel_rfl) (by kernel_rfl) H21 (by kernel_rfl) (d := none) (by kernel_rfl) rfl (fun w38 H39 K40 => ?_)
 replace K0 := K0.t1 K40 fun _ => by omega
 replace hO12 := own_keep hO12 K40 (fun i hi => by have := ob19 i hi; omega)
 replace hO28 := own_keep hO28 K40 (fun i hi => by have := ob35 i hi; omega)
 refine ⟨K40, ?_⟩
 refine Dr.strong (S' := (fun wz => Keeps (fun i => i = b1) w38 wz)) ((Keeps.refl w38).mono (fun _ _ h => h.elim)) (fun wz hx => K40.trans hx (fun i _ h => by have h : i = b1 := h; show i = b1; omega) (fun _ _ h => h)) ?_
 refine Dr.done (by kernel_rfl) ?_
 refine qsg ?_
 refine ogd 2 [(2, ptr b1)] ?_
 refine qtQ ?_
 refine ⟨(ptr b1), retv_tmp rfl rfl, ?_⟩
 exact ⟨b1, A16, c17, A32, c33, rfl, K0, H39, hO12, hO28, nb1, ob19, ob35, oo36⟩
end Go.Proofs.YtnbcghbgeiocbaaDoor
namespace Go.Proofs.YtnbcghbgeiocbaaDoor
open Go.Q Go.RowKit
end Go.Proofs.YtnbcghbgeiocbaaDoor
namespace Go.Proofs.YtnbcghbgeiocbaaDoor
open Go.Q Go.RowKit
theorem tySt : ElemTy Tryd.prog 75 73 4 48 := elemTy (by kernel_rfl)
theorem push_calls (w : World) (s base : Nat) (A : Option Addr) (c : Nat) (l : List StC) (XA : Option Addr) (xn xc : Nat) (xs : List StC) (Hs : Has w s (rowL [(Value.slice A l.length c)] 77)) (hO : OwnT w base 73 4 StC.cells ((Value.slice A l.length c)) l) (hbs : base ≤ w.heap.size) (hVs : ∀ i, ((Value.slice A l.length c)).ownBlock = some i → i ≠ s) (hX : RdT w 4 StC.cells (.slice XA xn xc) xs) (hl : l.length + xs.length ≤ 1000000000) : Calls Tryd.prog 29 ⟨[(ptr s), (Value.slice XA xn xc)]⟩ w (fun e w' => ∃ v A' c', e = .returned v ∧ Keeps (fun i => i = s ∨ ((Value.slice A l.length c)).ownBlock = some i) w w' ∧ Has w' s (rowL [.slice A' (l ++ xs).length c'] 77) ∧ OwnT w' base 73 4 StC.cells (.slice A' (l ++ xs).length c') (l ++ xs) ∧ ∀ i, (Value.slice A' (l ++ xs).length c').ownBlock = some i → ((Value.slice A l.length c)).ownBlock = some i ∨ w.heap.size ≤ i) := by
 have Hsl := Hs.lt
 have K0 : Keeps (fun i => i = s ∨ Ow (.slice A l.length c) i) w w := (Keeps.refl w).mono (fun _ _ h => h.elim)
 refine q_calls Tryd.func29 (by kernel_rfl) (by kernel_rfl) ?_
 refine qg ?_
 refine og 4 [(1, .slice XA xn xc), (4, ptr s), (7, ptr s)] 4 ?_
 refine ogo (Value.slice A l.length c) 8 (rld 75 s 0 Hs) rfl ?_
 refine og 1 [(4, ptr s), (8, .slice A l.length c), (9, .slice XA xn xc)] 6 ?_
 obtain ⟨v1, w2, hr3, hO4, hK5, hg6⟩ := OwnT.app (ty := 75) StC.two StC.one tySt hO hX (by first | omega | (simp only [List.length_nil]; omega)) (by first | omega | (simp only [List.length_nil]; omega)) (Nat.le_trans hbs K0.size)
 obtain ⟨A8, c9, rfl⟩ := RdT.form StC.two (by decide) (OwnT.rd hO4)
 have ob10 : ∀ i, Ow (.slice A8 ((l ++ xs).length) c9) i → i ≠ s := fun i hi => by rcases hg6 i hi with h | h; (have := hVs i h; omega); (have := Hs.lt; omega)
 have K7 := hK5
 refine ogo (Value.slice A8 ((l ++ xs).length) c9) 10 (Runs.append (ts := #[75, 75]) (ty := 75) (vs := [(Value.slice A l.length c), (Value.slice XA xn xc)]) (by kernel_rfl) hr3) rfl ?_
 replace K0 := K0.trans K7 (U := (fun i => i = s ∨ Ow (.slice A l.length c) i)) (fun i h1 h2 => h2) (fun i h1 h2 => by have h2 : Ow (.slice A l.length c) i := h2; exact .inr (h2))
 replace Hs := Hs.keep K7 (by intro h; change Ow (.slice A l.length c) s at h; have := hVs s h; omega)
 clear hO
 clear hX
 clear K7 hr3 hK5
 refine og 2 [(10, (Value.slice A8 ((l ++ xs).length) c9)), (12, ptr s)] 9 ?_
 refine Ops.put (t := 75) (b := s) (off := 0) (v := (Value.slice A8 ((l ++ xs).length) c9)) (ys := [(Value.slice A8 ((l ++ xs).length) c9)]) (by kernel_rfl) (by kernel_rfl) Hs (by kernel_rfl) (d := none) (by kernel_rfl) rfl (fun w11 H12 K13 => ?_)
 clear Hs
 replace K0 := K0.t1 K13 fun _ => .inl rfl
 replace hO4 := own_keep hO4 K13 (fun i hi => by have := ob10 i hi; omega)
 refine od ?_
 refine ⟨(Value.tuple #[]), retv_none rfl, ?_⟩
 exact ⟨_, _, _, rfl, K0, H12, hO4, hg6⟩
end Go.Proofs.YtnbcghbgeiocbaaDoor
namespace Go.Q
open Go.RowKit
def TellsW (P : Program) (m : Nat) (gf : Nat) (lb : List Value) (A : Nat → Nat → Value → World → Prop) (T : Nat → Prop) (N : Nat) (w0 : World) : Prop :=
 ∀ (l : Nat) (J : Nat → World → Prop) (W : World), Keeps T w0 W → (∀ k W W', J k W → Keeps none_ W W' → J k W') →
  (∀ k v Wp W1, J k Wp → Keeps none_ Wp W1 → W.heap.size ≤ Wp.heap.size → k < N → A Wp.heap.size k v W1 → YieldAt Fence.wide m P l #[v] W1 fun e W' => e = .returned (.bool true) ∧ J (k + 1) W' ∧ Keeps T W1 W') →
  J 0 W → Calls P gf ⟨.func (.yield l) #[] #[] :: lb⟩ W fun e W' => (∃ v, e = .returned v) ∧ J N W'
theorem qr_eachW {P : Program} {m n : Nat} {Q : List Deferred → Exit → Loc → World → Prop} {L : Loc} {w : World} {f : Func} {p : List Nat} {ds : List Deferred} {g : Operand} {t : Tmp}
  (hc : isRange (cd f p) = some (g, #[t])) (h1 : 1 ≤ m) {gf : Nat} {lb : List Value} (hg : evo L g = some (.func (.func gf) #[] ⟨lb⟩)) (eg : ∀ args w, (callFunc gf args).run P w = .ok (.enter gf args) w)
  {A : Nat → Nat → Value → World → Prop} {T : Nat → Prop} {N : Nat} {w0 : World} (hseq : TellsW P (m - 1 - 1) gf lb A T N w0) (hT : ∀ i, w.heap.size ≤ i → T i) (hw0 : Keeps T w0 w)
  (I : Nat → World → Prop) (hI : ∀ k W W', I k W → Keeps (fun i => i = w.heap.size ∨ i = w.heap.size + 1) W W' → I k W') (hA : ∀ b k v W W', w.heap.size + 2 ≤ b → A b k v W → Keeps (fun i => i = w.heap.size ∨ i = w.heap.size + 1) W W' → A b k v W') (h0 : I 0 w) (La : Value → Loc) (hLa : ∀ v, setL n (some t) v L = some (La v))
  (Ax : Nat → Value → Loc → World → Prop) (hAx : ∀ b v L W W', w.heap.size + 2 ≤ b → Ax b v L W → Keeps (fun i => i = w.heap.size ∨ i = w.heap.size + 1) W W' → Ax b v L W')
  (hassign : ∀ (l b k : Nat) (v : Value) (W : World), k < N → A b k v W → w.heap.size + 2 ≤ b → b ≤ W.heap.size → wpR (Fence.wide.inRound l) P (m - 1 - 1) n (cd f (0 :: p)) (fun ds e L' W' => e = .normal ∧ ds = [] ∧ Keeps none_ W W' ∧ Ax b v L' W') [] (La v) W)
  (hbody : ∀ (l k : Nat) (v : Value) (L1 : Loc) (Wp W : World), I k Wp → Keeps (fun i => i = w.heap.size ∨ i = w.heap.size + 1) Wp W → w.heap.size + 2 ≤ Wp.heap.size → k < N → A Wp.heap.size k v W → Ax Wp.heap.size v L1 W → wpR (Fence.wide.inRound l) P (m - 1 - 1) n (cd f (1 :: p)) (fun _ e _ W' => e = .normal ∧ KeepsFrom w.heap.size W W' ∧ Keeps T W W' ∧ I (k + 1) W') [] L1 W)
  (hdone : ∀ (D : Nat) (W : World), w.heap.size ≤ D → I N W → W.heap[D]? = some (.deferred (some [])) → Q ({ target := .collected D, args := #[] } :: ds) .normal L W) :
  wpR Fence.wide P m n (cd f p) Q ds L w := by
 intro a ha
 simp only [cd] at hassign hbody
 cases e : cd f p with
 | rangeFunc g' ps assign body =>
  rw [e] at hc hassign hbody
  simp only [isRange, Option.some.injEq, Prod.mk.injEq] at hc
  obtain ⟨rfl, rfl⟩ := hc
  simp only [sub] at hassign hbody
  refine wpIn_rangeFunc fun fn hfn => ?_
  obtain ⟨rec, hrec⟩ : ∃ rec : LoopState → Loop, rec = fun st => { state := st, pending := none, fn, tmps := (wd ds a).tmps, params := #[t], assign, body, defers := w.heap.size } := ⟨_, rfl⟩
  have hev : (wd ds a).eval g' = .func (.func gf) #[] ⟨lb⟩ := ha.ev hg
  obtain ⟨W1, hW1⟩ : ∃ W1, (w.alloc (.deferred (some []))).alloc (.loop (rec .ready)) = W1 := ⟨_, rfl⟩
  have hK1 : Keeps none_ w W1 := by rw [← hW1]; exact (Keeps.alloc w _).trans (Keeps.alloc _ _) (fun _ _ h => h) (fun _ _ h => h)
  have hl1 : W1.heap[w.heap.size + 1]? = some (.loop (rec .ready)) := by
   rw [← hW1]; have := World.alloc_heap_new (w.alloc (.deferred (some []))) (.loop (rec .ready)); rwa [World.size_alloc] at this
  have hd1 : W1.heap[w.heap.size]? = some (.deferred (some [])) := by
   rw [← hW1]; exact ((Keeps.alloc (w.alloc (.deferred (some []))) (.loop (rec .ready))).blk _ (by simp) (fun h => h)).trans (World.alloc_heap_new w _)
  refine ⟨w.heap.size + 1, [{ target := .collected w.heap.size, args := #[] }], W1, { target := .fn (.func gf) ⟨lb⟩, args := #[.func (.yield (w.heap.size + 1)) #[] #[]] }, W1, gf,
   #[.func (.yield (w.heap.size + 1)) #[] #[]] ++ ⟨lb⟩, W1, ?_, ?_, fun f' hf' => True.intro, ?_, fun _ => h1, ?_⟩
  ·rw [← hW1, hrec]; exact run_enterLoop_outer _ _ _ _ _
  ·simp only [resolve, hev]
   simp [go_sem]
  ·simp [invoke, go_sem, eg]
  ·refine callsIn_wide.2 ?_
   have hs1 : W1.heap.size = w.heap.size + 2 := by rw [← hW1]; simp
   have harr : (#[.func (.yield (w.heap.size + 1)) #[] #[]] ++ ⟨lb⟩ : Array Value) = ⟨.func (.yield (w.heap.size + 1)) #[] #[] :: lb⟩ := by simp
   rw [harr]
   refine (hseq (w.heap.size + 1) (fun k W => I k W ∧ W.heap[w.heap.size + 1]? = some (.loop (rec .ready)) ∧ W.heap[w.heap.size]? = some (.deferred (some []))) _
    (hw0.trans hK1 (fun _ _ h => h) (fun _ _ h => h.elim)) ?_ ?_ ⟨hI 0 _ _ h0 (hK1.mono fun _ _ h => h.elim), hl1, hd1⟩).mono ?_
   ·rintro k W W' ⟨hi, hl, hd⟩ hk
    exact ⟨hI _ _ _ hi (hk.mono fun _ _ h => h.elim), (hk.blk _ (Array.getElem?_eq_some_iff.1 hl).1 (fun h => h)).trans hl, (hk.blk _ (Array.getElem?_eq_some_iff.1 hd).1 (fun h => h)).trans hd⟩
   ·rintro k v Wp W ⟨hi, hlp, hdp⟩ hkp hbp hkN hAv
    rw [hs1] at hbp
    have hl := (hkp.blk _ (Array.getElem?_eq_some_iff.1 hlp).1 (fun h => h)).trans hlp
    have hd := (hkp.blk _ (Array.getElem?_eq_some_iff.1 hdp).1 (fun h => h)).trans hdp
    have hy := run_yield (P := P) (args := #[v]) hl (by rw [hrec]; rfl)
    refine ⟨_, _, _, _, hy, roundIn_of_wpIn trivial ?_⟩
    have hlt : w.heap.size + 1 < W.heap.size := (Array.getElem?_eq_some_iff.1 hl).1
    have hr : Rep n (a.put (some t) v) (La v) := ha.setL (hLa v)
    have ea : ({ tmps := ((rec .ready).params.zip #[v]).foldl (fun t (p, v) => t.setIfInBounds p v) (rec .ready).tmps, defers := [] } : Act) = wd [] (a.put (some t) v) := by rw [hrec]; simp [wd, Act.put]
    have easg : (rec .ready).assign = assign := by rw [hrec]
    have ebdy : (rec .ready).body = body := by rw [hrec]
    rw [easg, ebdy]
    refine (congrArg (fun z => Code.wpIn _ _ P assign _ z W) ea).mpr ?_
    refine wpIn_mono (hassign _ _ k v W hkN hAv hbp hkp.size _ hr) ?_
    rintro ex a' W' ⟨ds2, a2, L', rfl, r, rfl, rfl, hka, hax⟩
    have hlA := (hka.blk _ hlt (fun h => h)).trans hl
    have hdA := (hka.blk _ (by omega) (fun h => h)).trans hd
    have hltA : w.heap.size + 1 < W'.heap.size := Nat.lt_of_lt_of_le hlt hka.size
    have hpk : ∀ (X : World) (o : Obj), Keeps (fun i => i = w.heap.size ∨ i = w.heap.size + 1) X (X.putObj (w.heap.size + 1) o) := fun X o => ⟨rfl, rfl, rfl, by simp, fun i _ hn => World.putObj_heap_other (fun e => hn (.inr e))⟩
    have hkm : Keeps (fun i => i = w.heap.size ∨ i = w.heap.size + 1) W W' := hka.mono fun _ _ h => h.elim
    have hp2 := hpk W' (.loop { rec .ready with state := .busy })
    have hl2 : (W'.putObj (w.heap.size + 1) (.loop { rec .ready with state := .busy })).heap[w.heap.size + 1]? = some (.loop { rec .ready with state := .busy }) := World.putObj_heap_same hltA
    have hd2 : (W'.putObj (w.heap.size + 1) (.loop { rec .ready with state := .busy })).heap[w.heap.size]? = some (.deferred (some [])) := (World.putObj_heap_other (by omega)).trans hdA
    refine ⟨_, run_beginRound hlA (by rw [hrec]), ?_⟩
    refine wpIn_mono (hbody _ k v _ Wp _ hi (((hkp.mono fun _ _ h => h.elim).trans hkm (fun _ _ h => h) (fun _ _ h => h)).trans hp2 (fun _ _ h => h) (fun _ _ h => h)) hbp hkN (hA _ _ _ _ _ hbp (hA _ _ _ _ _ hbp hAv hkm) hp2) (hAx _ _ _ _ _ hbp hax hp2) _ r) ?_
    rintro ex3 a3 W3 ⟨_, _, _, _, _, rfl, hkf, hkT, hi3⟩
    have hl3 := hkf.same _ _ (by omega) hl2 rfl
    have hd3 := hkf.same _ _ (Nat.le_refl _) hd2 rfl
    have hlt3 : w.heap.size + 1 < W3.heap.size := (Array.getElem?_eq_some_iff.1 hl3).1
    refine ⟨_, _, run_endRound none hl3, rfl, ⟨hI _ _ _ hi3 (hpk _ _), ?_, (World.putObj_heap_other (by omega)).trans hd3⟩, ?_⟩
    ·rw [World.putObj_heap_same hlt3, hrec]; rfl
    ·have kT : ∀ (X : World) (o : Obj), Keeps T X (X.putObj (w.heap.size + 1) o) := fun X o => (hpk X o).mono fun i _ h => hT i (by rcases h with h | h <;> omega)
     exact ((hka.trans (kT _ _) (fun _ _ h => h.elim) (fun _ _ h => h)).trans hkT (fun _ _ h => h) (fun _ _ h => h)).trans (kT _ _) (fun _ _ h => h) (fun _ _ h => h)
   ·rintro ex W ⟨⟨v, rfl⟩, hi, hl, hd⟩
    have hel := run_endLoop (P := P) hl (by rw [hrec]; simp)
    rw [show (rec .ready).pending = none from by rw [hrec]] at hel
    refine ⟨none, _, hel, ?_⟩
    exact ⟨_, a, L, rfl, ha, hdone _ _ (Nat.le_refl _) (hI _ _ _ hi ⟨rfl, rfl, rfl, by simp, fun i _ hn => World.putObj_heap_other (fun e => hn (.inr e))⟩) ((World.putObj_heap_other (by omega)).trans hd)⟩
 | _ => rw [e] at hc; cases hc
end Go.Q
namespace Go.Q
open Go.RowKit
def tryR (l : List HCall) : Nat → List Bool → Int → LS_ → List Nat → Option (List Nat)
 | 0, done, left, s, order => if left = 0 then some order else none
 | k + 1, done, left, s, order => if left = 0 then some order else (List.range l.length).findSome? fun i => match l[i]? with
  | none => none
  | some c => if done.getD i false || !countsH c then none
   else if (List.range l.length).any (fun j => match l[j]? with | some d => !done.getD j false && decide (j ≠ i) && countsH d && aheadH d c | none => false) then none
   else match stepH c s with
    | none => none
    | some s' => tryR l k ((List.range l.length).map fun j => done.getD j false || decide (j = i)) (if c.told then left - 1 else left) s' (order ++ [i])
theorem zip_range {α β : Type} (F : Nat → Option β) (l : List α) : (List.range l.length).findSome? F = l.zipIdx.findSome? fun p => F p.2 := by
 rw [show List.range l.length = l.zipIdx.map Prod.snd from by rw [List.zipIdx_map_snd, List.range_eq_range'], List.findSome?_map]; rfl
theorem zip_any {α : Type} (F : Nat → Bool) (l : List α) : (List.range l.length).any F = l.zipIdx.any fun p => F p.2 := by
 rw [show List.range l.length = l.zipIdx.map Prod.snd from by rw [List.zipIdx_map_snd, List.range_eq_range'], List.any_map]; rfl
theorem zip_fst {α β : Type} (F : α → Option β) (l : List α) : l.findSome? F = l.zipIdx.findSome? fun p => F p.1 := by
 conv => lhs; rw [show l = l.zipIdx.map Prod.fst from by rw [List.zipIdx_map_fst]]
 rw [List.findSome?_map]; rfl
theorem zip_any_fst {α : Type} (F : α → Bool) (l : List α) : l.any F = l.zipIdx.any fun p => F p.1 := by
 conv => lhs; rw [show l = l.zipIdx.map Prod.fst from by rw [List.zipIdx_map_fst]]
 rw [List.any_map]; rfl
theorem findSome_filter {α β : Type} {F : α → Option β} {p : α → Bool} : ∀ {l : List α}, (∀ a ∈ l, p a = false → F a = none) → l.findSome? F = (l.filter p).findSome? F
 | [], _ => rfl
 | a :: l, h => by
  have ih := findSome_filter fun b hb => h b (List.mem_cons_of_mem _ hb)
  rw [List.findSome?_cons, List.filter_cons]
  cases hp : p a with
  | true => rw [if_pos rfl, List.findSome?_cons, ih]
  | false => rw [if_neg (by decide), h a (List.mem_cons_self ..) hp]; exact ih
theorem any_filter' {α : Type} {F p : α → Bool} : ∀ {l : List α}, (∀ a ∈ l, p a = false → F a = false) → l.any F = (l.filter p).any F
 | [], _ => rfl
 | a :: l, h => by
  have ih := any_filter' fun b hb => h b (List.mem_cons_of_mem _ hb)
  rw [List.any_cons, List.filter_cons]
  cases hp : p a with
  | true => rw [if_pos rfl, List.any_cons, ih]
  | false => rw [if_neg (by decide), h a (List.mem_cons_self ..) hp]; exact ih
theorem any_congr' {α : Type} {f g : α → Bool} : ∀ {l : List α}, (∀ a ∈ l, f a = g a) → l.any f = l.any g
 | [], _ => rfl
 | a :: l, h => by rw [List.any_cons, List.any_cons, h a (List.mem_cons_self ..), any_congr' fun b hb => h b (List.mem_cons_of_mem _ hb)]
theorem findSome_filterMap {α β γ : Type} (f : α → Option β) (g : β → Option γ) : ∀ l : List α, (l.filterMap f).findSome? g = l.findSome? fun a => (f a).bind g
 | [] => rfl
 | a :: l => by
  rw [List.filterMap_cons, List.findSome?_cons]
  cases h : f a with
  | none => exact findSome_filterMap f g l
  | some b => rw [List.findSome?_cons, findSome_filterMap f g l]; rfl
theorem zip_mem {α : Type} {l : List α} {p : α × Nat} (h : p ∈ l.zipIdx) : l[p.2]? = some p.1 := by
 obtain ⟨i, hi⟩ := List.getElem?_of_mem h
 rw [List.getElem?_zipIdx] at hi
 obtain ⟨a, ha, rfl⟩ := Option.map_eq_some_iff.1 hi
 simpa using ha
theorem looked_mem {l : List HCall} {c : HCall × Nat} (h : c ∈ lookedH l) : l[c.2]? = some c.1 ∧ countsH c.1 = true := by
 obtain ⟨h1, h2⟩ := List.mem_filter.1 h
 exact ⟨zip_mem h1, h2⟩
theorem looked_nodup (l : List HCall) : ((lookedH l).map Prod.snd).Nodup := by
 have h1 : (l.zipIdx.map Prod.snd).Nodup := by rw [List.zipIdx_map_snd]; exact List.nodup_range'
 exact h1.sublist (List.Sublist.map _ List.filter_sublist)
theorem looked_ne {l : List HCall} {c d : HCall × Nat} {i j : Nat} (hc : (lookedH l)[i]? = some c) (hd : (lookedH l)[j]? = some d) : d.2 = c.2 ↔ j = i := by
 have hn := looked_nodup l
 constructor
 ·intro e
  have h1 : ((lookedH l).map Prod.snd)[i]? = some c.2 := by rw [List.getElem?_map, hc]; rfl
  have h2 : ((lookedH l).map Prod.snd)[j]? = some c.2 := by rw [List.getElem?_map, hd, ← e]; rfl
  have hi := (List.getElem?_eq_some_iff.1 h1).1
  exact ((List.getElem?_inj hi hn).1 (h1.trans h2.symm)).symm
 ·rintro rfl
  rw [hc] at hd
  cases hd; rfl
def DoneC (l : List HCall) (done : List Bool) (d : Nat) : Prop := ∀ j c, (lookedH l)[j]? = some c → done.getD c.2 false = d.testBit j
theorem try_solve (l : List HCall) : ∀ (k : Nat) (done : List Bool) (d : Nat) (left : Int) (s : LS_) (order : List Nat), DoneC l done d → tryR l k done left s order = (probH (lookedH l)).solve k ⟨order, d, left, s⟩
 | 0, done, d, left, s, order, h => rfl
 | k + 1, done, d, left, s, order, h => by
  show (if left = 0 then some order else _) = (if left = 0 then some order else _)
  by_cases h0 : left = 0
  ·rw [if_pos h0, if_pos h0]
  rw [if_neg h0, if_neg h0]
  unfold Prob.nexts
  rw [findSome_filterMap, zip_range, show (probH (lookedH l)).n = (lookedH l).length from rfl, zip_range, findSome_filter (p := fun p : HCall × Nat => countsH p.1) ?hx]
  case hx =>
   intro p hp hc
   rw [zip_mem hp]
   dsimp only
   rw [hc]; simp
  rw [show List.filter (fun p : HCall × Nat => countsH p.1) l.zipIdx = lookedH l from rfl, zip_fst]
  refine findSome_congr fun p hp => ?_
  obtain ⟨c, j⟩ := p
  have hj : (lookedH l)[j]? = some c := zip_mem hp
  obtain ⟨hl, hc⟩ := looked_mem (List.mem_of_getElem? hj)
  dsimp only
  rw [hl]
  dsimp only
  unfold Prob.one
  dsimp only
  rw [h j c hj, hc, Bool.not_true, Bool.or_false]
  have hw : (List.range l.length).any (fun j' => match l[j']? with | some d' => !done.getD j' false && decide (j' ≠ c.2) && countsH d' && aheadH d' c.1 | none => false) = (probH (lookedH l)).wait d j := by
   show _ = (match (lookedH l)[j]? with | some c => (lookedH l).zipIdx.any fun p => decide (p.2 ≠ j) && !d.testBit p.2 && aheadH p.1.1 c.1 | none => true)
   rw [hj, zip_any, any_filter' (p := fun p : HCall × Nat => countsH p.1) (fun p hp hq => by rw [zip_mem hp]; dsimp only; rw [hq]; simp), show List.filter (fun p : HCall × Nat => countsH p.1) l.zipIdx = lookedH l from rfl, zip_any_fst]
   refine any_congr' fun q hq => ?_
   obtain ⟨e, i⟩ := q
   have hi : (lookedH l)[i]? = some e := zip_mem hq
   obtain ⟨hl2, hc2⟩ := looked_mem (List.mem_of_getElem? hi)
   dsimp only
   rw [hl2]
   dsimp only
   rw [h i e hi, hc2, Bool.and_true, show decide (e.2 ≠ c.2) = decide (i ≠ j) from decide_eq_decide.2 (not_congr (looked_ne hj hi)), Bool.and_comm (!d.testBit i)]
  have hst : (probH (lookedH l)).step j s = stepH c.1 s := by show (match (lookedH l)[j]? with | some c => stepH c.1 s | none => none) = _; rw [hj]
  have hnum : (probH (lookedH l)).num j = c.2 := by show (match (lookedH l)[j]? with | some c => c.2 | none => 0) = _; rw [hj]
  have htold : (probH (lookedH l)).told j = c.1.told := by show (match (lookedH l)[j]? with | some c => c.1.told | none => false) = _; rw [hj]
  rw [hw, hst, hnum, htold]
  cases hb : d.testBit j with
  | true => simp
  | false =>
   rw [Bool.false_or]
   cases hww : (probH (lookedH l)).wait d j with
   | true => simp
   | false =>
    simp only [Bool.false_eq_true, if_false]
    cases hs : stepH c.1 s with
    | none => rfl
    | some s' =>
     simp only [Option.map_some, Option.bind_some]
     refine try_solve l k _ _ _ _ _ fun i e hi => ?_
     have hlt : e.2 < l.length := (List.getElem?_eq_some_iff.1 (looked_mem (List.mem_of_getElem? hi)).1).1
     rw [testBit_or, ← h i e hi, show decide (i = j) = decide (e.2 = c.2) from decide_eq_decide.2 (looked_ne hj hi).symm]
     simp [List.getD, hlt]
def orderR (l : List HCall) : List Nat × Bool × Int :=
 if 8 < l.countP countsH then ([], false, 3)
 else if l.any (fun c => countsH c && (c.told && decide (c.en < c.bg))) then ([], false, 1)
 else match tryR l l.length (List.replicate l.length false) ((l.countP fun c => countsH c && c.told : Nat) : Int) ([], []) [] with | some o => (o, true, 0) | none => ([], false, 0)
theorem Prob.solve_fuel {σ : Type} {P : Prob σ} : ∀ (k : Nat) (t : Sr σ), P.n - P.pc t.done ≤ k → P.solve k t = P.sv t
 | 0, t, h => by unfold Prob.sv; rw [show P.n - P.pc t.done = 0 from by omega]
 | k + 1, t, h => by
  rw [P.sv_eq]
  show (if t.left = 0 then some t.order else (P.nexts t).findSome? (P.solve k)) = _
  congr 1
  exact findSome_congr fun a ha => Prob.solve_fuel k a (by have := P.nexts_pc ha; omega)
theorem looked_count (l : List HCall) (p : HCall → Bool) : (lookedH l).countP (fun c => p c.1) = l.countP (fun c => countsH c && p c) := by
 unfold lookedH
 rw [List.countP_filter]
 conv => rhs; rw [show l = l.zipIdx.map Prod.fst from by rw [List.zipIdx_map_fst]]
 rw [List.countP_map]
 refine List.countP_congr fun c _ => ?_
 show (p c.1 && countsH c.1) = true ↔ (countsH c.1 && p c.1) = true
 rw [Bool.and_comm]
theorem looked_length (l : List HCall) : (lookedH l).length = l.countP countsH := by
 have h := looked_count l (fun _ => true)
 rw [List.countP_true] at h
 rw [h]
 exact List.countP_congr fun c _ => by simp
theorem looked_any (l : List HCall) (p : HCall → Bool) : (lookedH l).any (fun c => p c.1) = l.any fun c => countsH c && p c := by
 have h1 := any_filter' (F := fun c : HCall × Nat => countsH c.1 && p c.1) (p := fun c : HCall × Nat => countsH c.1) (l := l.zipIdx) (fun c _ hc => by have hc : countsH c.1 = false := hc; rw [hc]; rfl)
 rw [zip_any_fst (fun c => countsH c && p c) l, h1]
 refine any_congr' fun c hc => ?_
 have h2 : countsH c.1 = true := (List.mem_filter.1 hc).2
 show p c.1 = (countsH c.1 && p c.1)
 rw [h2]; rfl
theorem order_law (l : List HCall) : orderR l = orderH l := by
 unfold orderR orderH
 rw [← looked_length, ← looked_any l (fun c => c.told && decide (c.en < c.bg)), ← looked_count l (fun c => c.told)]
 have h0 : (probH (lookedH l)).pc 0 = 0 := by
  show (List.range _).countP (fun i => (0 : Nat).testBit i) = 0
  rw [List.countP_eq_zero]
  intro i _
  simp
 have h := try_solve l l.length (List.replicate l.length false) 0 (leftH (lookedH l)) ([], []) [] (fun j c hj => by rw [Nat.zero_testBit, List.getD, List.getElem?_replicate]; split <;> rfl)
 rw [show (((lookedH l).countP fun c => c.1.told : Nat) : Int) = leftH (lookedH l) from rfl, h]
 have hlen : (probH (lookedH l)).n ≤ l.length := by
  show (lookedH l).length ≤ _
  rw [looked_length]; exact List.countP_le_length
 rw [Prob.solve_fuel _ _ (by show _ - (probH (lookedH l)).pc 0 ≤ _; omega)]
 rfl
theorem stack_law {l : List HCall} (hl : ∀ c ∈ l, -9223372036854775808 ≤ c.op.amount ∧ c.op.amount ≤ 9223372036854775807) {same : LS_ → LS_ → Bool} (hs : ∀ a b, same a b = true → sameL a b) :
  ∃ c, c ≤ bdS (lookedH l).length ((lookedH l).length - (probH (lookedH l)).pc 0) + 1 ∧ (probH (lookedH l)).run same c [startH (lookedH l)] [] = some (match (probH (lookedH l)).sv (startH (lookedH l)) with | some o => (o, true) | none => ([], false)) :=
 Prob.run_start (probH_like fun c hc => hl c.1 (List.mem_of_getElem? (looked_mem hc).1)) hs (startH_V _)
end Go.Q
namespace Go.Q
open Go.RowKit
section
variable {P : Program} {w : World} {t : TypeId} {k : IntKind}
theorem run_shrN {d i : Nat} {s : Int} (hs : s = (i : Int)) (hi : i ≤ 64) : (binOp .shr t (.int .u64 ((d : Nat) : Int)) (.int k s)).run P w = .ok (.int .u64 ((d / 2 ^ i : Nat) : Int)) w := by
 have h1 : ¬ s < 0 := by omega
 have h2 : min s.toNat IntKind.u64.bits = i := by
  have : IntKind.u64.bits = 64 := rfl
  rw [this]; omega
 simp only [binOp, Op.shift, h1, if_false, h2]
 have e : ((d : Nat) : Int).fdiv (2 ^ i) = ((d / 2 ^ i : Nat) : Int) := by
  rw [show ((2 : Int) ^ i) = ((2 ^ i : Nat) : Int) from by simp]
  exact fdiv_nat d (2 ^ i)
 rw [e]
 rfl
theorem run_shl1 {i : Nat} {s : Int} (hs : s = (i : Int)) (hi : i ≤ 63) : (binOp .shl t (.int .u64 1) (.int k s)).run P w = .ok (.int .u64 ((1 <<< i : Nat) : Int)) w := by
 have h1 : ¬ s < 0 := by omega
 have h2 : min s.toNat IntKind.u64.bits = i := by
  have : IntKind.u64.bits = 64 := rfl
  rw [this]; omega
 have hp : (2 : Nat) ^ i ≤ 2 ^ 63 := Nat.pow_le_pow_right (by decide) hi
 have h63 : (2 : Nat) ^ 63 = 9223372036854775808 := by decide
 simp only [binOp, Op.shift, h1, if_false, h2]
 have h3 : (1 <<< i : Nat) = 2 ^ i := Nat.one_shiftLeft i
 have e : (1 : Int) * (2 : Int) ^ i = ((1 <<< i : Nat) : Int) := by rw [h3, Int.one_mul]; simp
 have h5 : ∀ x : Nat, x ≤ 9223372036854775808 → IntKind.u64.wrap ((x : Nat) : Int) = ((x : Nat) : Int) := fun x hx => wrap_u64 (by omega) (by omega)
 rw [e, h5 _ (by rw [h3]; exact h63 ▸ hp)]
 rfl
theorem run_orN {a b : Nat} (ha : a < 18446744073709551616) (hb : b < 18446744073709551616) : (binOp .or t (.int .u64 ((a : Nat) : Int)) (.int .u64 ((b : Nat) : Int))).run P w = .ok (.int .u64 ((a ||| b : Nat) : Int)) w := by
 have e1 : (BitVec.ofInt 64 ((a : Nat) : Int)).toNat = a := by simp only [BitVec.toNat_ofInt]; omega
 have e2 : (BitVec.ofInt 64 ((b : Nat) : Int)).toNat = b := by simp only [BitVec.toNat_ofInt]; omega
 have hlt : a ||| b < 2 ^ 64 := Nat.or_lt_two_pow ha hb
 have h64 : (2 : Nat) ^ 64 = 18446744073709551616 := by decide
 have key : ((BitVec.ofInt IntKind.u64.bits ((a : Nat) : Int)) ||| (BitVec.ofInt IntKind.u64.bits ((b : Nat) : Int))).toNat = a ||| b := by
  show ((BitVec.ofInt 64 ((a : Nat) : Int)) ||| (BitVec.ofInt 64 ((b : Nat) : Int))).toNat = _
  rw [BitVec.toNat_or, e1, e2]
 have h5 : ∀ x : Nat, x < 18446744073709551616 → IntKind.u64.wrap ((x : Nat) : Int) = ((x : Nat) : Int) := fun x hx => wrap_u64 (by omega) (by omega)
 simp only [binOp, ne_eq, not_true, if_false, Op.intBits]
 rw [key, h5 _ (h64 ▸ hlt)]
 rfl
end
theorem bit_one {d i : Nat} : (d / 2 ^ i % 2 = 1) ↔ d.testBit i = true := by
 rw [Nat.testBit_eq_decide_div_mod_eq, decide_eq_true_iff]
theorem bit_zero {d i : Nat} : (d / 2 ^ i % 2 = 0) ↔ d.testBit i = false := by
 rw [Nat.testBit_eq_decide_div_mod_eq, decide_eq_false_iff_not]
 omega
theorem or_lt {d i n : Nat} (hd : d < 2 ^ n) (hi : i < n) : d ||| (1 <<< i) < 2 ^ n := by
 refine Nat.or_lt_two_pow hd ?_
 rw [Nat.one_shiftLeft]
 exact Nat.pow_lt_pow_right (by decide) hi
def LedW (w : World) (tL : Nat) (F : Nat → Prop) (b : Nat) (s : LS_) : Prop :=
 ∃ mb kb m, Has w b (rowL [.map (some mb), .map (some kb)] tL) ∧ HasMap w mb kstr ki64 m ∧ HasMap w kb kpair keptv (s.2.map KeptM.kv) ∧ (b ≠ mb ∧ b ≠ kb ∧ mb ≠ kb) ∧ LBook m s.1 s.2 ∧ F b ∧ F mb ∧ F kb
theorem LedW.keep {w w' : World} {tL b : Nat} {F S : Nat → Prop} {s : LS_} (h : LedW w tL F b s) (K : Keeps S w w') (hS : ∀ i, F i → ¬ S i) : LedW w' tL F b s := by
 obtain ⟨mb, kb, m, h1, h2, h3, h4, h5, h6, h7, h8⟩ := h
 exact ⟨mb, kb, m, h1.keep K (hS _ h6), h2.keep K (hS _ h7), h3.keep K (hS _ h8), h4, h5, h6, h7, h8⟩
theorem LedW.mono {w : World} {tL b : Nat} {F G : Nat → Prop} {s : LS_} (h : LedW w tL F b s) (hF : ∀ i, F i → G i) : LedW w tL G b s := by
 obtain ⟨mb, kb, m, h1, h2, h3, h4, h5, h6, h7, h8⟩ := h
 exact ⟨mb, kb, m, h1, h2, h3, h4, h5, hF _ h6, hF _ h7, hF _ h8⟩
structure StC.At (w : World) (tL : Nat) (F : Nat → Prop) (x : StC) : Prop where
 row : RdT w 1 iN (.slice x.A x.order.length x.k) x.order
 inF : ∀ i, (Value.slice x.A x.order.length x.k).ownBlock = some i → F i
 led : LedW w tL F x.b x.s
theorem StC.At.keep {w w' : World} {tL : Nat} {F S : Nat → Prop} {x : StC} (h : x.At w tL F) (K : Keeps S w w') (hS : ∀ i, F i → ¬ S i) : x.At w' tL F :=
 ⟨Rd.keep (by decide) h.row K fun b hb => hS b (h.inF b hb), h.inF, h.led.keep K hS⟩
theorem StC.At.mono {w : World} {tL : Nat} {F G : Nat → Prop} {x : StC} (h : x.At w tL F) (hF : ∀ i, F i → G i) : x.At w tL G := ⟨h.row, fun i hi => hF i (h.inF i hi), h.led.mono hF⟩
structure Pool (w : World) (tL : Nat) (F : Nat → Prop) (l : List StC) : Prop where
 at_ : ∀ x ∈ l, x.At w tL F
 lt : ∀ i, F i → i < w.heap.size
theorem Pool.keep {w w' : World} {tL : Nat} {F S : Nat → Prop} {l : List StC} (h : Pool w tL F l) (K : Keeps S w w') (hS : ∀ i, F i → ¬ S i) : Pool w' tL F l :=
 ⟨fun x hx => (h.at_ x hx).keep K hS, fun i hi => Nat.lt_of_lt_of_le (h.lt i hi) K.size⟩
theorem Pool.sub {w : World} {tL : Nat} {F : Nat → Prop} {l m : List StC} (h : Pool w tL F l) (hm : ∀ x ∈ m, x ∈ l) : Pool w tL F m := ⟨fun x hx => h.at_ x (hm x hx), h.lt⟩
theorem Pool.nil (w : World) (tL : Nat) : Pool w tL none_ [] := ⟨fun x hx => (by cases hx), fun i hi => hi.elim⟩
theorem Pool.mono {w : World} {tL : Nat} {F G : Nat → Prop} {l : List StC} (h : Pool w tL F l) (hF : ∀ i, F i → G i) (hG : ∀ i, G i → i < w.heap.size) : Pool w tL G l := ⟨fun x hx => (h.at_ x hx).mono hF, hG⟩
theorem Pool.app {w : World} {tL : Nat} {F : Nat → Prop} {l m : List StC} (h : Pool w tL F l) (hm : Pool w tL F m) : Pool w tL F (l ++ m) :=
 ⟨fun x hx => (List.mem_append.1 hx).elim (h.at_ x) (hm.at_ x), h.lt⟩
theorem OwnT.init {α : Type} {f : α → List Value} {sz : Nat} (hf : ∀ x, (f x).length = sz) {w : World} {base e n c : Nat} {A : Option Addr} {l m : List α} (h : OwnT w base e sz f (.slice A n c) (l ++ m)) (h0 : 0 < m.length) : OwnT w base e sz f (.slice A l.length c) l := by
 obtain ⟨hl, h⟩ := h
 refine ⟨flat_len hf l, ?_⟩
 rcases h with ⟨_, hn⟩ | ⟨g, cap, cur, hv, hb, hg, h1, h2, h3, h4⟩
 ·rw [List.length_append] at hn; omega
 ·injection hv with e1 e2 e3
  subst e1; subst e3
  have hle : l.length ≤ (l ++ m).length := by rw [List.length_append]; omega
  refine .inr ⟨g, c, cur, rfl, hb, hg, by omega, h2, h3, ?_⟩
  have hm : l.length * sz ≤ (l ++ m).length * sz := Nat.mul_le_mul_right _ hle
  have : cur.toList.take (l.length * sz) = (cur.toList.take ((l ++ m).length * sz)).take (l.length * sz) := by rw [List.take_take, Nat.min_eq_left hm]
  rw [this, h4, List.flatMap_append, ← flat_len hf l, List.take_left]
end Go.Q
namespace Go.Q
open Go.RowKit
def XS (l : List HC) (a : List Nat) : List (HCall × Nat) := (l.map HC.c).zip a
section
variable {l : List HC} {a : List Nat} {t : Sr LS_} {i j n : Nat} {x y : HC}
theorem xs_len (ha : a.length = l.length) : (XS l a).length = l.length := by unfold XS; rw [List.length_zip, List.length_map]; omega
theorem xs_at (hx : l[i]? = some x) (hn : a[i]? = some n) : (XS l a)[i]? = some (x.c, n) := by
 unfold XS
 rw [List.getElem?_zip_eq_some]
 exact ⟨by rw [List.getElem?_map, hx]; rfl, hn⟩
theorem xs_some (ha : a.length = l.length) (hx : l[i]? = some x) : ∃ n, a[i]? = some n ∧ (XS l a)[i]? = some (x.c, n) := by
 have h := (List.getElem?_eq_some_iff.1 hx).1
 exact ⟨_, List.getElem?_eq_getElem (by omega), xs_at hx (List.getElem?_eq_getElem (by omega))⟩
theorem one_done {σ : Type} {P : Prob σ} {t : Sr σ} (h : t.done.testBit i = true) : P.one t i = none := by
 unfold Prob.one; rw [h]; rfl
theorem xs_wait (hx : l[i]? = some x) (ha : a.length = l.length) (d : Nat) : (probH (XS l a)).wait d i = (XS l a).zipIdx.any fun p => decide (p.2 ≠ i) && !d.testBit p.2 && aheadH p.1.1 x.c := by
 obtain ⟨n, hn, h⟩ := xs_some ha hx
 show (match (XS l a)[i]? with | some c => (XS l a).zipIdx.any fun p => decide (p.2 ≠ i) && !d.testBit p.2 && aheadH p.1.1 c.1 | none => true) = _
 rw [h]
theorem one_wait (ha : a.length = l.length) (hx : l[i]? = some x) (hy : l[j]? = some y) (hji : j ≠ i) (hb : t.done.testBit j = false) (hah : aheadH y.c x.c = true) : (probH (XS l a)).one t i = none := by
 obtain ⟨n, hn, h⟩ := xs_some ha hy
 have hw : (probH (XS l a)).wait t.done i = true := by
  rw [xs_wait hx ha, List.any_eq_true]
  refine ⟨((y.c, n), j), List.mem_of_getElem? (i := j) (by rw [List.getElem?_zipIdx, h]; simp), ?_⟩
  show (decide (j ≠ i) && !t.done.testBit j && aheadH y.c x.c) = true
  rw [hb, hah, decide_eq_true hji]; rfl
 unfold Prob.one
 rw [hw, Bool.or_true]; rfl
theorem xs_step (hx : l[i]? = some x) (ha : a.length = l.length) (s : LS_) : (probH (XS l a)).step i s = stepH x.c s := by
 obtain ⟨n, hn, h⟩ := xs_some ha hx
 show (match (XS l a)[i]? with | some c => stepH c.1 s | none => none) = _
 rw [h]
theorem one_refuse (ha : a.length = l.length) (hx : l[i]? = some x) (h : stepH x.c t.s = none) : (probH (XS l a)).one t i = none := by
 unfold Prob.one
 rw [xs_step hx ha, h]
 split <;> rfl
theorem one_go (ha : a.length = l.length) (hx : l[i]? = some x) (hn : a[i]? = some n) (hb : t.done.testBit i = false) (hw : ∀ j y, l[j]? = some y → j ≠ i → t.done.testBit j = false → aheadH y.c x.c = false) {s' : LS_} (hs : stepH x.c t.s = some s') :
  (probH (XS l a)).one t i = some ⟨t.order ++ [n], t.done ||| (1 <<< i), if x.c.told then t.left - 1 else t.left, s'⟩ := by
 have hw2 : (probH (XS l a)).wait t.done i = false := by
  rw [xs_wait hx ha, List.any_eq_false]
  intro p hp hq
  obtain ⟨⟨c, m⟩, k⟩ := p
  have hk := zip_mem hp
  rw [Bool.and_eq_true, Bool.and_eq_true] at hq
  obtain ⟨⟨q1, q2⟩, q3⟩ := hq
  have hlt := (List.getElem?_eq_some_iff.1 hk).1
  have hkl : k < l.length := by have : k < (XS l a).length := hlt; rwa [xs_len ha] at this
  obtain ⟨n2, _, h2⟩ := xs_some ha (List.getElem?_eq_getElem hkl)
  have h2' : some (c, m) = some ((l[k]).c, n2) := hk.symm.trans h2
  injection h2' with h2'
  injection h2' with e1 e2
  have := hw k l[k] (List.getElem?_eq_getElem hkl) (of_decide_eq_true q1) (by simpa using q2)
  rw [← e1] at this
  rw [show aheadH c x.c = true from q3] at this
  cases this
 have h := xs_at hx hn
 unfold Prob.one
 rw [hb, hw2, xs_step hx ha, hs]
 show some _ = _
 have e1 : (probH (XS l a)).num i = n := by show (match (XS l a)[i]? with | some c => c.2 | none => 0) = _; rw [h]
 have e2 : (probH (XS l a)).told i = x.c.told := by show (match (XS l a)[i]? with | some c => c.1.told | none => false) = _; rw [h]
 rw [e1, e2]
theorem stepH_not {c : HCall} {s : LS_} (h : c.told = false) : stepH c s = some (doS s.1 s.2 c.op, doK s.1 s.2 c.op) := by
 unfold stepH; rw [h]; rfl
theorem stepH_yes {c : HCall} {s : LS_} (h : doR s.1 s.2 c.op = c.rep) : stepH c s = some (doS s.1 s.2 c.op, doK s.1 s.2 c.op) := by
 unfold stepH; rw [decide_eq_false (fun q => q h), Bool.and_false]; rfl
theorem stepH_no {c : HCall} {s : LS_} (h0 : c.told = true) (h : doR s.1 s.2 c.op ≠ c.rep) : stepH c s = none := by
 unfold stepH; rw [h0, decide_eq_true h]; rfl
end
section
variable {σ : Type} {P : Prob σ} {t y : Sr σ} {i : Nat}
def Prob.nth (P : Prob σ) (t : Sr σ) (i : Nat) : Nat := ((List.range i).filterMap (P.one t)).length
theorem Prob.nth_none (h : P.one t i = none) : P.nth t (i + 1) = P.nth t i := by
 unfold Prob.nth; rw [List.range_succ, List.filterMap_append, List.length_append, List.filterMap_cons, h]; rfl
theorem Prob.nth_some (h : P.one t i = some y) : P.nth t (i + 1) = P.nth t i + 1 := by
 unfold Prob.nth; rw [List.range_succ, List.filterMap_append, List.length_append, List.filterMap_cons, h]; rfl
theorem Prob.nth_at (hi : i < P.n) (h : P.one t i = some y) : (P.nexts t)[P.nth t i]? = some y := by
 unfold Prob.nexts Prob.nth
 obtain ⟨k, hk⟩ : ∃ k, P.n = i + (k + 1) := ⟨P.n - i - 1, by omega⟩
 have e : List.range P.n = List.range i ++ (i :: (List.range' (i + 1) k)) := by
  rw [hk, List.range_eq_range', List.range_eq_range', ← List.range'_append_1, Nat.zero_add, List.range'_succ]
 rw [e, List.filterMap_append, List.filterMap_cons, h, List.getElem?_append_right (Nat.le_refl _), Nat.sub_self]
 rfl
theorem Prob.nth_lt (hi : i < P.n) (h : P.one t i = some y) : P.nth t i < (P.nexts t).length := (List.getElem?_eq_some_iff.1 (P.nth_at hi h)).1
theorem Prob.nth_end (h : i = P.n) : P.nth t i = (P.nexts t).length := by subst h; rfl
end
structure SrOk (X : List (HCall × Nat)) (t : Sr LS_) : Prop where
 v : (probH X).V t
 kle : t.s.2.length ≤ (probH X).pc t.done
 ole : t.order.length = (probH X).pc t.done
 dlt : t.done < 2 ^ X.length
theorem doK_le (S : List RowM) (K : List KeptM) (o : Opm) : (doK S K o).length ≤ K.length + 1 := by
 unfold doK; split
 ·rw [List.length_append]; exact Nat.le_refl _
 ·omega
theorem SrOk.one {X : List (HCall × Nat)} (hX : ∀ c ∈ X, -9223372036854775808 ≤ c.1.op.amount ∧ c.1.op.amount ≤ 9223372036854775807) {t t' : Sr LS_} {i : Nat} (hi : i < X.length) (h : (probH X).one t i = some t') (ht : SrOk X t) : SrOk X t' := by
 have hp := (Prob.one_pc (P := probH X) hi h).1
 refine ⟨Prob.one_V (probH_like hX) hi h ht.v, ?_, ?_, ?_⟩
 ·rw [hp]
  have hs := (Prob.one_pc (P := probH X) hi h).2.2
  have hs : (match X[i]? with | some c => stepH c.1 t.s | none => none) = some t'.s := hs
  cases hc : X[i]? with
  | none => rw [hc] at hs; cases hs
  | some c =>
   rw [hc] at hs
   have hs : stepH c.1 t.s = some t'.s := hs
   unfold stepH at hs
   split at hs
   ·cases hs
   ·injection hs with hs
    rw [← hs]
    have := doK_le t.s.1 t.s.2 c.1.op
    have := ht.kle
    show (doK t.s.1 t.s.2 c.1.op).length ≤ _
    omega
 ·rw [hp, ← ht.ole]
  unfold Prob.one at h
  split at h
  ·cases h
  ·obtain ⟨s', _, rfl⟩ := Option.map_eq_some_iff.1 h
   rw [List.length_append]; rfl
 ·unfold Prob.one at h
  split at h
  ·cases h
  ·obtain ⟨s', _, rfl⟩ := Option.map_eq_some_iff.1 h
   exact or_lt ht.dlt hi
theorem SrOk.nexts {X : List (HCall × Nat)} (hX : ∀ c ∈ X, -9223372036854775808 ≤ c.1.op.amount ∧ c.1.op.amount ≤ 9223372036854775807) {t t' : Sr LS_} (h : t' ∈ (probH X).nexts t) (ht : SrOk X t) : SrOk X t' := by
 obtain ⟨i, hi, h1⟩ := List.mem_filterMap.1 h
 exact SrOk.one hX (List.mem_range.1 hi) h1 ht
theorem SrOk.start (X : List (HCall × Nat)) : SrOk X (startH X) := by
 have h0 : (probH X).pc 0 = 0 := by
  show (List.range _).countP (fun i => (0 : Nat).testBit i) = 0
  rw [List.countP_eq_zero]
  intro i _
  simp
 exact ⟨startH_V X, Nat.zero_le _, h0.symm, Nat.two_pow_pos _⟩
theorem SrOk.len {X : List (HCall × Nat)} {t : Sr LS_} (h : SrOk X t) : t.s.2.length ≤ X.length ∧ t.order.length ≤ X.length ∧ 0 ≤ t.left ∧ t.left ≤ X.length := by
 have h1 := (probH X).pc_le t.done
 have h2 := h.kle
 have h3 := h.ole
 have h4 := h.v.1
 have h5 : (probH X).lf t.done ≤ X.length := by
  have := List.countP_le_length (p := fun i => (probH X).told i && !t.done.testBit i) (l := List.range (probH X).n)
  rwa [List.length_range] at this
 have e : (probH X).n = X.length := rfl
 omega
theorem div_lt64 {d k : Nat} (h : d < 18446744073709551616) : d / 2 ^ k < 18446744073709551616 := Nat.lt_of_le_of_lt (Nat.div_le_self _ _) h
theorem shl_lt {i : Nat} (h : i ≤ 63) : 1 <<< i < 18446744073709551616 := by
 rw [Nat.one_shiftLeft]
 exact Nat.lt_of_le_of_lt (Nat.pow_le_pow_right (by decide) h) (by decide)
theorem SrOk.d64 {X : List (HCall × Nat)} {t : Sr LS_} (h : SrOk X t) (h8 : X.length ≤ 8) : t.done < 18446744073709551616 :=
 Nat.lt_of_lt_of_le h.dlt (Nat.le_trans (Nat.pow_le_pow_right (by decide) h8) (by decide))
def nextA (tL : Nat) (X : List (HCall × Nat)) (t : Sr LS_) (base k : Nat) (v : Value) (W : World) : Prop :=
 ∃ y : StC, v = agg y.cells ∧ ((probH X).nexts t)[k]? = some y.m ∧ y.At W tL (fun i => base ≤ i ∧ i < W.heap.size)
end Go.Q
namespace Go.Proofs.YtnbcghbgeiocbaaDoor
open Go.Q Go.RowKit
theorem tyI : ElemTy Tryd.prog 35 3 1 8 := elemTy (by kernel_rfl)
theorem CloneI_nil (w : World) (n c : Nat)  : Calls Tryd.prog 51 ⟨[(Value.slice none n c)]⟩ w (fun e w' => e = .returned (.slice none 0 0) ∧ Keeps none_ w w') := by
 have K0 : Keeps none_ w w := Keeps.refl w
 refine q_calls Tryd.func51 (by kernel_rfl) (by kernel_rfl) ?_
 refine qsg ?_
 refine odz 1 ?_
 refine qs ?_
 refine qsg ?_
 refine ogd 2 [(0, .slice none n c), (2, .slice none 0 0), (4, .bool true)] ?_
 refine q_then (o := .tmp 4) (by kernel_rfl) rfl ?_
 refine qsg ?_
 refine ogd 1 [(0, .slice none n c), (2, .slice none 0 0)] ?_
 refine qtQ ?_
 refine ⟨(Value.slice none 0 0), retv_tmp rfl rfl, ?_⟩
 exact ⟨rfl, K0⟩
theorem CloneI_some (w : World) (a : Addr) (c : Nat) (l : List Nat) (hv : RdT w 1 iN (.slice (some a) l.length c) l) (hl : l.length ≤ 1000) : Calls Tryd.prog 51 ⟨[(Value.slice (some a) l.length c)]⟩ w (fun e w' => ∃ v', e = .returned v' ∧ Keeps none_ w w' ∧ OwnT w' w.heap.size 3 1 iN v' ([] ++ l)) := by
 have K0 : Keeps none_ w w := Keeps.refl w
 refine q_calls Tryd.func51 (by kernel_rfl) (by kernel_rfl) ?_
 refine qsg ?_
 refine odz 1 ?_
 refine qs ?_
 refine qsg ?_
 refine ogd 2 [(0, .slice (some a) l.length c), (2, .slice none 0 0), (4, .bool false)] ?_
 refine q_else (o := .tmp 4) (by kernel_rfl) rfl ?_
 refine qkQ ?_
 refine qsg ?_
 refine onew (rowL [] 3) (fun b => (Value.slice (some ⟨b, 0, none⟩) 0 0)) 5 (fun b => rfl) (fun b1 w2 hb3 H4 K5 hs6 => ?_)
 have nb1 : w.heap.size ≤ b1 := by have := K0.size; omega
 replace K0 := K0.t0 K5
 clear K5 hs6
 refine og 1 [(2, .slice none 0 0), (5, .slice (some ⟨b1, 0, none⟩) 0 0), (6, .slice (some a) l.length c)] 2 ?_
 have hE7 : OwnT w2 w.heap.size 3 1 iN (Value.slice (some ⟨b1, 0, none⟩) 0 0) [] := own_empty2 H4 nb1
 obtain ⟨v8, w9, hr10, hO11, hK12, hg13⟩ := OwnT.app (ty := 35) iN_one iN_cells tyI hE7 (Rd.keep0 (by omega) hv K0) (by first | omega | (simp only [List.length_nil]; omega)) (by first | omega | (simp only [List.length_nil]; omega)) K0.size
 obtain ⟨A15, c16, rfl⟩ := RdT.form iN_one (by decide) (OwnT.rd hO11)
 have K14 := hK12
 refine ogo (Value.slice A15 (([] ++ l).length) c16) 7 (Runs.append (ts := #[35, 35]) (ty := 35) (vs := [(Value.slice (some ⟨b1, 0, none⟩) 0 0), (Value.slice (some a) l.length c)]) (by kernel_rfl) hr10) rfl ?_
 replace K0 := K0.trans K14 (U := none_) (fun i h1 h2 => h2) (fun i h1 h2 => by have h2 : Ow (.slice (some ⟨b1, 0, none⟩) 0 0) i := h2; exfalso; have := (World.ownsRow.lt hE7 i h2).1; omega)
 clear hE7
 clear K14 hr10 hK12 hg13
 refine ogd 1 [(2, (Value.slice A15 (([] ++ l).length) c16))] ?_
 refine qtQ ?_
 refine ⟨(Value.slice A15 (([] ++ l).length) c16), retv_tmp rfl rfl, ?_⟩
 exact ⟨_, rfl, K0, hO11⟩
theorem CloneI_calls (w : World) (A : Option Addr) (c : Nat) (l : List Nat) (hv : RdT w 1 iN (.slice A l.length c) l) (hl : l.length ≤ 1000) : Calls Tryd.prog 51 ⟨[.slice A l.length c]⟩ w (fun e w' => ∃ A' c', e = .returned (.slice A' l.length c') ∧ Keeps none_ w w' ∧ OwnT w' w.heap.size 3 1 iN (.slice A' l.length c') l) := by
 cases A with
 | none =>
  refine (CloneI_nil w l.length c).mono ?_
  rintro e w' ⟨he, hk⟩
  have h0 : l = [] := by have h1 := Rd.none_nil2 hv; cases l with | nil => rfl | cons x l => simp [iN] at h1
  subst h0
  exact ⟨none, 0, he, hk, OwnT.nil _ _ _ _ _⟩
 | some a =>
  refine (CloneI_some w a c l hv hl).mono ?_
  rintro e w' ⟨v', he, hk, hO⟩
  rw [List.nil_append] at hO
  obtain ⟨A', c', rfl⟩ := RdT.form iN_one (by decide) (OwnT.rd hO)
  exact ⟨A', c', he, hk, hO⟩
theorem next_calls (w : World) (u1 u2 u3 u4 u5 u6 : Value)  : Calls Tryd.prog 33 ⟨[(agg [u1, u2]), (agg [u3, u4, u5, u6])]⟩ w (fun e w' => ∃ b2 b3, e = .returned (.func (.func 47) ⟨[]⟩ ⟨[ptr b2, ptr b3]⟩) ∧ Keeps none_ w w' ∧ Has w' b2 (rowL [u1, u2] 68) ∧ Has w' b3 (rowL [u3, u4, u5, u6] 73) ∧ w.heap.size ≤ b2 ∧ w.heap.size ≤ b3 ∧ b2 ≠ b3) := by
 have K0 : Keeps none_ w w := Keeps.refl w
 refine q_calls Tryd.func33 (by kernel_rfl) (by kernel_rfl) ?_
 refine qsg ?_
 refine onew (rowL [u1, u2] 68) (fun b => (ptr b)) 2 (fun b => rfl) (fun b1 w2 hb3 H4 K5 hs6 => ?_)
 have nb1 : w.heap.size ≤ b1 := by have := K0.size; omega
 replace K0 := K0.t0 K5
 clear K5 hs6
 refine onew (rowL [u3, u4, u5, u6] 73) (fun b => (ptr b)) 3 (fun b => rfl) (fun b7 w8 hb9 H10 K11 hs12 => ?_)
 have lb7b1 : b1 < b7 := by have := H4.lt; omega
 have nb7 : w.heap.size ≤ b7 := by have := K0.size; omega
 replace K0 := K0.t0 K11
 replace H4 := H4.kn K11
 clear K11 hs12
 refine odz 1 ?_
 refine qsg ?_
 refine ogd 2 [(4, .func (Fn.func 47) ⟨[]⟩ ⟨[(ptr b1), (ptr b7)]⟩)] ?_
 refine qtQ ?_
 refine ⟨(Value.func (Fn.func 47) ⟨[]⟩ ⟨[(ptr b1), (ptr b7)]⟩), retv_tmp rfl rfl, ?_⟩
 exact ⟨_, _, rfl, K0, H4, H10, nb1, nb7, by omega⟩
end Go.Proofs.YtnbcghbgeiocbaaDoor
namespace Go.Proofs.YtnbcghbgeiocbaaDoor
open Go.Q Go.RowKit
theorem next_tail (w : World) (ln m0 b2 b3 b5 b10 i nl : Nat) (LA : Option Addr) (lc : Nat) (x : HC) (A : Option Addr) (n c d lb : Nat) (lf : Int) (T : Nat → Prop) (J : World → Prop) {Q : List Deferred → Exit → Go.Q.Loc → World → Prop} (Hx5 : Has w b5 (rowL (HC.cells x) 43)) (Hx10 : Has w b10 (rowL [(Value.slice A n c), (Value.int IntKind.u64 ((d : Nat) : Int)), (i64 lf), (ptr lb)] 73)) (hlf : 0 ≤ lf ∧ lf ≤ 8) (hne : b5 ≠ b10)
  (hy : ∀ W1, Keeps (fun i => i = b10) w W1 → YieldAt Fence.wide m0 Tryd.prog ln #[agg [(Value.slice A n c), (Value.int IntKind.u64 ((d : Nat) : Int)), i64 (if x.c.told then lf - 1 else lf), (ptr lb)]] W1 (fun e W' => e = .returned (.bool true) ∧ J W' ∧ Keeps T W1 W'))
  (hQ : ∀ w', J w' → Keeps (fun i => T i ∨ i = b10) w w' → Q [] .normal [(0, (Value.func (Fn.yield ln) #[] #[])), (1, (ptr b2)), (2, (ptr b3)), (12, (Value.slice LA nl lc)), (13, (i64 ((nl : Nat) : Int))), (14, (i64 ((i : Nat) : Int)))] w') : wpR Fence.wide Tryd.prog (m0 + 1) Tryd.f47.ntmps (cd Tryd.f47 [1, 1, 1, 1, 1, 1, 0, 0, 1, 1, 0, 0, 1, 1, 0]) Q [] [(0, (Value.func (Fn.yield ln) #[] #[])), (1, (ptr b2)), (2, (ptr b3)), (5, (ptr b5)), (10, (ptr b10)), (12, (Value.slice LA nl lc)), (13, (i64 ((nl : Nat) : Int))), (14, (i64 ((i : Nat) : Int)))] w := by
 have K0 : Keeps (fun i => i = b10) w w := (Keeps.refl w).mono (fun _ _ h => h.elim)
 refine rsQ ?_
 refine rsg Open.wide ?_
 refine og 1 [(0, .func (Fn.yield ln) #[] #[]), (1, ptr b2), (2, ptr b3), (10, ptr b10), (12, .slice LA nl lc), (13, i64 ↑nl), (14, i64 ↑i), (85, .pointer (some ⟨b5, 9, none⟩))] 1 ?_
 refine ogo (Value.bool x.c.told) 86 (rld 4 b5 9 Hx5) rfl ?_
 refine od ?_
 refine rcQ 86 x.c.told rfl (fun h1 => ?_) (fun h1 => ?_)
 ·rw [h1]
  have p2 : x.c.told = true := h1
  refine rgQ Open.wide ?_
  refine og 1 [(0, .func (Fn.yield ln) #[] #[]), (1, ptr b2), (2, ptr b3), (10, ptr b10), (12, .slice LA nl lc), (13, i64 ↑nl), (14, i64 ↑i), (87, .pointer (some ⟨b10, 2, none⟩))] 1 ?_
  refine ogo (i64 lf) 88 (rld 3 b10 2 Hx10) rfl ?_
  refine og 1 [(0, .func (Fn.yield ln) #[] #[]), (1, ptr b2), (2, ptr b3), (10, ptr b10), (12, .slice LA nl lc), (13, i64 ↑nl), (14, i64 ↑i), (89, (i64 (IntKind.i64.wrap (lf - 1))))] 3 ?_
  have e3 : IntKind.i64.wrap (lf - 1) = lf - 1 := wrap_i64 (by omega) (by omega)
  rw [e3]
  refine og 1 [(0, .func (Fn.yield ln) #[] #[]), (1, ptr b2), (2, ptr b3), (10, ptr b10), (12, .slice LA nl lc), (13, i64 ↑nl), (14, i64 ↑i), (89, (i64 (lf - 1))), (90, .pointer (some ⟨b10, 2, none⟩))] 4 ?_
  refine Ops.put (t := 3) (b := b10) (off := 2) (v := (i64 (lf - 1))) (ys := [(Value.slice A n c), (Value.int IntKind.u64 ((d : Nat) : Int)), (i64 (lf - 1)), (ptr lb)]) (by kernel_rfl) (by kernel_rfl) Hx10 (by kernel_rfl) (d := none) (by kernel_rfl) rfl (fun w4 H5 K6 => ?_)
  clear Hx10
  replace K0 := K0.t1 K6 (fun _ => rfl)
  clear K6
  refine od ?_
  refine rsQ ?_
  have hyv := hy w4 K0
  rw [if_pos h1] at hyv
  refine qr_opsR (by kernel_rfl) ?_
  refine OpsR.regs Open.wide (by kernel_rfl) 1 [(0, (Value.func (Fn.yield ln) #[] #[])), (1, (ptr b2)), (2, (ptr b3)), (10, (ptr b10)), (12, (Value.slice LA nl lc)), (13, (i64 ((nl : Nat) : Int))), (14, (i64 ((i : Nat) : Int))), (91, (Value.func (Fn.yield ln) #[] #[]))] (j := 1) (by kernel_rfl) (by kernel_rfl) ?_
  refine OpsR.go Open.wide (by kernel_rfl) (v := (agg [(Value.slice A n c), (Value.int IntKind.u64 ((d : Nat) : Int)), (i64 (lf - 1)), (ptr lb)])) (by kernel_rfl) (rld 73 b10 0 H5) (d := some 92) (by kernel_rfl) rfl ?_
  refine OpsR.yield Open.wide (by kernel_rfl) (l := ln) (args := #[(agg [(Value.slice A n c), (Value.int IntKind.u64 ((d : Nat) : Int)), (i64 (lf - 1)), (ptr lb)])]) (at?_opn (by kernel_rfl)) (by kernel_rfl) hyv ?_
  rintro _ w9 ⟨rfl, hj9, k9⟩
  refine ⟨_, _, rfl, rfl, ?_⟩
  have k8 := K0.trans k9 (U := fun i => T i ∨ i = b10) (fun i _ h => .inr h) (fun i _ h => .inl h)
  refine OpsR.regs Open.wide (by kernel_rfl) 1 [(0, (Value.func (Fn.yield ln) #[] #[])), (1, (ptr b2)), (2, (ptr b3)), (12, (Value.slice LA nl lc)), (13, (i64 ((nl : Nat) : Int))), (14, (i64 ((i : Nat) : Int))), (94, (Value.bool false))] (j := 4) (by kernel_rfl) (by kernel_rfl) ?_
  refine OpsR.done (by kernel_rfl) ?_
  refine qr_else (o := .tmp 94) (by kernel_rfl) rfl ?_
  refine qr_keep (R := [(0, .func (Fn.yield ln) #[] #[]), (1, ptr b2), (2, ptr b3), (12, .slice LA nl lc), (13, i64 ↑nl), (14, i64 ↑i)]) (by kernel_rfl) ?_
  refine rkQ ?_
  exact hQ _ hj9 k8
 ·rw [h1]
  have p7 : x.c.told = false := h1
  refine rkQ ?_
  refine rsQ ?_
  have hyv := hy w K0
  rw [if_neg (by rw [h1]; decide)] at hyv
  refine qr_opsR (by kernel_rfl) ?_
  refine OpsR.regs Open.wide (by kernel_rfl) 1 [(0, (Value.func (Fn.yield ln) #[] #[])), (1, (ptr b2)), (2, (ptr b3)), (10, (ptr b10)), (12, (Value.slice LA nl lc)), (13, (i64 ((nl : Nat) : Int))), (14, (i64 ((i : Nat) : Int))), (91, (Value.func (Fn.yield ln) #[] #[]))] (j := 1) (by kernel_rfl) (by kernel_rfl) ?_
  refine OpsR.go Open.wide (by kernel_rfl) (v := (agg [(Value.slice A n c), (Value.int IntKind.u64 ((d : Nat) : Int)), (i64 lf), (ptr lb)])) (by kernel_rfl) (rld 73 b10 0 Hx10) (d := some 92) (by kernel_rfl) rfl ?_
  refine OpsR.yield Open.wide (by kernel_rfl) (l := ln) (args := #[(agg [(Value.slice A n c), (Value.int IntKind.u64 ((d : Nat) : Int)), (i64 lf), (ptr lb)])]) (at?_opn (by kernel_rfl)) (by kernel_rfl) hyv ?_
  rintro _ w9 ⟨rfl, hj9, k9⟩
  refine ⟨_, _, rfl, rfl, ?_⟩
  have k8 := K0.trans k9 (U := fun i => T i ∨ i = b10) (fun i _ h => .inr h) (fun i _ h => .inl h)
  refine OpsR.regs Open.wide (by kernel_rfl) 1 [(0, (Value.func (Fn.yield ln) #[] #[])), (1, (ptr b2)), (2, (ptr b3)), (12, (Value.slice LA nl lc)), (13, (i64 ((nl : Nat) : Int))), (14, (i64 ((i : Nat) : Int))), (94, (Value.bool false))] (j := 4) (by kernel_rfl) (by kernel_rfl) ?_
  refine OpsR.done (by kernel_rfl) ?_
  refine qr_else (o := .tmp 94) (by kernel_rfl) rfl ?_
  refine qr_keep (R := [(0, .func (Fn.yield ln) #[] #[]), (1, ptr b2), (2, ptr b3), (12, .slice LA nl lc), (13, i64 ↑nl), (14, i64 ↑i)]) (by kernel_rfl) ?_
  refine rkQ ?_
  exact hQ _ hj9 k8
end Go.Proofs.YtnbcghbgeiocbaaDoor
