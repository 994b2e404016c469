/- What the claim stands on, part 6: rules of the walk, contracts of the functions, plain laws. -/
import Derived.Test.YtnbcghbgeiocbaaDoorKHTurns4
import Derived.Lib.ConvBytes
import Derived.Test.YtnbcghbgeiocbaaDoorKHTurns5
import Derived.Test.YtnbcghbgeiocbaaDoorKHTurns3
import Derived.Test.YtnbcghbgeiocbaaDoorKHTurns1
import Derived.Test.YtnbcghbgeiocbaaDoorProg
set_option linter.unusedVariables false
namespace Go.Q
open Go.RowKit

/-! ### operations and answers as bytes -/
structure Opm.Ok (o : Opm) : Prop where
  kind : -9223372036854775808 ≤ o.kind ∧ o.kind ≤ 9223372036854775807
  amount : -9223372036854775808 ≤ o.amount ∧ o.amount ≤ 9223372036854775807
  slot : -9223372036854775808 ≤ o.slot ∧ o.slot ≤ 9223372036854775807
  shard : -9223372036854775808 ≤ o.shard ∧ o.shard ≤ 9223372036854775807
def opv (o : Opm) : List UInt8 := iv o.kind ++ (tv o.frm ++ (tv o.to ++ (iv o.amount ++ (tv o.key ++ (iv o.slot ++ iv o.shard)))))
def rowsv : List RowM → List UInt8
  | [] => []
  | x :: l => tv x.name ++ (iv x.amount ++ rowsv l)
structure ReplyM.Ok (p : ReplyM) : Prop where
  why : -9223372036854775808 ≤ p.why ∧ p.why ≤ 9223372036854775807
  amount : -9223372036854775808 ≤ p.amount ∧ p.amount ≤ 9223372036854775807
  rows : ∀ x ∈ p.rows, -9223372036854775808 ≤ x.amount ∧ x.amount ≤ 9223372036854775807
def rpv (p : ReplyM) : List UInt8 := iv p.why ++ (iv p.amount ++ (uv p.rows.length ++ rowsv p.rows))
theorem tv_ge (s : List UInt8) : s.length ≤ (tv s).length := by unfold tv; rw [List.length_append]; omega
/-! ### what is written is read -/
end Go.Q
namespace Go.Q
end Go.Q
namespace Go.Q
end Go.Q
namespace Go.Q
end Go.Q
namespace Go.Q
open Go.RowKit
/-- What is wrong of an operation. -/
def wrongE (o : Opm) : Int :=
  if o.kind = 6 then 0
  else if o.kind = 7 then (if o.slot < 0 ∨ 15 < o.slot ∨ o.shard < 1 ∨ 3 < o.shard then 1 else 0)
  else if o.kind < 1 ∨ 7 < o.kind then 1
  else if nameOk o.frm = false then 46
  else if o.kind = 5 then 0
  else if nameOk o.key = false then 46
  else if o.kind = 1 then 0
  else if o.kind = 4 ∧ nameOk o.to = false then 46
  else if o.amount < 1 then 47
  else if o.kind = 4 ∧ o.frm = o.to then 44
  else 0
section
variable {P : Program} {w : World} {t : TypeId}
def ixv? (L : Loc) (o : Oper) : Option (TypeId × Value × Value) := match o.op with | .index t x y => some (t, ev L x, ev L y) | _ => none
end
theorem ne_of_t {b : Bool} (h : b = true) : ¬ b = false := by rw [h]; decide
theorem and_ne_of_t {p : Prop} {b : Bool} (h : b = true) : ¬ (p ∧ b = false) := fun q => ne_of_t h q.2
theorem and_ne {p q : Prop} (h : ¬ q) : ¬ (p ∧ q) := fun x => h x.2
theorem beq_false_ne {a b : List UInt8} (h : (a == b) = false) : ¬ a = b := by simpa using h
theorem beq_true_eq {a b : List UInt8} (h : (a == b) = true) : a = b := by simpa using h
end Go.Q
namespace Go.Q
open Go.RowKit
def kpair (x : List UInt8 × List UInt8) : Value := agg [.string (str x.1), .string (str x.2)]
theorem str_inj {a b : List UInt8} (h : str a = str b) : a = b := by
  have := congrArg (fun z : ByteArray => z.data.toList) h
  simpa [str] using this
theorem byteArray_beq (a : ByteArray) : (a == a) = true := Go.MapKept.sameBits_self (d := .string) (k := .string a) (by trivial) 0
theorem kpair_inj {x y : List UInt8 × List UInt8} (h : kpair x = kpair y) : x = y := by
  simp only [kpair, agg, Value.agg.injEq] at h
  have h := congrArg Array.toList h
  simp only [List.cons.injEq, Value.string.injEq, and_true] at h
  exact Prod.ext (str_inj h.1) (str_inj h.2)
theorem aggB_pair (x y : List UInt8 × List UInt8) : aggB [.string (str x.1), .string (str x.2)] [.string (str y.1), .string (str y.2)] = decide (x = y) := by
  simp only [aggB, cellB, str_toList, Bool.and_true]
  rw [Bool.eq_iff_iff]
  simp only [Bool.and_eq_true, beq_iff_eq, decide_eq_true_eq]
  exact ⟨fun h => Prod.ext h.1 h.2, fun h => by rw [h]; exact ⟨rfl, rfl⟩⟩
theorem findAsk_pair {P : Program} {k : TypeId} (he : ∀ a b c d, eqOk P k [.string a, .string b] [.string c, .string d] = true) (x : List UInt8 × List UInt8) (w : World) : ∀ (es : List MapEntry) (i : Nat), (∀ e ∈ es, ∃ y, e.key = kpair y) →
    (∃ j e, es[j]? = some e ∧ e.key = kpair x ∧ (Instr.findAsking k (kpair x) es i).run P w = .ok (some (i + j, e.val)) w) ∨ ((∀ e ∈ es, e.key ≠ kpair x) ∧ (Instr.findAsking k (kpair x) es i).run P w = .ok none w)
  | [], i, _ => .inr ⟨fun e h => (by cases h), by simp [Instr.findAsking, Sem.run_pure]⟩
  | e :: es, i, hks => by
    obtain ⟨y, hy⟩ := hks e (List.mem_cons_self ..)
    have hq : (Op.equal k (kpair x) e.key).run P w = .ok (decide (x = y)) w := by
      rw [hy, ← aggB_pair]
      exact run_aggeq (he _ _ _ _)
    by_cases hxy : x = y
    · refine .inl ⟨0, e, rfl, by rw [hy, hxy], ?_⟩
      rw [decide_eq_true hxy] at hq
      simp only [Instr.findAsking, Sem.run_bind, hq, Result.andThen_ok, if_true, Sem.run_pure, Nat.add_zero]
    · rcases findAsk_pair he x w es (i + 1) (fun e he => hks e (List.mem_cons_of_mem _ he)) with ⟨j, e2, h1, h2, h3⟩ | ⟨h1, h2⟩
      · refine .inl ⟨j + 1, e2, h1, h2, ?_⟩
        simp only [Instr.findAsking, Sem.run_bind, hq, Result.andThen_ok, hxy, decide_false, Bool.false_eq_true, if_false]
        rw [h3, show i + 1 + j = i + (j + 1) from by omega]
      · refine .inr ⟨fun e2 he2 => ?_, ?_⟩
        · rcases List.mem_cons.1 he2 with rfl | he2
          · rw [hy]; exact fun h => hxy (kpair_inj h).symm
          · exact h1 e2 he2
        · simp only [Instr.findAsking, Sem.run_bind, hq, Result.andThen_ok, hxy, decide_false, Bool.false_eq_true, if_false]
          exact h2
theorem run_check_str {P : Program} {t : TypeId} (ht : P.underlying t = some .string) (e : Bool) (n : Nat) (s : ByteArray) (w : World) : (Instr.checkKey e (n + 1) t (.string s)).run P w = .ok () w := Go.MapKept.run_checkKey (d := .string) ht (by trivial) e n
theorem keyTy_pair {P : Program} {k : TypeId} {f1 f2 : Field} (hk : P.underlying k = some (.struct #[f1, f2])) (h1 : P.underlying f1.type = some .string) (h2 : P.underlying f2.type = some .string) (o1 : f1.offset = 0) (o2 : f2.offset = 1)
    (he : ∀ a b c d, eqOk P k [.string a, .string b] [.string c, .string d] = true) : KeyTy P k kpair where
  check e x w := by
    show (Instr.checkKey e (9999 + 1) k (agg [.string (str x.1), .string (str x.2)])).run P w = .ok () w
    have hp1 : isAgg? P f1.type = some false := by unfold isAgg?; rw [h1]
    have hp2 : isAgg? P f2.type = some false := by unfold isAgg?; rw [h2]
    have e1 : (part f1.type #[.string (str x.1), .string (str x.2)] f1.offset).run P w = .ok (.string (str x.1)) w := run_part1 hp1 (by rw [o1]; rfl)
    have e2 : (part f2.type #[.string (str x.1), .string (str x.2)] f2.offset).run P w = .ok (.string (str x.2)) w := run_part1 hp2 (by rw [o2]; rfl)
    unfold Instr.checkKey
    simp only [Sem.run_bind, run_underlying hk, Result.andThen_ok, agg]
    have c1 := run_check_str h1 e 9998 (str x.1) w
    have c2 := run_check_str h2 e 9998 (str x.2) w
    by_cases q1 : f1.name = "_" <;> by_cases q2 : f2.name = "_" <;> simp [q1, q2, e1, e2, c1, c2, Sem.run_bind, Result.andThen_ok, Sem.run_pure, Result.andThen]
  find x es w h := by
    have hx : (Instr.findKey k (kpair x) es).run P w = .ok none w ∨ (Instr.findKey k (kpair x) es).run P w = (Instr.findAsking k (kpair x) es 0).run P w := by
      cases es with
      | nil => exact .inl (by simp [Instr.findKey, Sem.run_bind, run_underlying hk, Result.andThen_ok, Instr.findNow, Sem.run_pure])
      | cons e es => exact .inr (by simp [Instr.findKey, Sem.run_bind, run_underlying hk, Result.andThen_ok, Instr.findNow, Instr.sameNow])
    rcases findAsk_pair he x w es 0 h with ⟨j, e, q1, q2, q3⟩ | ⟨q1, q2⟩
    · rcases hx with hx | hx
      · cases es with
        | nil => cases q1
        | cons e0 es => exact absurd hx (by rw [show (Instr.findKey k (kpair x) (e0 :: es)).run P w = (Instr.findAsking k (kpair x) (e0 :: es) 0).run P w from by simp [Instr.findKey, Sem.run_bind, run_underlying hk, Result.andThen_ok, Instr.findNow, Instr.sameNow], q3]; simp)
      · exact .inl ⟨j, e, q1, q2, by rw [hx, q3, Nat.zero_add]⟩
    · rcases hx with hx | hx
      · exact .inr ⟨q1, hx⟩
      · exact .inr ⟨q1, by rw [hx, q2]⟩
  same x := by simp [kpair, agg, Instr.sameBits, byteArray_beq]
  inj x y h := kpair_inj h
end Go.Q
namespace Go.Q
open Go.RowKit
def getW (S : List RowM) (n : List UInt8) : Option RowM := S.find? (fun a => decide (a.name = n))
def setW (S : List RowM) (n : List UInt8) (x : Int) : List RowM := S.map fun a => if a.name = n then ⟨n, x⟩ else a
def insW : List RowM → RowM → List RowM
  | [], a => [a]
  | b :: S, a => if b.name < a.name then b :: insW S a else a :: b :: S
def RowM.pair (a : RowM) : List UInt8 × Int := (a.name, a.amount)
structure RowM.Fit (a : RowM) : Prop where
  name : nameOk a.name = true
  lo : 0 ≤ a.amount
  hi : a.amount ≤ 9223372036854775807
/-- Accounts as a ledger has them, in the order of their names. -/
structure Led (S : List RowM) : Prop where
  sorted : S.Pairwise (fun a b => ltN a.name b.name)
  ok : ∀ a ∈ S, a.Fit
structure LMap (m : List (List UInt8 × Int)) (S : List RowM) : Prop where
  led : Led S
  perm : (S.map RowM.pair).Perm m
theorem Led.nil : Led [] := ⟨List.Pairwise.nil, fun a h => (by cases h)⟩
theorem LMap.nil : LMap [] [] := ⟨Led.nil, List.Perm.refl _⟩
theorem nameOk_len {n : List UInt8} (h : nameOk n = true) : 1 ≤ n.length ∧ n.length ≤ 24 := by
  simp only [nameOk, Bool.and_eq_true, decide_eq_true_eq] at h
  exact h.1
theorem getW_some {S : List RowM} {n : List UInt8} {a : RowM} (h : getW S n = some a) : a ∈ S ∧ a.name = n := by
  unfold getW at h
  exact ⟨List.mem_of_find?_eq_some h, by simpa using List.find?_some h⟩
theorem getW_none {S : List RowM} {n : List UInt8} (h : getW S n = none) : ∀ a ∈ S, a.name ≠ n := by
  unfold getW at h
  rw [List.find?_eq_none] at h
  intro a ha
  simpa using h a ha
theorem wpair_map_fst (S : List RowM) : (S.map RowM.pair).map (·.1) = S.map (·.name) := by rw [List.map_map]; rfl
theorem LMap.len {m : List (List UInt8 × Int)} {S : List RowM} (h : LMap m S) : m.length = S.length := by have := h.perm.length_eq; simpa using this.symm
theorem Led.nodup {S : List RowM} (h : Led S) : (S.map (·.name)).Nodup := by
  refine List.pairwise_map.2 (h.sorted.imp fun hlt e => ?_)
  exact ltN_irrefl _ (by rw [e] at hlt; exact hlt)
theorem LMap.nodup {m : List (List UInt8 × Int)} {S : List RowM} (h : LMap m S) : (m.map (·.1)).Nodup := (h.perm.map (·.1)).nodup_iff.1 (by rw [wpair_map_fst]; exact h.led.nodup)
theorem LMap.get {m : List (List UInt8 × Int)} {S : List RowM} (h : LMap m S) (n : List UInt8) : getM m n = (getW S n).map RowM.amount := by
  cases hg : getW S n with
  | none =>
    rw [Option.map_none]
    refine getM_none fun hx => ?_
    have hx := (h.perm.map (·.1)).mem_iff.2 hx
    rw [wpair_map_fst, List.mem_map] at hx
    obtain ⟨a, ha, e⟩ := hx
    exact getW_none hg a ha e
  | some a =>
    obtain ⟨ha, rfl⟩ := getW_some hg
    have hm : (a.name, a.amount) ∈ m := h.perm.mem_iff.1 (List.mem_map.2 ⟨a, ha, rfl⟩)
    obtain ⟨i, hi⟩ := List.getElem?_of_mem hm
    exact getM_at h.nodup hi rfl
/-- What is looked up in the map, as a word on the accounts. -/
theorem LMap.got_none {m : List (List UInt8 × Int)} {S : List RowM} (h : LMap m S) {n : List UInt8} (hg : getM m n = none) : getW S n = none := by
  rw [h.get] at hg; exact Option.map_eq_none_iff.1 hg
theorem LMap.got_some {m : List (List UInt8 × Int)} {S : List RowM} (h : LMap m S) {n : List UInt8} {x : Int} (hg : getM m n = some x) : getW S n = some ⟨n, x⟩ ∧ 0 ≤ x ∧ x ≤ 9223372036854775807 := by
  rw [h.get] at hg
  obtain ⟨a, h1, h2⟩ := Option.map_eq_some_iff.1 hg
  obtain ⟨h3, h4⟩ := getW_some h1
  have ho := h.led.ok a h3
  subst h2
  subst h4
  exact ⟨h1, ho.lo, ho.hi⟩
theorem insW_perm : ∀ (S : List RowM) (a : RowM), (insW S a).Perm (S ++ [a])
  | [], a => List.Perm.refl _
  | b :: S, a => by
    unfold insW
    split
    · exact (insW_perm S a).cons b
    · exact (List.perm_append_comm (l₁ := [a]) (l₂ := b :: S))
theorem insW_sorted : ∀ {S : List RowM} {a : RowM}, S.Pairwise (fun a b => ltN a.name b.name) → (∀ b ∈ S, b.name ≠ a.name) → (insW S a).Pairwise (fun a b => ltN a.name b.name)
  | [], a, _, _ => by simp [insW]
  | b :: S, a, h, hn => by
    rw [List.pairwise_cons] at h
    unfold insW
    split
    · next hlt =>
      rw [List.pairwise_cons]
      refine ⟨fun c hc => ?_, insW_sorted h.2 fun c hc => hn c (List.mem_cons_of_mem _ hc)⟩
      rcases List.mem_append.1 ((insW_perm S a).mem_iff.1 hc) with hc | hc
      · exact h.1 c hc
      · rw [List.mem_singleton.1 hc]; exact hlt
    · next hlt =>
      have hba : ltN a.name b.name := by
        rcases ltN_or b.name a.name with h1 | h1 | h1
        · exact absurd h1 hlt
        · exact absurd h1 (hn b (List.mem_cons_self ..))
        · exact h1
      rw [List.pairwise_cons, List.pairwise_cons]
      refine ⟨fun c hc => ?_, h.1, h.2⟩
      rcases List.mem_cons.1 hc with rfl | hc
      · exact hba
      · exact ltN_trans hba (h.1 c hc)
theorem Led.ins {S : List RowM} {a : RowM} (h : Led S) (ha : a.Fit) (hg : getW S a.name = none) : Led (insW S a) where
  sorted := insW_sorted h.sorted (getW_none hg)
  ok b hb := by
    rcases List.mem_append.1 ((insW_perm S a).mem_iff.1 hb) with hb | hb
    · exact h.ok b hb
    · rw [List.mem_singleton.1 hb]; exact ha
theorem Led.set {S : List RowM} {n : List UInt8} {x : Int} (h : Led S) (h0 : 0 ≤ x ∧ x ≤ 9223372036854775807) : Led (setW S n x) where
  sorted := by
    unfold setW
    refine List.pairwise_map.2 (h.sorted.imp fun {a b} hlt => ?_)
    have e : ∀ c : RowM, (if c.name = n then (⟨n, x⟩ : RowM) else c).name = c.name := by
      intro c
      split
      · next h => exact h.symm
      · rfl
    rw [e, e]
    exact hlt
  ok b hb := by
    unfold setW at hb
    obtain ⟨c, hc, rfl⟩ := List.mem_map.1 hb
    split
    · next hn => exact ⟨by rw [← hn]; exact (h.ok c hc).name, h0.1, h0.2⟩
    · exact h.ok c hc
theorem LMap.ins {m : List (List UInt8 × Int)} {S : List RowM} (h : LMap m S) {n : List UInt8} (hn : nameOk n = true) (hg : getM m n = none) : LMap (putM m n 0) (insW S ⟨n, 0⟩) where
  led := h.led.ins ⟨hn, Int.le_refl 0, by show (0 : Int) ≤ 9223372036854775807; decide⟩ (h.got_none hg)
  perm := by
    unfold putM
    rw [if_neg (getM_not hg)]
    refine ((insW_perm S ⟨n, 0⟩).map RowM.pair).trans ?_
    rw [List.map_append]
    exact h.perm.append_right _
theorem LMap.set {m : List (List UInt8 × Int)} {S : List RowM} (h : LMap m S) {n : List UInt8} {y : Int} (hg : getM m n = some y) {x : Int} (h0 : 0 ≤ x ∧ x ≤ 9223372036854775807) : LMap (putM m n x) (setW S n x) where
  led := h.led.set h0
  perm := by
    unfold putM
    rw [if_pos (getM_key hg)]
    refine List.Perm.trans (List.Perm.of_eq ?_) (h.perm.map (fun y : List UInt8 × Int => if y.1 = n then (n, x) else y))
    unfold setW
    rw [List.map_map, List.map_map]
    refine List.map_congr_left fun b _ => ?_
    by_cases hb : b.name = n <;> simp [RowM.pair, hb]
theorem setW_len (S : List RowM) (n : List UInt8) (x : Int) : (setW S n x).length = S.length := List.length_map ..
theorem insW_len (S : List RowM) (a : RowM) : (insW S a).length = S.length + 1 := by rw [(insW_perm S a).length_eq, List.length_append]; rfl
theorem getM_put_ne {κ α : Type} [DecidableEq κ] {m : List (κ × α)} {x y : κ} {a : α} (h : y ≠ x) : getM (putM m x a) y = getM m y := by
  unfold putM getM
  by_cases hm : x ∈ m.map (·.1)
  · rw [if_pos hm]
    clear hm
    congr 1
    induction m with
    | nil => rfl
    | cons z m ih =>
      rw [List.map_cons, List.find?_cons, List.find?_cons]
      by_cases hz : z.1 = x
      · simp only [hz, if_true]
        rw [show decide (x = y) = false from decide_eq_false (fun q => h q.symm)]
        exact ih
      · simp only [hz, if_false]
        by_cases hy : z.1 = y
        · rw [decide_eq_true hy]
        · rw [decide_eq_false hy]; exact ih
  · rw [if_neg hm, List.find?_append]
    have : List.find? (fun z : κ × α => decide (z.1 = y)) [(x, a)] = none := by simp [Ne.symm h]
    rw [this, Option.or_none]

/-- An operation that is kept, with what came of it. -/
structure KeptM where
  op : Opm
  why : Int
def KeptM.id (k : KeptM) : List UInt8 × List UInt8 := (k.op.frm, k.op.key)
def keptv (k : KeptM) : Value := agg [i64 k.op.kind, .string (str k.op.frm), .string (str k.op.to), i64 k.op.amount, .string (str k.op.key), i64 k.op.slot, i64 k.op.shard, i64 k.why]
def ki64 (x : Int) : Value := i64 x
def KeptM.kv (k : KeptM) : (List UInt8 × List UInt8) × KeptM := (k.id, k)
def findK (K : List KeptM) (f k : List UInt8) : Option KeptM := getM (K.map KeptM.kv) (f, k)
structure KeptM.Ok (k : KeptM) : Prop where
  frm : nameOk k.op.frm = true
  key : nameOk k.op.key = true
  why : 0 ≤ k.why ∧ k.why ≤ 43
  kind : 1 ≤ k.op.kind ∧ k.op.kind ≤ 4
  amount : -9223372036854775808 ≤ k.op.amount ∧ k.op.amount ≤ 9223372036854775807
  to : k.op.to.length ≤ 24
/-- What a ledger is. -/
structure Ledg (S : List RowM) (K : List KeptM) : Prop where
  led : Led S
  ids : (K.map KeptM.id).Nodup
  ok : ∀ k ∈ K, k.Ok
  le : S.length ≤ K.length
structure LBook (m : List (List UInt8 × Int)) (S : List RowM) (K : List KeptM) : Prop where
  ledg : Ledg S K
  perm : (S.map RowM.pair).Perm m
theorem LBook.lmap {m : List (List UInt8 × Int)} {S : List RowM} {K : List KeptM} (h : LBook m S K) : LMap m S := ⟨h.ledg.led, h.perm⟩
theorem Ledg.nil : Ledg [] [] := ⟨Led.nil, List.Pairwise.nil, fun a h => (by cases h), Nat.le_refl _⟩
theorem LBook.nil : LBook [] [] [] := ⟨Ledg.nil, List.Perm.refl _⟩
theorem kv_fst (K : List KeptM) : (K.map KeptM.kv).map (·.1) = K.map KeptM.id := by rw [List.map_map]; rfl
theorem findK_some {K : List KeptM} {f k : List UInt8} {x : KeptM} (h : findK K f k = some x) : x ∈ K ∧ x.op.frm = f ∧ x.op.key = k := by
  have h1 := getM_mem h
  obtain ⟨y, hy, e⟩ := List.mem_map.1 h1
  simp only [KeptM.kv, KeptM.id, Prod.mk.injEq] at e
  obtain ⟨⟨h2, h3⟩, rfl⟩ := e
  exact ⟨hy, h2, h3⟩
theorem findK_none {K : List KeptM} {f k : List UInt8} (h : findK K f k = none) : (f, k) ∉ K.map KeptM.id := by
  have := getM_not h
  rwa [kv_fst] at this
theorem putM_kept {K : List KeptM} {x : KeptM} (h : findK K x.op.frm x.op.key = none) : putM (K.map KeptM.kv) (x.op.frm, x.op.key) x = (K ++ [x]).map KeptM.kv := by
  unfold putM
  rw [if_neg (getM_not h), List.map_append]
  rfl

def actE (S : List RowM) (o : Opm) : Int :=
  if o.kind = 1 then (if (getW S o.frm).isSome then 41 else 0)
  else match getW S o.frm with
    | none => 40
    | some a =>
      if o.kind = 2 then (if 9223372036854775807 - o.amount < a.amount then 43 else 0)
      else if a.amount < o.amount then 42
      else if o.kind = 4 then (match getW S o.to with | none => 40 | some b => if 9223372036854775807 - o.amount < b.amount then 43 else 0)
      else 0
def actS (S : List RowM) (o : Opm) : List RowM :=
  if o.kind = 1 then (if (getW S o.frm).isSome then S else insW S ⟨o.frm, 0⟩)
  else match getW S o.frm with
    | none => S
    | some a =>
      if o.kind = 2 then (if 9223372036854775807 - o.amount < a.amount then S else setW S o.frm (a.amount + o.amount))
      else if a.amount < o.amount then S
      else if o.kind = 4 then (match getW S o.to with | none => S | some b => if 9223372036854775807 - o.amount < b.amount then S else setW (setW S o.to (b.amount + o.amount)) o.frm (a.amount - o.amount))
      else setW S o.frm (a.amount - o.amount)
def plainE (o : Opm) : Opm := ⟨o.kind, o.frm, if o.kind = 4 then o.to else [], if o.kind = 1 then 0 else o.amount, o.key, 0, 0⟩
/-- Whether an operation is one that is done now, and kept. -/
def Fresh (K : List KeptM) (o : Opm) : Prop := wrongE o = 0 ∧ o.kind ≠ 7 ∧ o.kind ≠ 6 ∧ o.kind ≠ 5 ∧ findK K o.frm o.key = none
instance (K : List KeptM) (o : Opm) : Decidable (Fresh K o) := by
  unfold Fresh
  have : Decidable (findK K o.frm o.key = none) := decidable_of_iff ((findK K o.frm o.key).isNone = true) (by simp)
  infer_instance
def opEq (a b : Opm) : Bool := aggB a.cells b.cells
def doR (S : List RowM) (K : List KeptM) (o : Opm) : ReplyM :=
  if wrongE o ≠ 0 then ⟨wrongE o, 0, []⟩ else if o.kind = 7 then ⟨0, 0, []⟩ else if o.kind = 6 then ⟨0, 0, S⟩
  else if o.kind = 5 then (match getW S o.frm with | none => ⟨40, 0, []⟩ | some a => ⟨0, a.amount, []⟩)
  else match findK K o.frm o.key with
    | some k => if opEq k.op (plainE o) = false then ⟨45, 0, []⟩ else ⟨k.why, 0, []⟩
    | none => ⟨actE S (plainE o), 0, []⟩
def doS (S : List RowM) (K : List KeptM) (o : Opm) : List RowM := if Fresh K o then actS S (plainE o) else S
def doK (S : List RowM) (K : List KeptM) (o : Opm) : List KeptM := if Fresh K o then K ++ [⟨plainE o, actE S (plainE o)⟩] else K
section
variable {S : List RowM} {K : List KeptM} {o : Opm}
theorem do_wrong (h : wrongE o ≠ 0) : doR S K o = ⟨wrongE o, 0, []⟩ ∧ doS S K o = S ∧ doK S K o = K := ⟨if_pos h, if_neg fun q => h q.1, if_neg fun q => h q.1⟩
theorem do_move (h : wrongE o = 0) (h7 : o.kind = 7) : doR S K o = ⟨0, 0, []⟩ ∧ doS S K o = S ∧ doK S K o = K := ⟨by unfold doR; rw [if_neg (fun q => q h), if_pos h7], if_neg fun q => q.2.1 h7, if_neg fun q => q.2.1 h7⟩
theorem do_audit (h : wrongE o = 0) (h6 : o.kind = 6) : doR S K o = ⟨0, 0, S⟩ ∧ doS S K o = S ∧ doK S K o = K := ⟨by unfold doR; rw [if_neg (fun q => q h), if_neg (by omega), if_pos h6], if_neg fun q => q.2.2.1 h6, if_neg fun q => q.2.2.1 h6⟩
theorem do_bal_none (h : wrongE o = 0) (h5 : o.kind = 5) (hg : getW S o.frm = none) : doR S K o = ⟨40, 0, []⟩ ∧ doS S K o = S ∧ doK S K o = K :=
  ⟨by unfold doR; rw [if_neg (fun q => q h), if_neg (by omega), if_neg (by omega), if_pos h5, hg], if_neg fun q => q.2.2.2.1 h5, if_neg fun q => q.2.2.2.1 h5⟩
theorem do_bal_some (h : wrongE o = 0) (h5 : o.kind = 5) {a : RowM} (hg : getW S o.frm = some a) : doR S K o = ⟨0, a.amount, []⟩ ∧ doS S K o = S ∧ doK S K o = K :=
  ⟨by unfold doR; rw [if_neg (fun q => q h), if_neg (by omega), if_neg (by omega), if_pos h5, hg], if_neg fun q => q.2.2.2.1 h5, if_neg fun q => q.2.2.2.1 h5⟩
theorem do_other (h : wrongE o = 0) (h7 : o.kind ≠ 7) (h6 : o.kind ≠ 6) (h5 : o.kind ≠ 5) {k : KeptM} (hk : findK K o.frm o.key = some k) (he : opEq k.op (plainE o) = false) : doR S K o = ⟨45, 0, []⟩ ∧ doS S K o = S ∧ doK S K o = K :=
  ⟨by unfold doR; rw [if_neg (fun q => q h), if_neg h7, if_neg h6, if_neg h5, hk]; exact if_pos he, if_neg fun q => (by have := q.2.2.2.2; rw [hk] at this; cases this), if_neg fun q => (by have := q.2.2.2.2; rw [hk] at this; cases this)⟩
theorem do_again (h : wrongE o = 0) (h7 : o.kind ≠ 7) (h6 : o.kind ≠ 6) (h5 : o.kind ≠ 5) {k : KeptM} (hk : findK K o.frm o.key = some k) (he : opEq k.op (plainE o) = true) : doR S K o = ⟨k.why, 0, []⟩ ∧ doS S K o = S ∧ doK S K o = K :=
  ⟨by unfold doR; rw [if_neg (fun q => q h), if_neg h7, if_neg h6, if_neg h5, hk]; exact if_neg (by rw [he]; decide), if_neg fun q => (by have := q.2.2.2.2; rw [hk] at this; cases this), if_neg fun q => (by have := q.2.2.2.2; rw [hk] at this; cases this)⟩
theorem do_fresh (h : wrongE o = 0) (h7 : o.kind ≠ 7) (h6 : o.kind ≠ 6) (h5 : o.kind ≠ 5) (hk : findK K o.frm o.key = none) : doR S K o = ⟨actE S (plainE o), 0, []⟩ ∧ doS S K o = actS S (plainE o) ∧ doK S K o = K ++ [⟨plainE o, actE S (plainE o)⟩] :=
  ⟨by unfold doR; rw [if_neg (fun q => q h), if_neg h7, if_neg h6, if_neg h5, hk], if_pos ⟨h, h7, h6, h5, hk⟩, if_pos ⟨h, h7, h6, h5, hk⟩⟩
/-- What a right operation of one of the first four kinds is. -/
theorem wrong_act (h : wrongE o = 0) (h7 : o.kind ≠ 7) (h6 : o.kind ≠ 6) (h5 : o.kind ≠ 5) : (1 ≤ o.kind ∧ o.kind ≤ 4) ∧ nameOk o.frm = true ∧ nameOk o.key = true ∧ (o.kind ≠ 1 → 1 ≤ o.amount) ∧ (o.kind = 4 → nameOk o.to = true ∧ o.frm ≠ o.to) := by
  unfold wrongE at h
  rw [if_neg h6, if_neg h7] at h
  split at h
  · cases h
  · next h1 =>
    split at h
    · cases h
    · next h2 =>
      split at h
      · cases h
      · next h3 =>
        refine ⟨by omega, by simpa using h2, by simpa using h3, fun h1' => ?_, fun h4 => ?_⟩
        · rw [if_neg h1'] at h
          split at h
          · cases h
          · split at h
            · cases h
            · omega
        · rw [if_neg (by omega)] at h
          split at h
          · cases h
          · next h8 =>
            split at h
            · cases h
            · split at h
              · cases h
              · next h9 => exact ⟨by simpa using fun q => h8 ⟨h4, q⟩, fun q => h9 ⟨h4, q⟩⟩
theorem actE_range (S : List RowM) (o : Opm) : 0 ≤ actE S o ∧ actE S o ≤ 43 := by
  unfold actE
  repeat' split
  all_goals decide
theorem actS_len (S : List RowM) (o : Opm) : (actS S o).length ≤ S.length + 1 := by
  unfold actS
  repeat' split
  all_goals first | omega | (rw [insW_len]; exact Nat.le_refl _) | (rw [setW_len, setW_len]; omega) | (rw [setW_len]; omega)
theorem LBook.fresh {m m' : List (List UInt8 × Int)} (h : LBook m S K) (hw : wrongE o = 0) (h7 : o.kind ≠ 7) (h6 : o.kind ≠ 6) (h5 : o.kind ≠ 5) (hk : findK K o.frm o.key = none) (ho : -9223372036854775808 ≤ o.amount ∧ o.amount ≤ 9223372036854775807)
    (hm : LMap m' (actS S (plainE o))) : LBook m' (actS S (plainE o)) (K ++ [⟨plainE o, actE S (plainE o)⟩]) := by
  obtain ⟨q1, q2, q3, q4, q5⟩ := wrong_act hw h7 h6 h5
  refine ⟨⟨hm.led, ?_, ?_, ?_⟩, hm.perm⟩
  · rw [List.map_append, List.nodup_append]
    refine ⟨h.ledg.ids, by simp, fun a ha b hb => ?_⟩
    rw [List.map_singleton, List.mem_singleton] at hb
    rintro rfl
    subst hb
    exact findK_none hk ha
  · intro k hk2
    rcases List.mem_append.1 hk2 with hk2 | hk2
    · exact h.ledg.ok k hk2
    · rw [List.mem_singleton.1 hk2]
      refine ⟨q2, q3, actE_range _ _, q1, ?_, ?_⟩
      · show -9223372036854775808 ≤ (if o.kind = 1 then 0 else o.amount) ∧ (if o.kind = 1 then 0 else o.amount) ≤ 9223372036854775807
        split
        · decide
        · exact ho
      · show (if o.kind = 4 then o.to else []).length ≤ 24
        split
        · next h4 => exact (nameOk_len (q5 h4).1).2
        · exact Nat.zero_le _
  · have h1 := actS_len S (plainE o)
    have h2 := h.ledg.le
    rw [List.length_append]
    simp only [List.length_singleton]
    omega
end
theorem plainE_amount (o : Opm) (h : o.kind ≠ 1) : (plainE o).amount = o.amount := if_neg h
theorem plainE_to (o : Opm) (h : o.kind = 4) : (plainE o).to = o.to := if_pos h
end Go.Q
namespace Go.Q
variable {P : Program} {n : Nat} {Q : Exit → Loc → World → Prop} {L : Loc} {w : World} {f : Func} {p : List Nat} {os : Array Oper} {i : Nat} {K : Loc → World → Prop}
theorem qs (h : wp P n (cd f (0 :: p)) (thn (wp P n (cd f (1 :: p)) Q) Q) L w) (hc : isSeq (cd f p) = true := by kernel_rfl) : wp P n (cd f p) Q L w := q_seq hc h
theorem qg (h : Ops P n (opsOf (cd f p)) 0 (Q .normal) L w) (hc : isRegion (cd f p) = true := by kernel_rfl) : wp P n (cd f p) Q L w := q_region hc h
theorem od (h : K L w) (hi : Nat.beq os.size i = true := by kernel_rfl) : Ops P n os i K L w := Ops.done hi h
theorem og (k : Nat) (R : Loc) (j : Nat) (hn : Ops P n os j K R w) (hj : Nat.beq (i + k) j = true := by kernel_rfl) (h : (match Go.Q.regs P n os k i L with | some L1 => restrict L1 (R.map Prod.fst) | none => none) = some R := by kernel_rfl) : Ops P n os i K L w := Ops.regs k R hj h hn
theorem Keeps.t0 {a b c : World} (h : Keeps none_ a b) (k : Keeps none_ b c) : Keeps none_ a c := h.trans k (fun _ _ h => h) (fun _ _ h => h)
theorem Has.k1 {a b : World} {x c : Nat} {o : Obj} (h : Has a x o) (k : Keeps (fun i => i = c) a b) (hn : x ≠ c) : Has b x o := h.keep k hn
theorem Keeps.t1 {U : Nat → Prop} {a b c : World} {x : Nat} (h : Keeps U a b) (k : Keeps (fun i => i = x) b c) (hx : x < a.heap.size → U x) : Keeps U a c := h.trans k (fun _ _ h => h) (fun i hi h => by subst h; exact hx hi)
theorem Keeps.tn {U : Nat → Prop} {a b c : World} (h : Keeps U a b) (k : Keeps none_ b c) : Keeps U a c := h.trans k (fun _ _ h => h) (fun _ _ h => h.elim)
end Go.Q
namespace Go.Proofs.YtnbcghbgeiocbaaDoor
open Go.Q Go.RowKit
theorem KT : KeyTy Tryd.prog 9 kstr := keyTy_str Tryd.underlying9
theorem KT2 : KeyTy Tryd.prog 116 kpair := keyTy_pair Tryd.underlying116 Tryd.underlying9 Tryd.underlying9 rfl rfl (fun _ _ _ _ => by kernel_rfl)

theorem New_calls (w : World)   : Calls Tryd.prog 27 ⟨[]⟩ w (fun e w' => ∃ b mb kb, e = .returned (ptr b) ∧ Keeps none_ w w' ∧ Has w' b (rowL [.map (some mb), .map (some kb)] 110) ∧ HasMap w' mb kstr ki64 ([] : List (List UInt8 × Int)) ∧ HasMap w' kb kpair keptv (([] : List KeptM).map KeptM.kv) ∧ w.heap.size ≤ b ∧ w.heap.size ≤ mb ∧ w.heap.size ≤ kb ∧ b ≠ mb ∧ b ≠ kb ∧ mb ≠ kb) := by
 have K0 : Keeps none_ w w := Keeps.refl w
 refine q_calls Tryd.func27 (by kernel_rfl) (by kernel_rfl) ?_
 refine qs ?_
 refine qg ?_
 refine og 1 [(0, (Value.pointer none))] 1 ?_
 refine od ?_
 refine qs ?_
 refine qg ?_
 obtain ⟨mb5, w1, hr2, K3, hb6, H4⟩ := HasMap.made Tryd.prog w 107 kstr (ki64)
 refine Ops.go (v := (Value.map (some mb5))) (by kernel_rfl) (Runs.of_makeMap (by kernel_rfl) hr2) (d := (some 1)) (by kernel_rfl) rfl ?_
 have nmb5 : w.heap.size ≤ mb5 := by have := K0.size; omega
 replace K0 := K0.t0 K3
 clear K3 hr2
 obtain ⟨mb11, w7, hr8, K9, hb12, H10⟩ := HasMap.made Tryd.prog w1 108 kpair (keptv)
 refine Ops.go (v := (Value.map (some mb11))) (by kernel_rfl) (Runs.of_makeMap (by kernel_rfl) hr8) (d := (some 2)) (by kernel_rfl) rfl ?_
 have lmb11mb5 : mb5 < mb11 := by have := H4.lt; omega
 have nmb11 : w.heap.size ≤ mb11 := by have := K0.size; omega
 replace K0 := K0.t0 K9
 replace H4 := H4.keep K9 (fun h => h)
 clear K9 hr8
 refine og 1 [(0, (Value.pointer none)), (3, (agg [(Value.map (some mb5)), (Value.map (some mb11))]))] 3 ?_
 refine Ops.new (o := rowL [(Value.map (some mb5)), (Value.map (some mb11))] 110) (V := fun b => (ptr b)) (by kernel_rfl) (d := (some 4)) (by kernel_rfl) (fun b => rfl) (fun b13 w14 hb15 H16 K17 hs18 => ?_)
 have lb13mb5 : mb5 < b13 := by have := H4.lt; omega
 have lb13mb11 : mb11 < b13 := by have := H10.lt; omega
 have nb13 : w.heap.size ≤ b13 := by have := K0.size; omega
 replace K0 := K0.t0 K17
 replace H4 := H4.keep K17 (fun h => h)
 replace H10 := H10.keep K17 (fun h => h)
 clear K17 hs18
 refine og 1 [(0, (ptr b13))] 5 ?_
 refine od ?_
 refine q_ret (by kernel_rfl) ?_
 refine ⟨(ptr b13), retv_tmp rfl rfl, ?_⟩
 exact ⟨b13, mb5, mb11, rfl, K0, H16, H4, H10, nb13, nmb5, nmb11, by omega, by omega, by omega⟩

theorem plain_calls (w : World) (o : Opm)  : Calls Tryd.prog 59 ⟨[(agg [(i64 o.kind), (Value.string (str o.frm)), (Value.string (str o.to)), (i64 o.amount), (Value.string (str o.key)), (i64 o.slot), (i64 o.shard)])]⟩ w (fun e w' => e = .returned (agg [(i64 o.kind), (Value.string (str o.frm)), (Value.string (str ((plainE o).to))), (i64 ((plainE o).amount)), (Value.string (str o.key)), (i64 0), (i64 0)]) ∧ Keeps none_ w w') := by
 have K0 : Keeps none_ w w := Keeps.refl w
 refine q_calls Tryd.func59 (by kernel_rfl) (by kernel_rfl) ?_
 refine qs ?_
 refine qg ?_
 refine Ops.new (o := rowL [(i64 o.kind), (Value.string (str o.frm)), (Value.string (str o.to)), (i64 o.amount), (Value.string (str o.key)), (i64 o.slot), (i64 o.shard)] 24) (V := fun b => (ptr b)) (by kernel_rfl) (d := (some 1)) (by kernel_rfl) (fun b => rfl) (fun b1 w2 hb3 H4 K5 hs6 => ?_)
 have nb1 : w.heap.size ≤ b1 := by have := K0.size; omega
 replace K0 := K0.t0 K5
 clear K5 hs6
 refine Ops.new (o := rowL [(i64 0), (Value.string ByteArray.empty), (Value.string ByteArray.empty), (i64 0), (Value.string ByteArray.empty), (i64 0), (i64 0)] 24) (V := fun b => (ptr b)) (by kernel_rfl) (d := (some 2)) (by kernel_rfl) (fun b => rfl) (fun b7 w8 hb9 H10 K11 hs12 => ?_)
 have lb7b1 : b1 < b7 := by have := H4.lt; omega
 have nb7 : w.heap.size ≤ b7 := by have := K0.size; omega
 replace K0 := K0.t0 K11
 replace H4 := H4.keep K11 (fun h => h)
 clear K11 hs12
 refine od ?_
 refine qs ?_
 refine qg ?_
 refine og 1 [(1, (ptr b1)), (2, (ptr b7)), (3, (Value.pointer (some ⟨b1, 5, none⟩)))] 1 ?_
 refine Ops.put (t := 3) (b := b1) (off := 5) (v := (i64 0)) (ys := [(i64 o.kind), (Value.string (str o.frm)), (Value.string (str o.to)), (i64 o.amount), (Value.string (str o.key)), (i64 0), (i64 o.shard)]) (by kernel_rfl) (by kernel_rfl) H4 (by kernel_rfl) (d := none) (by kernel_rfl) rfl (fun w13 H14 K15 => ?_)
 clear H4
 replace K0 := K0.trans K15 (U := none_) (fun i h1 h2 => h2) (fun i h1 h2 => by have h2 : i = b1 := h2; exfalso; omega)
 replace H10 := H10.k1 K15 (by omega)
 clear K15
 refine og 1 [(1, (ptr b1)), (2, (ptr b7)), (4, (Value.pointer (some ⟨b1, 6, none⟩)))] 3 ?_
 refine Ops.put (t := 3) (b := b1) (off := 6) (v := (i64 0)) (ys := [(i64 o.kind), (Value.string (str o.frm)), (Value.string (str o.to)), (i64 o.amount), (Value.string (str o.key)), (i64 0), (i64 0)]) (by kernel_rfl) (by kernel_rfl) H14 (by kernel_rfl) (d := none) (by kernel_rfl) rfl (fun w16 H17 K18 => ?_)
 clear H14
 replace K0 := K0.trans K18 (U := none_) (fun i h1 h2 => h2) (fun i h1 h2 => by have h2 : i = b1 := h2; exfalso; omega)
 replace H10 := H10.k1 K18 (by omega)
 clear K18
 refine od ?_
 refine qs ?_
 refine qs ?_
 refine qg ?_
 refine og 1 [(1, (ptr b1)), (2, (ptr b7)), (5, (ptr b1))] 1 ?_
 refine Ops.go (v := (i64 o.kind)) (by kernel_rfl) (Runs.load (t := 3) (a := ⟨b1, 0, none⟩) (by kernel_rfl) (H17.loads (by kernel_rfl))) (d := (some 6)) (by kernel_rfl) rfl ?_
 refine og 1 [(1, (ptr b1)), (2, (ptr b7)), (7, (Value.bool (o.kind != 4)))] 3 ?_
 refine od ?_
 refine q_cond (o := .tmp 7) (b := (o.kind != 4)) (by kernel_rfl) rfl (fun h19 => ?_) (fun h19 => ?_)
 ·rw [h19]
  have p20 : ¬ (o.kind = 4) := of_bne_t h19
  refine qg ?_
  refine og 1 [(1, (ptr b1)), (2, (ptr b7)), (8, (Value.pointer (some ⟨b1, 2, none⟩)))] 1 ?_
  refine Ops.put (t := 9) (b := b1) (off := 2) (v := (Value.string (str ([] : List UInt8)))) (ys := [(i64 o.kind), (Value.string (str o.frm)), (Value.string (str ([] : List UInt8))), (i64 o.amount), (Value.string (str o.key)), (i64 0), (i64 0)]) (by kernel_rfl) (by kernel_rfl) H17 (by kernel_rfl) (d := none) (by kernel_rfl) rfl (fun w21 H22 K23 => ?_)
  clear H17
  replace K0 := K0.trans K23 (U := none_) (fun i h1 h2 => h2) (fun i h1 h2 => by have h2 : i = b1 := h2; exfalso; omega)
  replace H10 := H10.k1 K23 (by omega)
  clear K23
  refine od ?_
  refine qs ?_
  refine qs ?_
  refine qg ?_
  refine og 1 [(1, (ptr b1)), (2, (ptr b7)), (9, (ptr b1))] 1 ?_
  refine Ops.go (v := (i64 o.kind)) (by kernel_rfl) (Runs.load (t := 3) (a := ⟨b1, 0, none⟩) (by kernel_rfl) (H22.loads (by kernel_rfl))) (d := (some 10)) (by kernel_rfl) rfl ?_
  refine og 1 [(1, (ptr b1)), (2, (ptr b7)), (11, (Value.bool (o.kind == 1)))] 3 ?_
  refine od ?_
  refine q_cond (o := .tmp 11) (b := (o.kind == 1)) (by kernel_rfl) rfl (fun h24 => ?_) (fun h24 => ?_)
  ·rw [h24]
   have p25 : o.kind = 1 := of_beq_t h24
   refine qg ?_
   refine og 1 [(1, (ptr b1)), (2, (ptr b7)), (12, (Value.pointer (some ⟨b1, 3, none⟩)))] 1 ?_
   refine Ops.put (t := 2) (b := b1) (off := 3) (v := (i64 0)) (ys := [(i64 o.kind), (Value.string (str o.frm)), (Value.string (str ([] : List UInt8))), (i64 0), (Value.string (str o.key)), (i64 0), (i64 0)]) (by kernel_rfl) (by kernel_rfl) H22 (by kernel_rfl) (d := none) (by kernel_rfl) rfl (fun w26 H27 K28 => ?_)
   clear H22
   replace K0 := K0.trans K28 (U := none_) (fun i h1 h2 => h2) (fun i h1 h2 => by have h2 : i = b1 := h2; exfalso; omega)
   replace H10 := H10.k1 K28 (by omega)
   clear K28
   refine od ?_
   refine qs ?_
   refine qg ?_
   refine Ops.go (v := (agg [(i64 o.kind), (Value.string (str o.frm)), (Value.string (str ([] : List UInt8))), (i64 0), (Value.string (str o.key)), (i64 0), (i64 0)])) (by kernel_rfl) (Runs.load (t := 24) (a := ⟨b1, 0, none⟩) (by kernel_rfl) (H27.loads (by kernel_rfl))) (d := (some 13)) (by kernel_rfl) rfl ?_
   refine Ops.put (t := 24) (b := b7) (off := 0) (v := (agg [(i64 o.kind), (Value.string (str o.frm)), (Value.string (str ([] : List UInt8))), (i64 0), (Value.string (str o.key)), (i64 0), (i64 0)])) (ys := [(i64 o.kind), (Value.string (str o.frm)), (Value.string (str ([] : List UInt8))), (i64 0), (Value.string (str o.key)), (i64 0), (i64 0)]) (by kernel_rfl) (by kernel_rfl) H10 (by kernel_rfl) (d := none) (by kernel_rfl) rfl (fun w29 H30 K31 => ?_)
   clear H10
   replace K0 := K0.trans K31 (U := none_) (fun i h1 h2 => h2) (fun i h1 h2 => by have h2 : i = b7 := h2; exfalso; omega)
   replace H27 := H27.k1 K31 (by omega)
   clear K31
   refine od ?_
   refine q_ret (by kernel_rfl) ?_
   refine ⟨(agg [(i64 o.kind), (Value.string (str o.frm)), (Value.string (str ([] : List UInt8))), (i64 0), (Value.string (str o.key)), (i64 0), (i64 0)]), retv_cell rfl rfl (H30.loads (by kernel_rfl)), ?_⟩
   exact ⟨by unfold plainE; simp only; first | (rw [if_pos (by omega), if_pos (by omega)]; done) | (rw [if_pos (by omega), if_neg (by omega)]; done) | (rw [if_neg (by omega), if_pos (by omega)]; done) | (rw [if_neg (by omega), if_neg (by omega)]; done) | (rw [if_pos (by omega), if_pos (by omega)]; rfl) | (rw [if_pos (by omega), if_neg (by omega)]; rfl) | (rw [if_neg (by omega), if_pos (by omega)]; rfl) | (rw [if_neg (by omega), if_neg (by omega)]; rfl), K0⟩
  ·rw [h24]
   have p32 : ¬ (o.kind = 1) := of_beq_f h24
   refine q_skip (by kernel_rfl) ?_
   refine qs ?_
   refine qg ?_
   refine Ops.go (v := (agg [(i64 o.kind), (Value.string (str o.frm)), (Value.string (str ([] : List UInt8))), (i64 o.amount), (Value.string (str o.key)), (i64 0), (i64 0)])) (by kernel_rfl) (Runs.load (t := 24) (a := ⟨b1, 0, none⟩) (by kernel_rfl) (H22.loads (by kernel_rfl))) (d := (some 13)) (by kernel_rfl) rfl ?_
   refine Ops.put (t := 24) (b := b7) (off := 0) (v := (agg [(i64 o.kind), (Value.string (str o.frm)), (Value.string (str ([] : List UInt8))), (i64 o.amount), (Value.string (str o.key)), (i64 0), (i64 0)])) (ys := [(i64 o.kind), (Value.string (str o.frm)), (Value.string (str ([] : List UInt8))), (i64 o.amount), (Value.string (str o.key)), (i64 0), (i64 0)]) (by kernel_rfl) (by kernel_rfl) H10 (by kernel_rfl) (d := none) (by kernel_rfl) rfl (fun w33 H34 K35 => ?_)
   clear H10
   replace K0 := K0.trans K35 (U := none_) (fun i h1 h2 => h2) (fun i h1 h2 => by have h2 : i = b7 := h2; exfalso; omega)
   replace H22 := H22.k1 K35 (by omega)
   clear K35
   refine od ?_
   refine q_ret (by kernel_rfl) ?_
   refine ⟨(agg [(i64 o.kind), (Value.string (str o.frm)), (Value.string (str ([] : List UInt8))), (i64 o.amount), (Value.string (str o.key)), (i64 0), (i64 0)]), retv_cell rfl rfl (H34.loads (by kernel_rfl)), ?_⟩
   exact ⟨by unfold plainE; simp only; first | (rw [if_pos (by omega), if_pos (by omega)]; done) | (rw [if_pos (by omega), if_neg (by omega)]; done) | (rw [if_neg (by omega), if_pos (by omega)]; done) | (rw [if_neg (by omega), if_neg (by omega)]; done) | (rw [if_pos (by omega), if_pos (by omega)]; rfl) | (rw [if_pos (by omega), if_neg (by omega)]; rfl) | (rw [if_neg (by omega), if_pos (by omega)]; rfl) | (rw [if_neg (by omega), if_neg (by omega)]; rfl), K0⟩
 ·rw [h19]
  have p36 : o.kind = 4 := of_bne_f h19
  refine q_skip (by kernel_rfl) ?_
  refine qs ?_
  refine qs ?_
  refine qg ?_
  refine og 1 [(1, (ptr b1)), (2, (ptr b7)), (9, (ptr b1))] 1 ?_
  refine Ops.go (v := (i64 o.kind)) (by kernel_rfl) (Runs.load (t := 3) (a := ⟨b1, 0, none⟩) (by kernel_rfl) (H17.loads (by kernel_rfl))) (d := (some 10)) (by kernel_rfl) rfl ?_
  refine og 1 [(1, (ptr b1)), (2, (ptr b7)), (11, (Value.bool (o.kind == 1)))] 3 ?_
  refine od ?_
  refine q_cond (o := .tmp 11) (b := (o.kind == 1)) (by kernel_rfl) rfl (fun h37 => ?_) (fun h37 => ?_)
  ·rw [h37]
   have p38 : o.kind = 1 := of_beq_t h37
   refine qg ?_
   refine og 1 [(1, (ptr b1)), (2, (ptr b7)), (12, (Value.pointer (some ⟨b1, 3, none⟩)))] 1 ?_
   refine Ops.put (t := 2) (b := b1) (off := 3) (v := (i64 0)) (ys := [(i64 o.kind), (Value.string (str o.frm)), (Value.string (str o.to)), (i64 0), (Value.string (str o.key)), (i64 0), (i64 0)]) (by kernel_rfl) (by kernel_rfl) H17 (by kernel_rfl) (d := none) (by kernel_rfl) rfl (fun w39 H40 K41 => ?_)
   clear H17
   replace K0 := K0.trans K41 (U := none_) (fun i h1 h2 => h2) (fun i h1 h2 => by have h2 : i = b1 := h2; exfalso; omega)
   replace H10 := H10.k1 K41 (by omega)
   clear K41
   refine od ?_
   refine qs ?_
   refine qg ?_
   refine Ops.go (v := (agg [(i64 o.kind), (Value.string (str o.frm)), (Value.string (str o.to)), (i64 0), (Value.string (str o.key)), (i64 0), (i64 0)])) (by kernel_rfl) (Runs.load (t := 24) (a := ⟨b1, 0, none⟩) (by kernel_rfl) (H40.loads (by kernel_rfl))) (d := (some 13)) (by kernel_rfl) rfl ?_
   refine Ops.put (t := 24) (b := b7) (off := 0) (v := (agg [(i64 o.kind), (Value.string (str o.frm)), (Value.string (str o.to)), (i64 0), (Value.string (str o.key)), (i64 0), (i64 0)])) (ys := [(i64 o.kind), (Value.string (str o.frm)), (Value.string (str o.to)), (i64 0), (Value.string (str o.key)), (i64 0), (i64 0)]) (by kernel_rfl) (by kernel_rfl) H10 (by kernel_rfl) (d := none) (by kernel_rfl) rfl (fun w42 H43 K44 => ?_)
   clear H10
   replace K0 := K0.trans K44 (U := none_) (fun i h1 h2 => h2) (fun i h1 h2 => by have h2 : i = b7 := h2; exfalso; omega)
   replace H40 := H40.k1 K44 (by omega)
   clear K44
   refine od ?_
   refine q_ret (by kernel_rfl) ?_
   refine ⟨(agg [(i64 o.kind), (Value.string (str o.frm)), (Value.string (str o.to)), (i64 0), (Value.string (str o.key)), (i64 0), (i64 0)]), retv_cell rfl rfl (H43.loads (by kernel_rfl)), ?_⟩
   exact ⟨by unfold plainE; simp only; first | (rw [if_pos (by omega), if_pos (by omega)]; done) | (rw [if_pos (by omega), if_neg (by omega)]; done) | (rw [if_neg (by omega), if_pos (by omega)]; done) | (rw [if_neg (by omega), if_neg (by omega)]; done) | (rw [if_pos (by omega), if_pos (by omega)]; rfl) | (rw [if_pos (by omega), if_neg (by omega)]; rfl) | (rw [if_neg (by omega), if_pos (by omega)]; rfl) | (rw [if_neg (by omega), if_neg (by omega)]; rfl), K0⟩
  ·rw [h37]
   have p45 : ¬ (o.kind = 1) := of_beq_f h37
   refine q_skip (by kernel_rfl) ?_
   refine qs ?_
   refine qg ?_
   refine Ops.go (v := (agg [(i64 o.kind), (Value.string (str o.frm)), (Value.string (str o.to)), (i64 o.amount), (Value.string (str o.key)), (i64 0), (i64 0)])) (by kernel_rfl) (Runs.load (t := 24) (a := ⟨b1, 0, none⟩) (by kernel_rfl) (H17.loads (by kernel_rfl))) (d := (some 13)) (by kernel_rfl) rfl ?_
   refine Ops.put (t := 24) (b := b7) (off := 0) (v := (agg [(i64 o.kind), (Value.string (str o.frm)), (Value.string (str o.to)), (i64 o.amount), (Value.string (str o.key)), (i64 0), (i64 0)])) (ys := [(i64 o.kind), (Value.string (str o.frm)), (Value.string (str o.to)), (i64 o.amount), (Value.string (str o.key)), (i64 0), (i64 0)]) (by kernel_rfl) (by kernel_rfl) H10 (by kernel_rfl) (d := none) (by kernel_rfl) rfl (fun w46 H47 K48 => ?_)
   clear H10
   replace K0 := K0.trans K48 (U := none_) (fun i h1 h2 => h2) (fun i h1 h2 => by have h2 : i = b7 := h2; exfalso; omega)
   replace H17 := H17.k1 K48 (by omega)
   clear K48
   refine od ?_
   refine q_ret (by kernel_rfl) ?_
   refine ⟨(agg [(i64 o.kind), (Value.string (str o.frm)), (Value.string (str o.to)), (i64 o.amount), (Value.string (str o.key)), (i64 0), (i64 0)]), retv_cell rfl rfl (H47.loads (by kernel_rfl)), ?_⟩
   exact ⟨by unfold plainE; simp only; first | (rw [if_pos (by omega), if_pos (by omega)]; done) | (rw [if_pos (by omega), if_neg (by omega)]; done) | (rw [if_neg (by omega), if_pos (by omega)]; done) | (rw [if_neg (by omega), if_neg (by omega)]; done) | (rw [if_pos (by omega), if_pos (by omega)]; rfl) | (rw [if_pos (by omega), if_neg (by omega)]; rfl) | (rw [if_neg (by omega), if_pos (by omega)]; rfl) | (rw [if_neg (by omega), if_neg (by omega)]; rfl), K0⟩

theorem room_calls (w : World) (p : Nat) (o : Opm) (x : Int) (Hp : Has w p (rowL o.cells 24)) (ha : 0 ≤ o.amount ∧ o.amount ≤ 9223372036854775807) (hx : 0 ≤ x ∧ x ≤ 9223372036854775807) : Calls Tryd.prog 66 ⟨[(i64 x), (ptr p)]⟩ w (fun e w' => e = .returned (.bool (decide (x ≤ 9223372036854775807 - o.amount))) ∧ Keeps none_ w w') := by
 have Hpl := Hp.lt
 have K0 : Keeps none_ w w := Keeps.refl w
 refine q_calls Tryd.func66 (by kernel_rfl) (by kernel_rfl) ?_
 refine qs ?_
 refine qg ?_
 refine og 1 [(0, (i64 x)), (1, (ptr p)), (3, (Value.bool false))] 1 ?_
 refine od ?_
 refine qs ?_
 refine qg ?_
 refine og 2 [(3, (Value.bool false)), (4, (i64 x)), (5, (Value.pointer (some ⟨p, 3, none⟩)))] 2 ?_
 refine Ops.go (v := (i64 o.amount)) (by kernel_rfl) (Runs.load (t := 2) (a := ⟨p, 3, none⟩) (by kernel_rfl) (Hp.loads (by kernel_rfl))) (d := (some 6)) (by kernel_rfl) rfl ?_
 refine og 1 [(3, (Value.bool false)), (4, (i64 x)), (7, (i64 (IntKind.i64.wrap (9223372036854775807 - o.amount))))] 4 ?_
 have e1 : IntKind.i64.wrap (9223372036854775807 - o.amount) = 9223372036854775807 - o.amount := wrap_i64 (by omega) (by omega)
 rw [e1]
 refine og 2 [(3, (Value.bool (decide (x ≤ 9223372036854775807 - o.amount))))] 6 ?_
 refine od ?_
 refine q_ret (by kernel_rfl) ?_
 refine ⟨(Value.bool (decide (x ≤ 9223372036854775807 - o.amount))), retv_tmp rfl rfl, ?_⟩
 exact ⟨rfl, K0⟩

theorem act_none (w : World) (b mb kb : Nat) (m : List (List UInt8 × Int)) (S : List RowM) (o : Opm) (Hb : Has w b (rowL [.map (some mb), .map (some kb)] 110)) (Hm : HasMap w mb kstr ki64 m) (hne : b ≠ mb) (hL : LMap m S) (hk : 1 ≤ o.kind ∧ o.kind ≤ 4) (hf : nameOk o.frm = true) (ha : o.kind ≠ 1 → 1 ≤ o.amount) (hr : -9223372036854775808 ≤ o.amount ∧ o.amount ≤ 9223372036854775807) (hft : o.kind = 4 → o.frm ≠ o.to) (hg : getM m o.frm = none) : Calls Tryd.prog 60 ⟨[(ptr b), (agg [(i64 o.kind), (Value.string (str o.frm)), (Value.string (str o.to)), (i64 o.amount), (Value.string (str o.key)), (i64 o.slot), (i64 o.shard)]), (i64 0), (Value.bool false)]⟩ w (fun e w' => ∃ m', e = .returned (i64 (actE S o)) ∧ Keeps (fun i => i = mb) w w' ∧ HasMap w' mb kstr ki64 m' ∧ LMap m' (actS S o)) := by
 have Hbl := Hb.lt
 have Hml := Hm.lt
 have hgS := hL.got_none hg
 have K0 : Keeps (fun i => i = mb) w w := (Keeps.refl w).mono (fun _ _ h => h.elim)
 refine q_calls Tryd.func60 (by kernel_rfl) (by kernel_rfl) ?_
 refine qs ?_
 refine qg ?_
 refine Ops.new (o := rowL [(i64 o.kind), (Value.string (str o.frm)), (Value.string (str o.to)), (i64 o.amount), (Value.string (str o.key)), (i64 o.slot), (i64 o.shard)] 24) (V := fun b => (ptr b)) (by kernel_rfl) (d := (some 5)) (by kernel_rfl) (fun b => rfl) (fun b1 w2 hb3 H4 K5 hs6 => ?_)
 have lb1b : b < b1 := by have := Hb.lt; omega
 have lb1mb : mb < b1 := by have := Hm.lt; omega
 have nb1 : w.heap.size ≤ b1 := by have := K0.size; omega
 replace K0 := K0.tn K5
 replace Hb := Hb.keep K5 (fun h => h)
 replace Hm := Hm.keep K5 (fun h => h)
 clear K5 hs6
 refine og 1 [(0, (ptr b)), (2, (i64 0)), (3, (Value.bool false)), (5, (ptr b1)), (8, (i64 0))] 2 ?_
 refine od ?_
 refine qs ?_
 refine qg ?_
 refine og 2 [(0, (ptr b)), (2, (i64 0)), (3, (Value.bool false)), (5, (ptr b1)), (8, (i64 0)), (9, (Value.func (Fn.func 66) ⟨[]⟩ ⟨[(ptr b1)]⟩))] 2 ?_
 refine od ?_
 refine qs ?_
 refine q_block (id := 0) (by kernel_rfl) ?_
 refine qs ?_
 refine qg ?_
 refine og 1 [(0, (ptr b)), (2, (i64 0)), (3, (Value.bool false)), (5, (ptr b1)), (8, (i64 0)), (9, (Value.func (Fn.func 66) ⟨[]⟩ ⟨[(ptr b1)]⟩)), (14, (ptr b1))] 1 ?_
 refine Ops.go (v := (i64 o.kind)) (by kernel_rfl) (Runs.load (t := 3) (a := ⟨b1, 0, none⟩) (by kernel_rfl) (H4.loads (by kernel_rfl))) (d := (some 15)) (by kernel_rfl) rfl ?_
 refine og 2 [(0, (ptr b)), (2, (i64 0)), (3, (Value.bool false)), (5, (ptr b1)), (8, (i64 0)), (9, (Value.func (Fn.func 66) ⟨[]⟩ ⟨[(ptr b1)]⟩)), (13, (Value.bool (o.kind == 1)))] 4 ?_
 refine od ?_
 refine q_cond (o := .tmp 13) (b := (o.kind == 1)) (by kernel_rfl) rfl (fun h7 => ?_) (fun h7 => ?_)
 ·rw [h7]
  have p8 : o.kind = 1 := of_beq_t h7
  refine qs ?_
  refine qs ?_
  refine qg ?_
  refine og 1 [(0, (ptr b)), (2, (i64 0)), (3, (Value.bool false)), (5, (ptr b1)), (8, (i64 0)), (9, (Value.func (Fn.func 66) ⟨[]⟩ ⟨[(ptr b1)]⟩)), (17, (Value.bool false))] 1 ?_
  refine od ?_
  refine q_else (o := .tmp 17) (by kernel_rfl) rfl ?_
  refine q_skip (by kernel_rfl) ?_
  refine qs ?_
  refine q_draw (fun wz => Keeps (fun i => i = mb) w2 wz) 7 (by kernel_rfl) (by kernel_rfl) (by kernel_rfl) (fun w9 K10 _ _ => ⟨(K10.mono (fun _ _ h => h.elim)), ?_⟩)
  replace K0 := K0.tn K10
  replace Hb := Hb.keep K10 (fun h => h)
  replace Hm := Hm.keep K10 (fun h => h)
  replace H4 := H4.keep K10 (fun h => h)
  refine Dr.strong (S' := (fun wz => Keeps (fun i => i = mb) w9 wz)) ((Keeps.refl w9).mono (fun _ _ h => h.elim)) (fun wz hx => K10.trans hx (fun i _ h => h.elim) (fun _ _ h => h)) ?_
  clear K10
  refine Dr.takes (fuel' := 4) (is' := _) [0, 1, 2] [(0, (ptr b)), (2, (i64 0)), (3, (Value.bool false)), (5, (ptr b1)), (8, (i64 0)), (9, (Value.func (Fn.func 66) ⟨[]⟩ ⟨[(ptr b1)]⟩)), (20, (ptr b))] (by kernel_rfl) rfl (by kernel_rfl) ?_
  refine Dr.take (i := 3) (v := (Value.map (some mb))) (by kernel_rfl) (by kernel_rfl) (fun wz hS => Runs.load (t := 107) (a := ⟨b, 0, none⟩) (by kernel_rfl) ((Hb.keep hS (by intro h; change b = mb at h; omega)).loads (by kernel_rfl))) (d := (some 21)) (by kernel_rfl) rfl ?_
  refine Dr.takes (fuel' := 2) (is' := _) [4] [(0, (ptr b)), (2, (i64 0)), (3, (Value.bool false)), (5, (ptr b1)), (8, (i64 0)), (9, (Value.func (Fn.func 66) ⟨[]⟩ ⟨[(ptr b1)]⟩)), (21, (Value.map (some mb))), (22, (Value.pointer (some ⟨b1, 1, none⟩)))] (by kernel_rfl) rfl (by kernel_rfl) ?_
  refine Dr.take (i := 5) (v := (Value.string (str o.frm))) (by kernel_rfl) (by kernel_rfl) (fun wz hS => Runs.load (t := 9) (a := ⟨b1, 1, none⟩) (by kernel_rfl) ((H4.keep hS (by intro h; change b1 = mb at h; omega)).loads (by kernel_rfl))) (d := (some 23)) (by kernel_rfl) rfl ?_
  obtain ⟨w11, hr12, K13, H14⟩ := HasMap.update KT Tryd.underlying107 Hm o.frm 0
  refine Dr.goU (i := 6) (by kernel_rfl) (by kernel_rfl) (RunsU.of_update (by kernel_rfl) hr12) (d := none) (by kernel_rfl) rfl K13 ?_
  clear Hm
  replace K0 := K0.t1 K13 (fun _ => rfl)
  replace Hb := Hb.k1 K13 (by omega)
  replace H4 := H4.k1 K13 (by omega)
  refine Dr.strong (S' := (fun wz => Keeps (fun i => i = mb) w11 wz)) ((Keeps.refl w11).mono (fun _ _ h => h.elim)) (fun wz hx => K13.trans hx (fun i _ h => by have h : i = mb := h; show i = mb; omega) (fun _ _ h => h)) ?_
  clear K13 hr12
  refine Dr.done (by kernel_rfl) ?_
  refine qs ?_
  refine qg ?_
  refine og 1 [(0, (ptr b)), (2, (i64 0)), (3, (Value.bool false)), (5, (ptr b1)), (8, (i64 0)), (9, (Value.func (Fn.func 66) ⟨[]⟩ ⟨[(ptr b1)]⟩))] 1 ?_
  refine od ?_
  refine q_ret (by kernel_rfl) ?_
  refine ⟨(i64 0), retv_tmp rfl rfl, ?_⟩
  have e1 : actE S o = 0 := by unfold actE; simp only [hgS]; (repeat' split) <;> first | rfl | (exfalso; omega) | (exfalso; simp_all; done)
  have e2 := hL.ins hf hg
  refine ⟨putM m o.frm 0, by rw [e1], K0, H14, ?_⟩
  unfold actS; simp only [hgS]; (repeat' split) <;> first | (exfalso; omega) | (exfalso; simp_all; done) | exact e2
 ·rw [h7]
  have p15 : ¬ (o.kind = 1) := of_beq_f h7
  refine qs ?_
  refine qg ?_
  refine og 3 [(0, (ptr b)), (2, (i64 0)), (5, (ptr b1)), (8, (i64 0)), (9, (Value.func (Fn.func 66) ⟨[]⟩ ⟨[(ptr b1)]⟩)), (24, (Value.bool true))] 3 ?_
  refine od ?_
  refine q_then (o := .tmp 24) (by kernel_rfl) rfl ?_
  refine qs ?_
  refine qg ?_
  refine og 1 [(0, (ptr b)), (2, (i64 0)), (5, (ptr b1)), (8, (i64 40)), (9, (Value.func (Fn.func 66) ⟨[]⟩ ⟨[(ptr b1)]⟩))] 1 ?_
  refine od ?_
  refine q_ret (by kernel_rfl) ?_
  refine ⟨(i64 40), retv_tmp rfl rfl, ?_⟩
  have e1 : actE S o = 40 := by unfold actE; simp only [hgS]; (repeat' split) <;> first | rfl | (exfalso; omega) | (exfalso; simp_all; done)
  have e2 := hL
  refine ⟨m, by rw [e1], K0, Hm, ?_⟩
  unfold actS; simp only [hgS]; (repeat' split) <;> first | (exfalso; omega) | (exfalso; simp_all; done) | exact e2

theorem act_some (w : World) (b mb kb : Nat) (m : List (List UInt8 × Int)) (S : List RowM) (o : Opm) (Hb : Has w b (rowL [.map (some mb), .map (some kb)] 110)) (Hm : HasMap w mb kstr ki64 m) (hne : b ≠ mb) (hL : LMap m S) (hk : 1 ≤ o.kind ∧ o.kind ≤ 4) (hf : nameOk o.frm = true) (ha : o.kind ≠ 1 → 1 ≤ o.amount) (hr : -9223372036854775808 ≤ o.amount ∧ o.amount ≤ 9223372036854775807) (hft : o.kind = 4 → o.frm ≠ o.to) (x : Int) (hg : getM m o.frm = some x) : Calls Tryd.prog 60 ⟨[(ptr b), (agg [(i64 o.kind), (Value.string (str o.frm)), (Value.string (str o.to)), (i64 o.amount), (Value.string (str o.key)), (i64 o.slot), (i64 o.shard)]), (i64 x), (Value.bool true)]⟩ w (fun e w' => ∃ m', e = .returned (i64 (actE S o)) ∧ Keeps (fun i => i = mb) w w' ∧ HasMap w' mb kstr ki64 m' ∧ LMap m' (actS S o)) := by
 have Hbl := Hb.lt
 have Hml := Hm.lt
 obtain ⟨hgS, hx0, hx1⟩ := hL.got_some hg
 have K0 : Keeps (fun i => i = mb) w w := (Keeps.refl w).mono (fun _ _ h => h.elim)
 refine q_calls Tryd.func60 (by kernel_rfl) (by kernel_rfl) ?_
 refine qs ?_
 refine qg ?_
 refine Ops.new (o := rowL [(i64 o.kind), (Value.string (str o.frm)), (Value.string (str o.to)), (i64 o.amount), (Value.string (str o.key)), (i64 o.slot), (i64 o.shard)] 24) (V := fun b => (ptr b)) (by kernel_rfl) (d := (some 5)) (by kernel_rfl) (fun b => rfl) (fun b1 w2 hb3 H4 K5 hs6 => ?_)
 have lb1b : b < b1 := by have := Hb.lt; omega
 have lb1mb : mb < b1 := by have := Hm.lt; omega
 have nb1 : w.heap.size ≤ b1 := by have := K0.size; omega
 replace K0 := K0.tn K5
 replace Hb := Hb.keep K5 (fun h => h)
 replace Hm := Hm.keep K5 (fun h => h)
 clear K5 hs6
 refine og 1 [(0, (ptr b)), (2, (i64 x)), (3, (Value.bool true)), (5, (ptr b1)), (8, (i64 0))] 2 ?_
 refine od ?_
 refine qs ?_
 refine qg ?_
 refine og 2 [(0, (ptr b)), (2, (i64 x)), (3, (Value.bool true)), (5, (ptr b1)), (8, (i64 0)), (9, (Value.func (Fn.func 66) ⟨[]⟩ ⟨[(ptr b1)]⟩))] 2 ?_
 refine od ?_
 refine qs ?_
 refine q_block (id := 0) (by kernel_rfl) ?_
 refine qs ?_
 refine qg ?_
 refine og 1 [(0, (ptr b)), (2, (i64 x)), (3, (Value.bool true)), (5, (ptr b1)), (8, (i64 0)), (9, (Value.func (Fn.func 66) ⟨[]⟩ ⟨[(ptr b1)]⟩)), (14, (ptr b1))] 1 ?_
 refine Ops.go (v := (i64 o.kind)) (by kernel_rfl) (Runs.load (t := 3) (a := ⟨b1, 0, none⟩) (by kernel_rfl) (H4.loads (by kernel_rfl))) (d := (some 15)) (by kernel_rfl) rfl ?_
 refine og 2 [(0, (ptr b)), (2, (i64 x)), (3, (Value.bool true)), (5, (ptr b1)), (8, (i64 0)), (9, (Value.func (Fn.func 66) ⟨[]⟩ ⟨[(ptr b1)]⟩)), (13, (Value.bool (o.kind == 1)))] 4 ?_
 refine od ?_
 refine q_cond (o := .tmp 13) (b := (o.kind == 1)) (by kernel_rfl) rfl (fun h7 => ?_) (fun h7 => ?_)
 ·rw [h7]
  have p8 : o.kind = 1 := of_beq_t h7
  refine qs ?_
  refine qs ?_
  refine qg ?_
  refine og 1 [(0, (ptr b)), (2, (i64 x)), (3, (Value.bool true)), (5, (ptr b1)), (8, (i64 0)), (9, (Value.func (Fn.func 66) ⟨[]⟩ ⟨[(ptr b1)]⟩)), (17, (Value.bool true))] 1 ?_
  refine od ?_
  refine q_then (o := .tmp 17) (by kernel_rfl) rfl ?_
  refine qs ?_
  refine qg ?_
  refine og 1 [(0, (ptr b)), (2, (i64 x)), (3, (Value.bool true)), (5, (ptr b1)), (8, (i64 41)), (9, (Value.func (Fn.func 66) ⟨[]⟩ ⟨[(ptr b1)]⟩))] 1 ?_
  refine od ?_
  refine q_ret (by kernel_rfl) ?_
  refine ⟨(i64 41), retv_tmp rfl rfl, ?_⟩
  have e1 : actE S o = 41 := by unfold actE; simp only [hgS]; (repeat' split) <;> first | rfl | (exfalso; omega) | (exfalso; simp_all; done)
  have e2 := hL
  refine ⟨m, by rw [e1], K0, Hm, ?_⟩
  unfold actS; simp only [hgS]; (repeat' split) <;> first | (exfalso; omega) | (exfalso; simp_all; done) | exact e2
 ·rw [h7]
  have p9 : ¬ (o.kind = 1) := of_beq_f h7
  refine qs ?_
  refine qg ?_
  refine og 3 [(0, (ptr b)), (2, (i64 x)), (5, (ptr b1)), (8, (i64 0)), (9, (Value.func (Fn.func 66) ⟨[]⟩ ⟨[(ptr b1)]⟩)), (24, (Value.bool false))] 3 ?_
  refine od ?_
  refine q_else (o := .tmp 24) (by kernel_rfl) rfl ?_
  refine qs ?_
  refine qg ?_
  refine og 1 [(0, (ptr b)), (2, (i64 x)), (5, (ptr b1)), (8, (i64 0)), (9, (Value.func (Fn.func 66) ⟨[]⟩ ⟨[(ptr b1)]⟩)), (28, (ptr b1))] 1 ?_
  refine Ops.go (v := (i64 o.kind)) (by kernel_rfl) (Runs.load (t := 3) (a := ⟨b1, 0, none⟩) (by kernel_rfl) (H4.loads (by kernel_rfl))) (d := (some 29)) (by kernel_rfl) rfl ?_
  refine og 2 [(0, (ptr b)), (2, (i64 x)), (5, (ptr b1)), (8, (i64 0)), (9, (Value.func (Fn.func 66) ⟨[]⟩ ⟨[(ptr b1)]⟩)), (27, (Value.bool (o.kind == 2)))] 4 ?_
  refine od ?_
  refine q_cond (o := .tmp 27) (b := (o.kind == 2)) (by kernel_rfl) rfl (fun h10 => ?_) (fun h10 => ?_)
  ·rw [h10]
   have p11 : o.kind = 2 := of_beq_t h10
   refine qs ?_
   refine qs ?_
   refine qg ?_
   refine og 2 [(0, (ptr b)), (2, (i64 x)), (5, (ptr b1)), (8, (i64 0)), (9, (Value.func (Fn.func 66) ⟨[]⟩ ⟨[(ptr b1)]⟩)), (31, (Value.func (Fn.func 66) ⟨[]⟩ ⟨[(ptr b1)]⟩)), (32, (i64 x))] 2 ?_
   refine Ops.call (by kernel_rfl) (d := (some 33)) (by kernel_rfl) (room_calls _ b1 o x H4 (by omega) (by omega)) ?_
   rintro _ w13 ⟨rfl, K12⟩
   refine ⟨_, _, rfl, rfl, ?_⟩
   replace K0 := K0.tn K12
   replace Hb := Hb.keep K12 (fun h => h)
   replace Hm := Hm.keep K12 (fun h => h)
   replace H4 := H4.keep K12 (fun h => h)
   clear K12
   refine og 1 [(0, (ptr b)), (2, (i64 x)), (5, (ptr b1)), (8, (i64 0)), (9, (Value.func (Fn.func 66) ⟨[]⟩ ⟨[(ptr b1)]⟩)), (34, (Value.bool (!(decide (x ≤ 9223372036854775807 - o.amount)))))] 4 ?_
   refine od ?_
   refine q_cond (o := .tmp 34) (b := (!(decide (x ≤ 9223372036854775807 - o.amount)))) (by kernel_rfl) rfl (fun h14 => ?_) (fun h14 => ?_)
   ·rw [h14]
    have p15 : ¬ (x ≤ 9223372036854775807 - o.amount) := of_decide_eq_false (bnot_true h14)
    refine qs ?_
    refine qg ?_
    refine og 1 [(0, (ptr b)), (2, (i64 x)), (5, (ptr b1)), (8, (i64 43)), (9, (Value.func (Fn.func 66) ⟨[]⟩ ⟨[(ptr b1)]⟩))] 1 ?_
    refine od ?_
    refine q_ret (by kernel_rfl) ?_
    refine ⟨(i64 43), retv_tmp rfl rfl, ?_⟩
    have e1 : actE S o = 43 := by unfold actE; simp only [hgS]; (repeat' split) <;> first | rfl | (exfalso; omega) | (exfalso; simp_all; done)
    have e2 := hL
    refine ⟨m, by rw [e1], K0, Hm, ?_⟩
    unfold actS; simp only [hgS]; (repeat' split) <;> first | (exfalso; omega) | (exfalso; simp_all; done) | exact e2
   ·rw [h14]
    have p16 : x ≤ 9223372036854775807 - o.amount := of_decide_eq_true (bnot_false h14)
    refine q_skip (by kernel_rfl) ?_
    refine qs ?_
    refine q_draw (fun wz => Keeps (fun i => i = mb) w13 wz) 11 (by kernel_rfl) (by kernel_rfl) (by kernel_rfl) (fun w17 K18 _ _ => ⟨(K18.mono (fun _ _ h => h.elim)), ?_⟩)
    replace K0 := K0.tn K18
    replace Hb := Hb.keep K18 (fun h => h)
    replace Hm := Hm.keep K18 (fun h => h)
    replace H4 := H4.keep K18 (fun h => h)
    refine Dr.strong (S' := (fun wz => Keeps (fun i => i = mb) w17 wz)) ((Keeps.refl w17).mono (fun _ _ h => h.elim)) (fun wz hx => K18.trans hx (fun i _ h => h.elim) (fun _ _ h => h)) ?_
    clear K18
    refine Dr.takes (fuel' := 8) (is' := _) [0, 1, 2] [(0, (ptr b)), (2, (i64 x)), (5, (ptr b1)), (8, (i64 0)), (9, (Value.func (Fn.func 66) ⟨[]⟩ ⟨[(ptr b1)]⟩)), (37, (ptr b))] (by kernel_rfl) rfl (by kernel_rfl) ?_
    refine Dr.take (i := 3) (v := (Value.map (some mb))) (by kernel_rfl) (by kernel_rfl) (fun wz hS => Runs.load (t := 107) (a := ⟨b, 0, none⟩) (by kernel_rfl) ((Hb.keep hS (by intro h; change b = mb at h; omega)).loads (by kernel_rfl))) (d := (some 38)) (by kernel_rfl) rfl ?_
    refine Dr.takes (fuel' := 6) (is' := _) [4] [(0, (ptr b)), (2, (i64 x)), (5, (ptr b1)), (8, (i64 0)), (9, (Value.func (Fn.func 66) ⟨[]⟩ ⟨[(ptr b1)]⟩)), (38, (Value.map (some mb))), (39, (Value.pointer (some ⟨b1, 1, none⟩)))] (by kernel_rfl) rfl (by kernel_rfl) ?_
    refine Dr.take (i := 5) (v := (Value.string (str o.frm))) (by kernel_rfl) (by kernel_rfl) (fun wz hS => Runs.load (t := 9) (a := ⟨b1, 1, none⟩) (by kernel_rfl) ((H4.keep hS (by intro h; change b1 = mb at h; omega)).loads (by kernel_rfl))) (d := (some 40)) (by kernel_rfl) rfl ?_
    refine Dr.takes (fuel' := 3) (is' := _) [6, 7] [(0, (ptr b)), (2, (i64 x)), (5, (ptr b1)), (8, (i64 0)), (9, (Value.func (Fn.func 66) ⟨[]⟩ ⟨[(ptr b1)]⟩)), (38, (Value.map (some mb))), (40, (Value.string (str o.frm))), (41, (i64 x)), (42, (Value.pointer (some ⟨b1, 3, none⟩)))] (by kernel_rfl) rfl (by kernel_rfl) ?_
    refine Dr.take (i := 8) (v := (i64 o.amount)) (by kernel_rfl) (by kernel_rfl) (fun wz hS => Runs.load (t := 2) (a := ⟨b1, 3, none⟩) (by kernel_rfl) ((H4.keep hS (by intro h; change b1 = mb at h; omega)).loads (by kernel_rfl))) (d := (some 43)) (by kernel_rfl) rfl ?_
    refine Dr.takes (fuel' := 1) (is' := _) [9] [(0, (ptr b)), (2, (i64 x)), (5, (ptr b1)), (8, (i64 0)), (9, (Value.func (Fn.func 66) ⟨[]⟩ ⟨[(ptr b1)]⟩)), (38, (Value.map (some mb))), (40, (Value.string (str o.frm))), (44, (i64 (IntKind.i64.wrap (x + o.amount))))] (by kernel_rfl) rfl (by kernel_rfl) ?_
    have e19 : IntKind.i64.wrap (x + o.amount) = x + o.amount := wrap_i64 (by omega) (by omega)
    rw [e19]
    obtain ⟨w20, hr21, K22, H23⟩ := HasMap.update KT Tryd.underlying107 Hm o.frm (x + o.amount)
    refine Dr.goU (i := 10) (by kernel_rfl) (by kernel_rfl) (RunsU.of_update (by kernel_rfl) hr21) (d := none) (by kernel_rfl) rfl K22 ?_
    clear Hm
    replace K0 := K0.t1 K22 (fun _ => rfl)
    replace Hb := Hb.k1 K22 (by omega)
    replace H4 := H4.k1 K22 (by omega)
    refine Dr.strong (S' := (fun wz => Keeps (fun i => i = mb) w20 wz)) ((Keeps.refl w20).mono (fun _ _ h => h.elim)) (fun wz hx => K22.trans hx (fun i _ h => by have h : i = mb := h; show i = mb; omega) (fun _ _ h => h)) ?_
    clear K22 hr21
    refine Dr.done (by kernel_rfl) ?_
    refine qs ?_
    refine qg ?_
    refine og 1 [(0, (ptr b)), (2, (i64 x)), (5, (ptr b1)), (8, (i64 0)), (9, (Value.func (Fn.func 66) ⟨[]⟩ ⟨[(ptr b1)]⟩))] 1 ?_
    refine od ?_
    refine q_ret (by kernel_rfl) ?_
    refine ⟨(i64 0), retv_tmp rfl rfl, ?_⟩
    have e1 : actE S o = 0 := by unfold actE; simp only [hgS]; (repeat' split) <;> first | rfl | (exfalso; omega) | (exfalso; simp_all; done)
    have e2 := hL.set hg (x := (x + o.amount)) (by omega)
    refine ⟨putM m o.frm (x + o.amount), by rw [e1], K0, H23, ?_⟩
    unfold actS; simp only [hgS]; (repeat' split) <;> first | (exfalso; omega) | (exfalso; simp_all; done) | exact e2
  ·rw [h10]
   have p24 : ¬ (o.kind = 2) := of_beq_f h10
   refine qs ?_
   refine qg ?_
   refine og 2 [(0, (ptr b)), (2, (i64 x)), (5, (ptr b1)), (8, (i64 0)), (9, (Value.func (Fn.func 66) ⟨[]⟩ ⟨[(ptr b1)]⟩)), (46, (i64 x)), (47, (Value.pointer (some ⟨b1, 3, none⟩)))] 2 ?_
   refine Ops.go (v := (i64 o.amount)) (by kernel_rfl) (Runs.load (t := 2) (a := ⟨b1, 3, none⟩) (by kernel_rfl) (H4.loads (by kernel_rfl))) (d := (some 48)) (by kernel_rfl) rfl ?_
   refine og 2 [(0, (ptr b)), (2, (i64 x)), (5, (ptr b1)), (8, (i64 0)), (9, (Value.func (Fn.func 66) ⟨[]⟩ ⟨[(ptr b1)]⟩)), (45, (Value.bool (decide (x < o.amount))))] 5 ?_
   refine od ?_
   refine q_cond (o := .tmp 45) (b := (decide (x < o.amount))) (by kernel_rfl) rfl (fun h25 => ?_) (fun h25 => ?_)
   ·rw [h25]
    have p26 : x < o.amount := of_decide_eq_true h25
    refine qs ?_
    refine qg ?_
    refine og 1 [(0, (ptr b)), (2, (i64 x)), (5, (ptr b1)), (8, (i64 42)), (9, (Value.func (Fn.func 66) ⟨[]⟩ ⟨[(ptr b1)]⟩))] 1 ?_
    refine od ?_
    refine q_ret (by kernel_rfl) ?_
    refine ⟨(i64 42), retv_tmp rfl rfl, ?_⟩
    have e1 : actE S o = 42 := by unfold actE; simp only [hgS]; (repeat' split) <;> first | rfl | (exfalso; omega) | (exfalso; simp_all; done)
    have e2 := hL
    refine ⟨m, by rw [e1], K0, Hm, ?_⟩
    unfold actS; simp only [hgS]; (repeat' split) <;> first | (exfalso; omega) | (exfalso; simp_all; done) | exact e2
   ·rw [h25]
    have p27 : ¬ (x < o.amount) := of_decide_eq_false h25
    refine q_skip (by kernel_rfl) ?_
    refine qs ?_
    refine qs ?_
    refine qg ?_
    refine og 1 [(0, (ptr b)), (2, (i64 x)), (5, (ptr b1)), (8, (i64 0)), (9, (Value.func (Fn.func 66) ⟨[]⟩ ⟨[(ptr b1)]⟩)), (50, (ptr b1))] 1 ?_
    refine Ops.go (v := (i64 o.kind)) (by kernel_rfl) (Runs.load (t := 3) (a := ⟨b1, 0, none⟩) (by kernel_rfl) (H4.loads (by kernel_rfl))) (d := (some 51)) (by kernel_rfl) rfl ?_
    refine og 1 [(0, (ptr b)), (2, (i64 x)), (5, (ptr b1)), (8, (i64 0)), (9, (Value.func (Fn.func 66) ⟨[]⟩ ⟨[(ptr b1)]⟩)), (52, (Value.bool (o.kind == 4)))] 3 ?_
    refine od ?_
    refine q_cond (o := .tmp 52) (b := (o.kind == 4)) (by kernel_rfl) rfl (fun h28 => ?_) (fun h28 => ?_)
    ·rw [h28]
     have p29 : o.kind = 4 := of_beq_t h28
     refine qs ?_
     refine q_draw (fun wz => Keeps none_ w2 wz) 12 (by kernel_rfl) (by kernel_rfl) (by kernel_rfl) (fun w30 K31 _ _ => ⟨K31, ?_⟩)
     replace K0 := K0.tn K31
     replace Hb := Hb.keep K31 (fun h => h)
     replace Hm := Hm.keep K31 (fun h => h)
     replace H4 := H4.keep K31 (fun h => h)
     refine Dr.strong (S' := (fun wz => Keeps none_ w30 wz)) (Keeps.refl w30) (fun wz hx => K31.trans hx (fun i _ h => h) (fun _ _ h => h)) ?_
     clear K31
     refine Dr.takes (fuel' := 9) (is' := _) [0, 1, 2] [(0, (ptr b)), (2, (i64 x)), (5, (ptr b1)), (8, (i64 0)), (9, (Value.func (Fn.func 66) ⟨[]⟩ ⟨[(ptr b1)]⟩)), (56, (ptr b))] (by kernel_rfl) rfl (by kernel_rfl) ?_
     refine Dr.take (i := 3) (v := (Value.map (some mb))) (by kernel_rfl) (by kernel_rfl) (fun wz hS => Runs.load (t := 107) (a := ⟨b, 0, none⟩) (by kernel_rfl) ((Hb.keep hS (fun h => h)).loads (by kernel_rfl))) (d := (some 57)) (by kernel_rfl) rfl ?_
     refine Dr.takes (fuel' := 7) (is' := _) [4] [(0, (ptr b)), (2, (i64 x)), (5, (ptr b1)), (8, (i64 0)), (9, (Value.func (Fn.func 66) ⟨[]⟩ ⟨[(ptr b1)]⟩)), (57, (Value.map (some mb))), (58, (Value.pointer (some ⟨b1, 2, none⟩)))] (by kernel_rfl) rfl (by kernel_rfl) ?_
     refine Dr.take (i := 5) (v := (Value.string (str o.to))) (by kernel_rfl) (by kernel_rfl) (fun wz hS => Runs.load (t := 9) (a := ⟨b1, 2, none⟩) (by kernel_rfl) ((H4.keep hS (fun h => h)).loads (by kernel_rfl))) (d := (some 59)) (by kernel_rfl) rfl ?_
     rcases hg32 : getM m o.to with _ | y33
     ·skip
      have hw34 := hL.got_none hg32
      refine Dr.take (i := 6) (v := (Value.tuple #[(i64 0), (Value.bool false)])) (by kernel_rfl) (by kernel_rfl) (fun wz hS => Runs.lookup_none (ok := true) (z := (i64 0)) KT Tryd.underlying107 (by kernel_rfl) (Hm.keep hS (fun h => h)) hg32 (by kernel_rfl)) (d := (some 60)) (by kernel_rfl) rfl ?_
      refine Dr.takes (fuel' := 0) (is' := _) [7, 8, 9, 10, 11] [(0, (ptr b)), (2, (i64 x)), (5, (ptr b1)), (8, (i64 0)), (9, (Value.func (Fn.func 66) ⟨[]⟩ ⟨[(ptr b1)]⟩)), (10, (i64 0)), (11, (Value.bool false))] (by kernel_rfl) rfl (by kernel_rfl) ?_
      refine Dr.done (by kernel_rfl) ?_
      refine qs ?_
      refine qs ?_
      refine qg ?_
      refine og 2 [(0, (ptr b)), (2, (i64 x)), (5, (ptr b1)), (8, (i64 0)), (9, (Value.func (Fn.func 66) ⟨[]⟩ ⟨[(ptr b1)]⟩)), (10, (i64 0)), (64, (Value.bool true))] 2 ?_
      refine od ?_
      refine q_then (o := .tmp 64) (by kernel_rfl) rfl ?_
      refine qs ?_
      refine qg ?_
      refine og 1 [(0, (ptr b)), (2, (i64 x)), (5, (ptr b1)), (8, (i64 40)), (9, (Value.func (Fn.func 66) ⟨[]⟩ ⟨[(ptr b1)]⟩)), (10, (i64 0))] 1 ?_
      refine od ?_
      refine q_ret (by kernel_rfl) ?_
      refine ⟨(i64 40), retv_tmp rfl rfl, ?_⟩
      have e1 : actE S o = 40 := by unfold actE; simp only [hgS, hw34]; (repeat' split) <;> first | rfl | (exfalso; omega) | (exfalso; simp_all; done)
      have e2 := hL
      refine ⟨m, by rw [e1], K0, Hm, ?_⟩
      unfold actS; simp only [hgS, hw34]; (repeat' split) <;> first | (exfalso; omega) | (exfalso; simp_all; done) | exact e2
     ·skip
      obtain ⟨hw35, hr36, hr37⟩ := hL.got_some hg32
      refine Dr.take (i := 6) (v := (Value.tuple #[(i64 y33), (Value.bool true)])) (by kernel_rfl) (by kernel_rfl) (fun wz hS => Runs.lookup_some (ok := true) (vf := ki64) (a := y33) KT Tryd.underlying107 (Hm.keep hS (fun h => h)) hg32 (by kernel_rfl)) (d := (some 60)) (by kernel_rfl) rfl ?_
      refine Dr.takes (fuel' := 0) (is' := _) [7, 8, 9, 10, 11] [(0, (ptr b)), (2, (i64 x)), (5, (ptr b1)), (8, (i64 0)), (9, (Value.func (Fn.func 66) ⟨[]⟩ ⟨[(ptr b1)]⟩)), (10, (i64 y33)), (11, (Value.bool true))] (by kernel_rfl) rfl (by kernel_rfl) ?_
      refine Dr.done (by kernel_rfl) ?_
      refine qs ?_
      refine qs ?_
      refine qg ?_
      refine og 2 [(0, (ptr b)), (2, (i64 x)), (5, (ptr b1)), (8, (i64 0)), (9, (Value.func (Fn.func 66) ⟨[]⟩ ⟨[(ptr b1)]⟩)), (10, (i64 y33)), (64, (Value.bool false))] 2 ?_
      refine od ?_
      refine q_else (o := .tmp 64) (by kernel_rfl) rfl ?_
      refine q_skip (by kernel_rfl) ?_
      refine qs ?_
      refine qs ?_
      refine qg ?_
      refine og 2 [(0, (ptr b)), (2, (i64 x)), (5, (ptr b1)), (8, (i64 0)), (10, (i64 y33)), (65, (Value.func (Fn.func 66) ⟨[]⟩ ⟨[(ptr b1)]⟩)), (66, (i64 y33))] 2 ?_
      refine Ops.call (by kernel_rfl) (d := (some 67)) (by kernel_rfl) (room_calls _ b1 o y33 H4 (by omega) (by omega)) ?_
      rintro _ w39 ⟨rfl, K38⟩
      refine ⟨_, _, rfl, rfl, ?_⟩
      replace K0 := K0.tn K38
      replace Hb := Hb.keep K38 (fun h => h)
      replace Hm := Hm.keep K38 (fun h => h)
      replace H4 := H4.keep K38 (fun h => h)
      clear K38
      refine og 1 [(0, (ptr b)), (2, (i64 x)), (5, (ptr b1)), (8, (i64 0)), (10, (i64 y33)), (68, (Value.bool (!(decide (y33 ≤ 9223372036854775807 - o.amount)))))] 4 ?_
      refine od ?_
      refine q_cond (o := .tmp 68) (b := (!(decide (y33 ≤ 9223372036854775807 - o.amount)))) (by kernel_rfl) rfl (fun h40 => ?_) (fun h40 => ?_)
      ·rw [h40]
       have p41 : ¬ (y33 ≤ 9223372036854775807 - o.amount) := of_decide_eq_false (bnot_true h40)
       refine qs ?_
       refine qg ?_
       refine og 1 [(0, (ptr b)), (2, (i64 x)), (5, (ptr b1)), (8, (i64 43)), (10, (i64 y33))] 1 ?_
       refine od ?_
       refine q_ret (by kernel_rfl) ?_
       refine ⟨(i64 43), retv_tmp rfl rfl, ?_⟩
       have e1 : actE S o = 43 := by unfold actE; simp only [hgS, hw35]; (repeat' split) <;> first | rfl | (exfalso; omega) | (exfalso; simp_all; done)
       have e2 := hL
       refine ⟨m, by rw [e1], K0, Hm, ?_⟩
       unfold actS; simp only [hgS, hw35]; (repeat' split) <;> first | (exfalso; omega) | (exfalso; simp_all; done) | exact e2
      ·rw [h40]
       have p42 : y33 ≤ 9223372036854775807 - o.amount := of_decide_eq_true (bnot_false h40)
       refine q_skip (by kernel_rfl) ?_
       refine q_draw (fun wz => Keeps (fun i => i = mb) w39 wz) 11 (by kernel_rfl) (by kernel_rfl) (by kernel_rfl) (fun w43 K44 _ _ => ⟨(K44.mono (fun _ _ h => h.elim)), ?_⟩)
       replace K0 := K0.tn K44
       replace Hb := Hb.keep K44 (fun h => h)
       replace Hm := Hm.keep K44 (fun h => h)
       replace H4 := H4.keep K44 (fun h => h)
       refine Dr.strong (S' := (fun wz => Keeps (fun i => i = mb) w43 wz)) ((Keeps.refl w43).mono (fun _ _ h => h.elim)) (fun wz hx => K44.trans hx (fun i _ h => h.elim) (fun _ _ h => h)) ?_
       clear K44
       refine Dr.takes (fuel' := 8) (is' := _) [0, 1, 2] [(0, (ptr b)), (2, (i64 x)), (5, (ptr b1)), (8, (i64 0)), (10, (i64 y33)), (71, (ptr b))] (by kernel_rfl) rfl (by kernel_rfl) ?_
       refine Dr.take (i := 3) (v := (Value.map (some mb))) (by kernel_rfl) (by kernel_rfl) (fun wz hS => Runs.load (t := 107) (a := ⟨b, 0, none⟩) (by kernel_rfl) ((Hb.keep hS (by intro h; change b = mb at h; omega)).loads (by kernel_rfl))) (d := (some 72)) (by kernel_rfl) rfl ?_
       refine Dr.takes (fuel' := 6) (is' := _) [4] [(0, (ptr b)), (2, (i64 x)), (5, (ptr b1)), (8, (i64 0)), (10, (i64 y33)), (72, (Value.map (some mb))), (73, (Value.pointer (some ⟨b1, 2, none⟩)))] (by kernel_rfl) rfl (by kernel_rfl) ?_
       refine Dr.take (i := 5) (v := (Value.string (str o.to))) (by kernel_rfl) (by kernel_rfl) (fun wz hS => Runs.load (t := 9) (a := ⟨b1, 2, none⟩) (by kernel_rfl) ((H4.keep hS (by intro h; change b1 = mb at h; omega)).loads (by kernel_rfl))) (d := (some 74)) (by kernel_rfl) rfl ?_
       refine Dr.takes (fuel' := 3) (is' := _) [6, 7] [(0, (ptr b)), (2, (i64 x)), (5, (ptr b1)), (8, (i64 0)), (72, (Value.map (some mb))), (74, (Value.string (str o.to))), (75, (i64 y33)), (76, (Value.pointer (some ⟨b1, 3, none⟩)))] (by kernel_rfl) rfl (by kernel_rfl) ?_
       refine Dr.take (i := 8) (v := (i64 o.amount)) (by kernel_rfl) (by kernel_rfl) (fun wz hS => Runs.load (t := 2) (a := ⟨b1, 3, none⟩) (by kernel_rfl) ((H4.keep hS (by intro h; change b1 = mb at h; omega)).loads (by kernel_rfl))) (d := (some 77)) (by kernel_rfl) rfl ?_
       refine Dr.takes (fuel' := 1) (is' := _) [9] [(0, (ptr b)), (2, (i64 x)), (5, (ptr b1)), (8, (i64 0)), (72, (Value.map (some mb))), (74, (Value.string (str o.to))), (78, (i64 (IntKind.i64.wrap (y33 + o.amount))))] (by kernel_rfl) rfl (by kernel_rfl) ?_
       have e45 : IntKind.i64.wrap (y33 + o.amount) = y33 + o.amount := wrap_i64 (by omega) (by omega)
       rw [e45]
       obtain ⟨w46, hr47, K48, H49⟩ := HasMap.update KT Tryd.underlying107 Hm o.to (y33 + o.amount)
       refine Dr.goU (i := 10) (by kernel_rfl) (by kernel_rfl) (RunsU.of_update (by kernel_rfl) hr47) (d := none) (by kernel_rfl) rfl K48 ?_
       clear Hm
       replace K0 := K0.t1 K48 (fun _ => rfl)
       replace Hb := Hb.k1 K48 (by omega)
       replace H4 := H4.k1 K48 (by omega)
       refine Dr.strong (S' := (fun wz => Keeps (fun i => i = mb) w46 wz)) ((Keeps.refl w46).mono (fun _ _ h => h.elim)) (fun wz hx => K48.trans hx (fun i _ h => by have h : i = mb := h; show i = mb; omega) (fun _ _ h => h)) ?_
       clear K48 hr47
       refine Dr.done (by kernel_rfl) ?_
       refine qs ?_
       refine q_draw (fun wz => Keeps (fun i => i = mb) w46 wz) 11 (by kernel_rfl) (by kernel_rfl) (by kernel_rfl) (fun w50 K51 _ _ => ⟨(K51.mono (fun _ _ h => h.elim)), ?_⟩)
       replace K0 := K0.tn K51
       replace Hb := Hb.keep K51 (fun h => h)
       replace H49 := H49.keep K51 (fun h => h)
       replace H4 := H4.keep K51 (fun h => h)
       refine Dr.strong (S' := (fun wz => Keeps (fun i => i = mb) w50 wz)) ((Keeps.refl w50).mono (fun _ _ h => h.elim)) (fun wz hx => K51.trans hx (fun i _ h => h.elim) (fun _ _ h => h)) ?_
       clear K51
       refine Dr.takes (fuel' := 8) (is' := _) [0, 1, 2] [(2, (i64 x)), (5, (ptr b1)), (8, (i64 0)), (81, (ptr b))] (by kernel_rfl) rfl (by kernel_rfl) ?_
       refine Dr.take (i := 3) (v := (Value.map (some mb))) (by kernel_rfl) (by kernel_rfl) (fun wz hS => Runs.load (t := 107) (a := ⟨b, 0, none⟩) (by kernel_rfl) ((Hb.keep hS (by intro h; change b = mb at h; omega)).loads (by kernel_rfl))) (d := (some 82)) (by kernel_rfl) rfl ?_
       refine Dr.takes (fuel' := 6) (is' := _) [4] [(2, (i64 x)), (5, (ptr b1)), (8, (i64 0)), (82, (Value.map (some mb))), (83, (Value.pointer (some ⟨b1, 1, none⟩)))] (by kernel_rfl) rfl (by kernel_rfl) ?_
       refine Dr.take (i := 5) (v := (Value.string (str o.frm))) (by kernel_rfl) (by kernel_rfl) (fun wz hS => Runs.load (t := 9) (a := ⟨b1, 1, none⟩) (by kernel_rfl) ((H4.keep hS (by intro h; change b1 = mb at h; omega)).loads (by kernel_rfl))) (d := (some 84)) (by kernel_rfl) rfl ?_
       refine Dr.takes (fuel' := 3) (is' := _) [6, 7] [(8, (i64 0)), (82, (Value.map (some mb))), (84, (Value.string (str o.frm))), (85, (i64 x)), (86, (Value.pointer (some ⟨b1, 3, none⟩)))] (by kernel_rfl) rfl (by kernel_rfl) ?_
       refine Dr.take (i := 8) (v := (i64 o.amount)) (by kernel_rfl) (by kernel_rfl) (fun wz hS => Runs.load (t := 2) (a := ⟨b1, 3, none⟩) (by kernel_rfl) ((H4.keep hS (by intro h; change b1 = mb at h; omega)).loads (by kernel_rfl))) (d := (some 87)) (by kernel_rfl) rfl ?_
       refine Dr.takes (fuel' := 1) (is' := _) [9] [(8, (i64 0)), (82, (Value.map (some mb))), (84, (Value.string (str o.frm))), (88, (i64 (IntKind.i64.wrap (x - o.amount))))] (by kernel_rfl) rfl (by kernel_rfl) ?_
       have e52 : IntKind.i64.wrap (x - o.amount) = x - o.amount := wrap_i64 (by omega) (by omega)
       rw [e52]
       obtain ⟨w53, hr54, K55, H56⟩ := HasMap.update KT Tryd.underlying107 H49 o.frm (x - o.amount)
       refine Dr.goU (i := 10) (by kernel_rfl) (by kernel_rfl) (RunsU.of_update (by kernel_rfl) hr54) (d := none) (by kernel_rfl) rfl K55 ?_
       clear H49
       replace K0 := K0.t1 K55 (fun _ => rfl)
       replace Hb := Hb.k1 K55 (by omega)
       replace H4 := H4.k1 K55 (by omega)
       refine Dr.strong (S' := (fun wz => Keeps (fun i => i = mb) w53 wz)) ((Keeps.refl w53).mono (fun _ _ h => h.elim)) (fun wz hx => K55.trans hx (fun i _ h => by have h : i = mb := h; show i = mb; omega) (fun _ _ h => h)) ?_
       clear K55 hr54
       refine Dr.done (by kernel_rfl) ?_
       refine qs ?_
       refine qg ?_
       refine og 1 [(8, (i64 0))] 1 ?_
       refine od ?_
       refine q_ret (by kernel_rfl) ?_
       refine ⟨(i64 0), retv_tmp rfl rfl, ?_⟩
       have e1 : actE S o = 0 := by unfold actE; simp only [hgS, hw35]; (repeat' split) <;> first | rfl | (exfalso; omega) | (exfalso; simp_all; done)
       have e2 := (hL.set hg32 (x := (y33 + o.amount)) (by omega)).set (x := (x - o.amount)) ((getM_put_ne (hft (by omega))).trans hg) (by omega)
       refine ⟨putM (putM m o.to (y33 + o.amount)) o.frm (x - o.amount), by rw [e1], K0, H56, ?_⟩
       unfold actS; simp only [hgS, hw35]; (repeat' split) <;> first | (exfalso; omega) | (exfalso; simp_all; done) | exact e2
    ·rw [h28]
     have p57 : ¬ (o.kind = 4) := of_beq_f h28
     refine q_skip (by kernel_rfl) ?_
     refine qs ?_
     refine q_draw (fun wz => Keeps (fun i => i = mb) w2 wz) 11 (by kernel_rfl) (by kernel_rfl) (by kernel_rfl) (fun w58 K59 _ _ => ⟨(K59.mono (fun _ _ h => h.elim)), ?_⟩)
     replace K0 := K0.tn K59
     replace Hb := Hb.keep K59 (fun h => h)
     replace Hm := Hm.keep K59 (fun h => h)
     replace H4 := H4.keep K59 (fun h => h)
     refine Dr.strong (S' := (fun wz => Keeps (fun i => i = mb) w58 wz)) ((Keeps.refl w58).mono (fun _ _ h => h.elim)) (fun wz hx => K59.trans hx (fun i _ h => h.elim) (fun _ _ h => h)) ?_
     clear K59
     refine Dr.takes (fuel' := 8) (is' := _) [0, 1, 2] [(2, (i64 x)), (5, (ptr b1)), (8, (i64 0)), (81, (ptr b))] (by kernel_rfl) rfl (by kernel_rfl) ?_
     refine Dr.take (i := 3) (v := (Value.map (some mb))) (by kernel_rfl) (by kernel_rfl) (fun wz hS => Runs.load (t := 107) (a := ⟨b, 0, none⟩) (by kernel_rfl) ((Hb.keep hS (by intro h; change b = mb at h; omega)).loads (by kernel_rfl))) (d := (some 82)) (by kernel_rfl) rfl ?_
     refine Dr.takes (fuel' := 6) (is' := _) [4] [(2, (i64 x)), (5, (ptr b1)), (8, (i64 0)), (82, (Value.map (some mb))), (83, (Value.pointer (some ⟨b1, 1, none⟩)))] (by kernel_rfl) rfl (by kernel_rfl) ?_
     refine Dr.take (i := 5) (v := (Value.string (str o.frm))) (by kernel_rfl) (by kernel_rfl) (fun wz hS => Runs.load (t := 9) (a := ⟨b1, 1, none⟩) (by kernel_rfl) ((H4.keep hS (by intro h; change b1 = mb at h; omega)).loads (by kernel_rfl))) (d := (some 84)) (by kernel_rfl) rfl ?_
     refine Dr.takes (fuel' := 3) (is' := _) [6, 7] [(8, (i64 0)), (82, (Value.map (some mb))), (84, (Value.string (str o.frm))), (85, (i64 x)), (86, (Value.pointer (some ⟨b1, 3, none⟩)))] (by kernel_rfl) rfl (by kernel_rfl) ?_
     refine Dr.take (i := 8) (v := (i64 o.amount)) (by kernel_rfl) (by kernel_rfl) (fun wz hS => Runs.load (t := 2) (a := ⟨b1, 3, none⟩) (by kernel_rfl) ((H4.keep hS (by intro h; change b1 = mb at h; omega)).loads (by kernel_rfl))) (d := (some 87)) (by kernel_rfl) rfl ?_
     refine Dr.takes (fuel' := 1) (is' := _) [9] [(8, (i64 0)), (82, (Value.map (some mb))), (84, (Value.string (str o.frm))), (88, (i64 (IntKind.i64.wrap (x - o.amount))))] (by kernel_rfl) rfl (by kernel_rfl) ?_
     have e60 : IntKind.i64.wrap (x - o.amount) = x - o.amount := wrap_i64 (by omega) (by omega)
     rw [e60]
     obtain ⟨w61, hr62, K63, H64⟩ := HasMap.update KT Tryd.underlying107 Hm o.frm (x - o.amount)
     refine Dr.goU (i := 10) (by kernel_rfl) (by kernel_rfl) (RunsU.of_update (by kernel_rfl) hr62) (d := none) (by kernel_rfl) rfl K63 ?_
     clear Hm
     replace K0 := K0.t1 K63 (fun _ => rfl)
     replace Hb := Hb.k1 K63 (by omega)
     replace H4 := H4.k1 K63 (by omega)
     refine Dr.strong (S' := (fun wz => Keeps (fun i => i = mb) w61 wz)) ((Keeps.refl w61).mono (fun _ _ h => h.elim)) (fun wz hx => K63.trans hx (fun i _ h => by have h : i = mb := h; show i = mb; omega) (fun _ _ h => h)) ?_
     clear K63 hr62
     refine Dr.done (by kernel_rfl) ?_
     refine qs ?_
     refine qg ?_
     refine og 1 [(8, (i64 0))] 1 ?_
     refine od ?_
     refine q_ret (by kernel_rfl) ?_
     refine ⟨(i64 0), retv_tmp rfl rfl, ?_⟩
     have e1 : actE S o = 0 := by unfold actE; simp only [hgS]; (repeat' split) <;> first | rfl | (exfalso; omega) | (exfalso; simp_all; done)
     have e2 := hL.set hg (x := (x - o.amount)) (by omega)
     refine ⟨putM m o.frm (x - o.amount), by rw [e1], K0, H64, ?_⟩
     unfold actS; simp only [hgS]; (repeat' split) <;> first | (exfalso; omega) | (exfalso; simp_all; done) | exact e2
end Go.Proofs.YtnbcghbgeiocbaaDoor
namespace Go.Q
open Go.RowKit
theorem sorted_namesW {S : List RowM} {ss : List (List UInt8)} (h : S.Pairwise (fun a b => ltN a.name b.name)) (hp : ss.Perm (S.map (·.name))) : ss.mergeSort (fun x y => decide (x ≤ y)) = S.map (·.name) := by
  rw [mergeSort_of_perm hp]
  refine List.mergeSort_of_pairwise ?_
  refine List.pairwise_map.2 (h.imp fun {a b} hlt => ?_)
  simp only [decide_eq_true_eq]
  exact List.le_of_lt hlt
theorem LMap.names_ok {m : List (List UInt8 × Int)} {S : List RowM} (h : LMap m S) : ∀ x ∈ m, x.1.length ≤ 24 := by
  intro x hx
  obtain ⟨a, ha, rfl⟩ := List.mem_map.1 (h.perm.mem_iff.2 hx)
  exact (nameOk_len (h.led.ok a ha).name).2
theorem nameW_at {S : List RowM} {i : Nat} {a : RowM} (h : S[i]? = some a) : (S.map (·.name))[i]? = some a.name := by rw [List.getElem?_map, h]; rfl
theorem Led.get_of {S : List RowM} (h : Led S) {a : RowM} (ha : a ∈ S) : getW S a.name = some a := by
  unfold getW
  have hs := h.sorted
  clear h
  induction S with
  | nil => cases ha
  | cons b S ih =>
    rw [List.pairwise_cons] at hs
    rcases List.mem_cons.1 ha with rfl | ha
    · simp
    · rw [List.find?_cons_of_neg, ih ha hs.2]
      have := hs.1 a ha
      intro e
      have e : b.name = a.name := by simpa using e
      rw [e] at this
      exact ltN_irrefl _ this
theorem LMap.at_ {m : List (List UInt8 × Int)} {S : List RowM} (h : LMap m S) {i : Nat} {a : RowM} (ha : S[i]? = some a) : getM m a.name = some a.amount := by
  rw [h.get, h.led.get_of (List.mem_of_getElem? ha)]; rfl
theorem takeR {S : List RowM} {i : Nat} {a : RowM} (h : S[i]? = some a) : S.take (i + 1) = S.take i ++ [a] := by rw [List.take_add_one, h]; rfl
end Go.Q
