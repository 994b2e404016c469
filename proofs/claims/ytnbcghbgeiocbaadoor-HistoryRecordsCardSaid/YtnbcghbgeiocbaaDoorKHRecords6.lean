/- What the claim stands on, part 6: rules of the walk, contracts of the functions, plain laws. -/
import Derived.Test.YtnbcghbgeiocbaaDoorKHRecords4
import Derived.Lib.ConvBytes
import Derived.Test.YtnbcghbgeiocbaaDoorKHRecords5
import Derived.Test.YtnbcghbgeiocbaaDoorKHRecords3
import Derived.Test.YtnbcghbgeiocbaaDoorKHRecords1
set_option linter.unusedVariables false
namespace Go.Q
open Go.RowKit
structure Opm.Ok (o : Opm) : Prop where
 kind : -9223372036854775808 ≤ o.kind ∧ o.kind ≤ 9223372036854775807
 amount : -9223372036854775808 ≤ o.amount ∧ o.amount ≤ 9223372036854775807
 slot : -9223372036854775808 ≤ o.slot ∧ o.slot ≤ 9223372036854775807
 shard : -9223372036854775808 ≤ o.shard ∧ o.shard ≤ 9223372036854775807
def opv (o : Opm) : List UInt8 := iv o.kind ++ (tv o.frm ++ (tv o.to ++ (iv o.amount ++ (tv o.key ++ (iv o.slot ++ iv o.shard)))))
def rowsv : List RowM → List UInt8
 | [] => []
 | x :: l => tv x.name ++ (iv x.amount ++ rowsv l)
structure ReplyM.Ok (p : ReplyM) : Prop where
 why : -9223372036854775808 ≤ p.why ∧ p.why ≤ 9223372036854775807
 amount : -9223372036854775808 ≤ p.amount ∧ p.amount ≤ 9223372036854775807
 rows : ∀ x ∈ p.rows, -9223372036854775808 ≤ x.amount ∧ x.amount ≤ 9223372036854775807
def rpv (p : ReplyM) : List UInt8 := iv p.why ++ (iv p.amount ++ (uv p.rows.length ++ rowsv p.rows))
theorem tv_ge (s : List UInt8) : s.length ≤ (tv s).length := by unfold tv; rw [List.length_append]; omega
end Go.Q
namespace Go.Q
end Go.Q
namespace Go.Q
end Go.Q
namespace Go.Q
end Go.Q
namespace Go.Q
open Go.RowKit
def wrongE (o : Opm) : Int :=
 if o.kind = 6 then 0
 else if o.kind = 7 then (if o.slot < 0 ∨ 15 < o.slot ∨ o.shard < 1 ∨ 3 < o.shard then 1 else 0)
 else if o.kind < 1 ∨ 7 < o.kind then 1
 else if nameOk o.frm = false then 46
 else if o.kind = 5 then 0
 else if nameOk o.key = false then 46
 else if o.kind = 1 then 0
 else if o.kind = 4 ∧ nameOk o.to = false then 46
 else if o.amount < 1 then 47
 else if o.kind = 4 ∧ o.frm = o.to then 44
 else 0
section
variable {P : Program} {w : World} {t : TypeId}
def ixv? (L : Loc) (o : Oper) : Option (TypeId × Value × Value) := match o.op with | .index t x y => some (t, ev L x, ev L y) | _ => none
end
theorem ne_of_t {b : Bool} (h : b = true) : ¬ b = false := by rw [h]; decide
theorem and_ne_of_t {p : Prop} {b : Bool} (h : b = true) : ¬ (p ∧ b = false) := fun q => ne_of_t h q.2
theorem and_ne {p q : Prop} (h : ¬ q) : ¬ (p ∧ q) := fun x => h x.2
theorem beq_false_ne {a b : List UInt8} (h : (a == b) = false) : ¬ a = b := by simpa using h
theorem beq_true_eq {a b : List UInt8} (h : (a == b) = true) : a = b := by simpa using h
end Go.Q
namespace Go.Q
open Go.RowKit
def kpair (x : List UInt8 × List UInt8) : Value := agg [.string (str x.1), .string (str x.2)]
theorem str_inj {a b : List UInt8} (h : str a = str b) : a = b := by
 have := congrArg (fun z : ByteArray => z.data.toList) h
 simpa [str] using this
theorem byteArray_beq (a : ByteArray) : (a == a) = true := Go.MapKept.sameBits_self (d := .string) (k := .string a) (by trivial) 0
theorem kpair_inj {x y : List UInt8 × List UInt8} (h : kpair x = kpair y) : x = y := by
 simp only [kpair, agg, Value.agg.injEq] at h
 have h := congrArg Array.toList h
 simp only [List.cons.injEq, Value.string.injEq, and_true] at h
 exact Prod.ext (str_inj h.1) (str_inj h.2)
theorem aggB_pair (x y : List UInt8 × List UInt8) : aggB [.string (str x.1), .string (str x.2)] [.string (str y.1), .string (str y.2)] = decide (x = y) := by
 simp only [aggB, cellB, str_toList, Bool.and_true]
 rw [Bool.eq_iff_iff]
 simp only [Bool.and_eq_true, beq_iff_eq, decide_eq_true_eq]
 exact ⟨fun h => Prod.ext h.1 h.2, fun h => by rw [h]; exact ⟨rfl, rfl⟩⟩
theorem findAsk_pair {P : Program} {k : TypeId} (he : ∀ a b c d, eqOk P k [.string a, .string b] [.string c, .string d] = true) (x : List UInt8 × List UInt8) (w : World) : ∀ (es : List MapEntry) (i : Nat), (∀ e ∈ es, ∃ y, e.key = kpair y) →
  (∃ j e, es[j]? = some e ∧ e.key = kpair x ∧ (Instr.findAsking k (kpair x) es i).run P w = .ok (some (i + j, e.val)) w) ∨ ((∀ e ∈ es, e.key ≠ kpair x) ∧ (Instr.findAsking k (kpair x) es i).run P w = .ok none w)
 | [], i, _ => .inr ⟨fun e h => (by cases h), by simp [Instr.findAsking, Sem.run_pure]⟩
 | e :: es, i, hks => by
  obtain ⟨y, hy⟩ := hks e (List.mem_cons_self ..)
  have hq : (Op.equal k (kpair x) e.key).run P w = .ok (decide (x = y)) w := by
   rw [hy, ← aggB_pair]
   exact run_aggeq (he _ _ _ _)
  by_cases hxy : x = y
  ·refine .inl ⟨0, e, rfl, by rw [hy, hxy], ?_⟩
   rw [decide_eq_true hxy] at hq
   simp only [Instr.findAsking, Sem.run_bind, hq, Result.andThen_ok, if_true, Sem.run_pure, Nat.add_zero]
  ·rcases findAsk_pair he x w es (i + 1) (fun e he => hks e (List.mem_cons_of_mem _ he)) with ⟨j, e2, h1, h2, h3⟩ | ⟨h1, h2⟩
   ·refine .inl ⟨j + 1, e2, h1, h2, ?_⟩
    simp only [Instr.findAsking, Sem.run_bind, hq, Result.andThen_ok, hxy, decide_false, Bool.false_eq_true, if_false]
    rw [h3, show i + 1 + j = i + (j + 1) from by omega]
   ·refine .inr ⟨fun e2 he2 => ?_, ?_⟩
    ·rcases List.mem_cons.1 he2 with rfl | he2
     ·rw [hy]; exact fun h => hxy (kpair_inj h).symm
     ·exact h1 e2 he2
    ·simp only [Instr.findAsking, Sem.run_bind, hq, Result.andThen_ok, hxy, decide_false, Bool.false_eq_true, if_false]
     exact h2
theorem run_check_str {P : Program} {t : TypeId} (ht : P.underlying t = some .string) (e : Bool) (n : Nat) (s : ByteArray) (w : World) : (Instr.checkKey e (n + 1) t (.string s)).run P w = .ok () w := Go.MapKept.run_checkKey (d := .string) ht (by trivial) e n
theorem keyTy_pair {P : Program} {k : TypeId} {f1 f2 : Field} (hk : P.underlying k = some (.struct #[f1, f2])) (h1 : P.underlying f1.type = some .string) (h2 : P.underlying f2.type = some .string) (o1 : f1.offset = 0) (o2 : f2.offset = 1)
  (he : ∀ a b c d, eqOk P k [.string a, .string b] [.string c, .string d] = true) : KeyTy P k kpair where
 check e x w := by
  show (Instr.checkKey e (9999 + 1) k (agg [.string (str x.1), .string (str x.2)])).run P w = .ok () w
  have hp1 : isAgg? P f1.type = some false := by unfold isAgg?; rw [h1]
  have hp2 : isAgg? P f2.type = some false := by unfold isAgg?; rw [h2]
  have e1 : (part f1.type #[.string (str x.1), .string (str x.2)] f1.offset).run P w = .ok (.string (str x.1)) w := run_part1 hp1 (by rw [o1]; rfl)
  have e2 : (part f2.type #[.string (str x.1), .string (str x.2)] f2.offset).run P w = .ok (.string (str x.2)) w := run_part1 hp2 (by rw [o2]; rfl)
  unfold Instr.checkKey
  simp only [Sem.run_bind, run_underlying hk, Result.andThen_ok, agg]
  have c1 := run_check_str h1 e 9998 (str x.1) w
  have c2 := run_check_str h2 e 9998 (str x.2) w
  by_cases q1 : f1.name = "_" <;> by_cases q2 : f2.name = "_" <;> simp [q1, q2, e1, e2, c1, c2, Sem.run_bind, Result.andThen_ok, Sem.run_pure, Result.andThen]
 find x es w h := by
  have hx : (Instr.findKey k (kpair x) es).run P w = .ok none w ∨ (Instr.findKey k (kpair x) es).run P w = (Instr.findAsking k (kpair x) es 0).run P w := by
   cases es with
   | nil => exact .inl (by simp [Instr.findKey, Sem.run_bind, run_underlying hk, Result.andThen_ok, Instr.findNow, Sem.run_pure])
   | cons e es => exact .inr (by simp [Instr.findKey, Sem.run_bind, run_underlying hk, Result.andThen_ok, Instr.findNow, Instr.sameNow])
  rcases findAsk_pair he x w es 0 h with ⟨j, e, q1, q2, q3⟩ | ⟨q1, q2⟩
  ·rcases hx with hx | hx
   ·cases es with
    | nil => cases q1
    | cons e0 es => exact absurd hx (by rw [show (Instr.findKey k (kpair x) (e0 :: es)).run P w = (Instr.findAsking k (kpair x) (e0 :: es) 0).run P w from by simp [Instr.findKey, Sem.run_bind, run_underlying hk, Result.andThen_ok, Instr.findNow, Instr.sameNow], q3]; simp)
   ·exact .inl ⟨j, e, q1, q2, by rw [hx, q3, Nat.zero_add]⟩
  ·rcases hx with hx | hx
   ·exact .inr ⟨q1, hx⟩
   ·exact .inr ⟨q1, by rw [hx, q2]⟩
 same x := by simp [kpair, agg, Instr.sameBits, byteArray_beq]
 inj x y h := kpair_inj h
end Go.Q
namespace Go.Q
open Go.RowKit
def getW (S : List RowM) (n : List UInt8) : Option RowM := S.find? (fun a => decide (a.name = n))
def setW (S : List RowM) (n : List UInt8) (x : Int) : List RowM := S.map fun a => if a.name = n then ⟨n, x⟩ else a
def insW : List RowM → RowM → List RowM
 | [], a => [a]
 | b :: S, a => if b.name < a.name then b :: insW S a else a :: b :: S
def RowM.pair (a : RowM) : List UInt8 × Int := (a.name, a.amount)
structure RowM.Fit (a : RowM) : Prop where
 name : nameOk a.name = true
 lo : 0 ≤ a.amount
 hi : a.amount ≤ 9223372036854775807
structure Led (S : List RowM) : Prop where
 sorted : S.Pairwise (fun a b => ltN a.name b.name)
 ok : ∀ a ∈ S, a.Fit
structure LMap (m : List (List UInt8 × Int)) (S : List RowM) : Prop where
 led : Led S
 perm : (S.map RowM.pair).Perm m
theorem Led.nil : Led [] := ⟨List.Pairwise.nil, fun a h => (by cases h)⟩
theorem LMap.nil : LMap [] [] := ⟨Led.nil, List.Perm.refl _⟩
theorem nameOk_len {n : List UInt8} (h : nameOk n = true) : 1 ≤ n.length ∧ n.length ≤ 24 := by
 simp only [nameOk, Bool.and_eq_true, decide_eq_true_eq] at h
 exact h.1
theorem getW_some {S : List RowM} {n : List UInt8} {a : RowM} (h : getW S n = some a) : a ∈ S ∧ a.name = n := by
 unfold getW at h
 exact ⟨List.mem_of_find?_eq_some h, by simpa using List.find?_some h⟩
theorem getW_none {S : List RowM} {n : List UInt8} (h : getW S n = none) : ∀ a ∈ S, a.name ≠ n := by
 unfold getW at h
 rw [List.find?_eq_none] at h
 intro a ha
 simpa using h a ha
theorem wpair_map_fst (S : List RowM) : (S.map RowM.pair).map (·.1) = S.map (·.name) := by rw [List.map_map]; rfl
theorem LMap.len {m : List (List UInt8 × Int)} {S : List RowM} (h : LMap m S) : m.length = S.length := by have := h.perm.length_eq; simpa using this.symm
theorem Led.nodup {S : List RowM} (h : Led S) : (S.map (·.name)).Nodup := by
 refine List.pairwise_map.2 (h.sorted.imp fun hlt e => ?_)
 exact ltN_irrefl _ (by rw [e] at hlt; exact hlt)
theorem LMap.nodup {m : List (List UInt8 × Int)} {S : List RowM} (h : LMap m S) : (m.map (·.1)).Nodup := (h.perm.map (·.1)).nodup_iff.1 (by rw [wpair_map_fst]; exact h.led.nodup)
theorem LMap.get {m : List (List UInt8 × Int)} {S : List RowM} (h : LMap m S) (n : List UInt8) : getM m n = (getW S n).map RowM.amount := by
 cases hg : getW S n with
 | none =>
  rw [Option.map_none]
  refine getM_none fun hx => ?_
  have hx := (h.perm.map (·.1)).mem_iff.2 hx
  rw [wpair_map_fst, List.mem_map] at hx
  obtain ⟨a, ha, e⟩ := hx
  exact getW_none hg a ha e
 | some a =>
  obtain ⟨ha, rfl⟩ := getW_some hg
  have hm : (a.name, a.amount) ∈ m := h.perm.mem_iff.1 (List.mem_map.2 ⟨a, ha, rfl⟩)
  obtain ⟨i, hi⟩ := List.getElem?_of_mem hm
  exact getM_at h.nodup hi rfl
theorem LMap.got_none {m : List (List UInt8 × Int)} {S : List RowM} (h : LMap m S) {n : List UInt8} (hg : getM m n = none) : getW S n = none := by
 rw [h.get] at hg; exact Option.map_eq_none_iff.1 hg
theorem LMap.got_some {m : List (List UInt8 × Int)} {S : List RowM} (h : LMap m S) {n : List UInt8} {x : Int} (hg : getM m n = some x) : getW S n = some ⟨n, x⟩ ∧ 0 ≤ x ∧ x ≤ 9223372036854775807 := by
 rw [h.get] at hg
 obtain ⟨a, h1, h2⟩ := Option.map_eq_some_iff.1 hg
 obtain ⟨h3, h4⟩ := getW_some h1
 have ho := h.led.ok a h3
 subst h2
 subst h4
 exact ⟨h1, ho.lo, ho.hi⟩
theorem insW_perm : ∀ (S : List RowM) (a : RowM), (insW S a).Perm (S ++ [a])
 | [], a => List.Perm.refl _
 | b :: S, a => by
  unfold insW
  split
  ·exact (insW_perm S a).cons b
  ·exact (List.perm_append_comm (l₁ := [a]) (l₂ := b :: S))
theorem insW_sorted : ∀ {S : List RowM} {a : RowM}, S.Pairwise (fun a b => ltN a.name b.name) → (∀ b ∈ S, b.name ≠ a.name) → (insW S a).Pairwise (fun a b => ltN a.name b.name)
 | [], a, _, _ => by simp [insW]
 | b :: S, a, h, hn => by
  rw [List.pairwise_cons] at h
  unfold insW
  split
  ·next hlt =>
   rw [List.pairwise_cons]
   refine ⟨fun c hc => ?_, insW_sorted h.2 fun c hc => hn c (List.mem_cons_of_mem _ hc)⟩
   rcases List.mem_append.1 ((insW_perm S a).mem_iff.1 hc) with hc | hc
   ·exact h.1 c hc
   ·rw [List.mem_singleton.1 hc]; exact hlt
  ·next hlt =>
   have hba : ltN a.name b.name := by
    rcases ltN_or b.name a.name with h1 | h1 | h1
    ·exact absurd h1 hlt
    ·exact absurd h1 (hn b (List.mem_cons_self ..))
    ·exact h1
   rw [List.pairwise_cons, List.pairwise_cons]
   refine ⟨fun c hc => ?_, h.1, h.2⟩
   rcases List.mem_cons.1 hc with rfl | hc
   ·exact hba
   ·exact ltN_trans hba (h.1 c hc)
theorem Led.ins {S : List RowM} {a : RowM} (h : Led S) (ha : a.Fit) (hg : getW S a.name = none) : Led (insW S a) where
 sorted := insW_sorted h.sorted (getW_none hg)
 ok b hb := by
  rcases List.mem_append.1 ((insW_perm S a).mem_iff.1 hb) with hb | hb
  ·exact h.ok b hb
  ·rw [List.mem_singleton.1 hb]; exact ha
theorem Led.set {S : List RowM} {n : List UInt8} {x : Int} (h : Led S) (h0 : 0 ≤ x ∧ x ≤ 9223372036854775807) : Led (setW S n x) where
 sorted := by
  unfold setW
  refine List.pairwise_map.2 (h.sorted.imp fun {a b} hlt => ?_)
  have e : ∀ c : RowM, (if c.name = n then (⟨n, x⟩ : RowM) else c).name = c.name := by
   intro c
   split
   ·next h => exact h.symm
   ·rfl
  rw [e, e]
  exact hlt
 ok b hb := by
  unfold setW at hb
  obtain ⟨c, hc, rfl⟩ := List.mem_map.1 hb
  split
  ·next hn => exact ⟨by rw [← hn]; exact (h.ok c hc).name, h0.1, h0.2⟩
  ·exact h.ok c hc
theorem LMap.ins {m : List (List UInt8 × Int)} {S : List RowM} (h : LMap m S) {n : List UInt8} (hn : nameOk n = true) (hg : getM m n = none) : LMap (putM m n 0) (insW S ⟨n, 0⟩) where
 led := h.led.ins ⟨hn, Int.le_refl 0, by show (0 : Int) ≤ 9223372036854775807; decide⟩ (h.got_none hg)
 perm := by
  unfold putM
  rw [if_neg (getM_not hg)]
  refine ((insW_perm S ⟨n, 0⟩).map RowM.pair).trans ?_
  rw [List.map_append]
  exact h.perm.append_right _
theorem LMap.set {m : List (List UInt8 × Int)} {S : List RowM} (h : LMap m S) {n : List UInt8} {y : Int} (hg : getM m n = some y) {x : Int} (h0 : 0 ≤ x ∧ x ≤ 9223372036854775807) : LMap (putM m n x) (setW S n x) where
 led := h.led.set h0
 perm := by
  unfold putM
  rw [if_pos (getM_key hg)]
  refine List.Perm.trans (List.Perm.of_eq ?_) (h.perm.map (fun y : List UInt8 × Int => if y.1 = n then (n, x) else y))
  unfold setW
  rw [List.map_map, List.map_map]
  refine List.map_congr_left fun b _ => ?_
  by_cases hb : b.name = n <;> simp [RowM.pair, hb]
theorem setW_len (S : List RowM) (n : List UInt8) (x : Int) : (setW S n x).length = S.length := List.length_map ..
theorem insW_len (S : List RowM) (a : RowM) : (insW S a).length = S.length + 1 := by rw [(insW_perm S a).length_eq, List.length_append]; rfl
theorem getM_put_ne {κ α : Type} [DecidableEq κ] {m : List (κ × α)} {x y : κ} {a : α} (h : y ≠ x) : getM (putM m x a) y = getM m y := by
 unfold putM getM
 by_cases hm : x ∈ m.map (·.1)
 ·rw [if_pos hm]
  clear hm
  congr 1
  induction m with
  | nil => rfl
  | cons z m ih =>
   rw [List.map_cons, List.find?_cons, List.find?_cons]
   by_cases hz : z.1 = x
   ·simp only [hz, if_true]
    rw [show decide (x = y) = false from decide_eq_false (fun q => h q.symm)]
    exact ih
   ·simp only [hz, if_false]
    by_cases hy : z.1 = y
    ·rw [decide_eq_true hy]
    ·rw [decide_eq_false hy]; exact ih
 ·rw [if_neg hm, List.find?_append]
  have : List.find? (fun z : κ × α => decide (z.1 = y)) [(x, a)] = none := by simp [Ne.symm h]
  rw [this, Option.or_none]
structure KeptM where
 op : Opm
 why : Int
def KeptM.id (k : KeptM) : List UInt8 × List UInt8 := (k.op.frm, k.op.key)
def keptv (k : KeptM) : Value := agg [i64 k.op.kind, .string (str k.op.frm), .string (str k.op.to), i64 k.op.amount, .string (str k.op.key), i64 k.op.slot, i64 k.op.shard, i64 k.why]
def ki64 (x : Int) : Value := i64 x
def KeptM.kv (k : KeptM) : (List UInt8 × List UInt8) × KeptM := (k.id, k)
def findK (K : List KeptM) (f k : List UInt8) : Option KeptM := getM (K.map KeptM.kv) (f, k)
structure KeptM.Ok (k : KeptM) : Prop where
 frm : nameOk k.op.frm = true
 key : nameOk k.op.key = true
 why : 0 ≤ k.why ∧ k.why ≤ 43
 kind : 1 ≤ k.op.kind ∧ k.op.kind ≤ 4
 amount : -9223372036854775808 ≤ k.op.amount ∧ k.op.amount ≤ 9223372036854775807
 to : k.op.to.length ≤ 24
structure Ledg (S : List RowM) (K : List KeptM) : Prop where
 led : Led S
 ids : (K.map KeptM.id).Nodup
 ok : ∀ k ∈ K, k.Ok
 le : S.length ≤ K.length
structure LBook (m : List (List UInt8 × Int)) (S : List RowM) (K : List KeptM) : Prop where
 ledg : Ledg S K
 perm : (S.map RowM.pair).Perm m
theorem LBook.lmap {m : List (List UInt8 × Int)} {S : List RowM} {K : List KeptM} (h : LBook m S K) : LMap m S := ⟨h.ledg.led, h.perm⟩
theorem Ledg.nil : Ledg [] [] := ⟨Led.nil, List.Pairwise.nil, fun a h => (by cases h), Nat.le_refl _⟩
theorem LBook.nil : LBook [] [] [] := ⟨Ledg.nil, List.Perm.refl _⟩
theorem kv_fst (K : List KeptM) : (K.map KeptM.kv).map (·.1) = K.map KeptM.id := by rw [List.map_map]; rfl
theorem findK_some {K : List KeptM} {f k : List UInt8} {x : KeptM} (h : findK K f k = some x) : x ∈ K ∧ x.op.frm = f ∧ x.op.key = k := by
 have h1 := getM_mem h
 obtain ⟨y, hy, e⟩ := List.mem_map.1 h1
 simp only [KeptM.kv, KeptM.id, Prod.mk.injEq] at e
 obtain ⟨⟨h2, h3⟩, rfl⟩ := e
 exact ⟨hy, h2, h3⟩
theorem findK_none {K : List KeptM} {f k : List UInt8} (h : findK K f k = none) : (f, k) ∉ K.map KeptM.id := by
 have := getM_not h
 rwa [kv_fst] at this
theorem putM_kept {K : List KeptM} {x : KeptM} (h : findK K x.op.frm x.op.key = none) : putM (K.map KeptM.kv) (x.op.frm, x.op.key) x = (K ++ [x]).map KeptM.kv := by
 unfold putM
 rw [if_neg (getM_not h), List.map_append]
 rfl
def actE (S : List RowM) (o : Opm) : Int :=
 if o.kind = 1 then (if (getW S o.frm).isSome then 41 else 0)
 else match getW S o.frm with
  | none => 40
  | some a =>
   if o.kind = 2 then (if 9223372036854775807 - o.amount < a.amount then 43 else 0)
   else if a.amount < o.amount then 42
   else if o.kind = 4 then (match getW S o.to with | none => 40 | some b => if 9223372036854775807 - o.amount < b.amount then 43 else 0)
   else 0
def actS (S : List RowM) (o : Opm) : List RowM :=
 if o.kind = 1 then (if (getW S o.frm).isSome then S else insW S ⟨o.frm, 0⟩)
 else match getW S o.frm with
  | none => S
  | some a =>
   if o.kind = 2 then (if 9223372036854775807 - o.amount < a.amount then S else setW S o.frm (a.amount + o.amount))
   else if a.amount < o.amount then S
   else if o.kind = 4 then (match getW S o.to with | none => S | some b => if 9223372036854775807 - o.amount < b.amount then S else setW (setW S o.to (b.amount + o.amount)) o.frm (a.amount - o.amount))
   else setW S o.frm (a.amount - o.amount)
def plainE (o : Opm) : Opm := ⟨o.kind, o.frm, if o.kind = 4 then o.to else [], if o.kind = 1 then 0 else o.amount, o.key, 0, 0⟩
def Fresh (K : List KeptM) (o : Opm) : Prop := wrongE o = 0 ∧ o.kind ≠ 7 ∧ o.kind ≠ 6 ∧ o.kind ≠ 5 ∧ findK K o.frm o.key = none
instance (K : List KeptM) (o : Opm) : Decidable (Fresh K o) := by
 unfold Fresh
 have : Decidable (findK K o.frm o.key = none) := decidable_of_iff ((findK K o.frm o.key).isNone = true) (by simp)
 infer_instance
def opEq (a b : Opm) : Bool := aggB a.cells b.cells
def doR (S : List RowM) (K : List KeptM) (o : Opm) : ReplyM :=
 if wrongE o ≠ 0 then ⟨wrongE o, 0, []⟩ else if o.kind = 7 then ⟨0, 0, []⟩ else if o.kind = 6 then ⟨0, 0, S⟩
 else if o.kind = 5 then (match getW S o.frm with | none => ⟨40, 0, []⟩ | some a => ⟨0, a.amount, []⟩)
 else match findK K o.frm o.key with
  | some k => if opEq k.op (plainE o) = false then ⟨45, 0, []⟩ else ⟨k.why, 0, []⟩
  | none => ⟨actE S (plainE o), 0, []⟩
def doS (S : List RowM) (K : List KeptM) (o : Opm) : List RowM := if Fresh K o then actS S (plainE o) else S
def doK (S : List RowM) (K : List KeptM) (o : Opm) : List KeptM := if Fresh K o then K ++ [⟨plainE o, actE S (plainE o)⟩] else K
section
variable {S : List RowM} {K : List KeptM} {o : Opm}
theorem do_wrong (h : wrongE o ≠ 0) : doR S K o = ⟨wrongE o, 0, []⟩ ∧ doS S K o = S ∧ doK S K o = K := ⟨if_pos h, if_neg fun q => h q.1, if_neg fun q => h q.1⟩
theorem do_move (h : wrongE o = 0) (h7 : o.kind = 7) : doR S K o = ⟨0, 0, []⟩ ∧ doS S K o = S ∧ doK S K o = K := ⟨by unfold doR; rw [if_neg (fun q => q h), if_pos h7], if_neg fun q => q.2.1 h7, if_neg fun q => q.2.1 h7⟩
theorem do_audit (h : wrongE o = 0) (h6 : o.kind = 6) : doR S K o = ⟨0, 0, S⟩ ∧ doS S K o = S ∧ doK S K o = K := ⟨by unfold doR; rw [if_neg (fun q => q h), if_neg (by omega), if_pos h6], if_neg fun q => q.2.2.1 h6, if_neg fun q => q.2.2.1 h6⟩
theorem do_bal_none (h : wrongE o = 0) (h5 : o.kind = 5) (hg : getW S o.frm = none) : doR S K o = ⟨40, 0, []⟩ ∧ doS S K o = S ∧ doK S K o = K :=
 ⟨by unfold doR; rw [if_neg (fun q => q h), if_neg (by omega), if_neg (by omega), if_pos h5, hg], if_neg fun q => q.2.2.2.1 h5, if_neg fun q => q.2.2.2.1 h5⟩
theorem do_bal_some (h : wrongE o = 0) (h5 : o.kind = 5) {a : RowM} (hg : getW S o.frm = some a) : doR S K o = ⟨0, a.amount, []⟩ ∧ doS S K o = S ∧ doK S K o = K :=
 ⟨by unfold doR; rw [if_neg (fun q => q h), if_neg (by omega), if_neg (by omega), if_pos h5, hg], if_neg fun q => q.2.2.2.1 h5, if_neg fun q => q.2.2.2.1 h5⟩
theorem do_other (h : wrongE o = 0) (h7 : o.kind ≠ 7) (h6 : o.kind ≠ 6) (h5 : o.kind ≠ 5) {k : KeptM} (hk : findK K o.frm o.key = some k) (he : opEq k.op (plainE o) = false) : doR S K o = ⟨45, 0, []⟩ ∧ doS S K o = S ∧ doK S K o = K :=
 ⟨by unfold doR; rw [if_neg (fun q => q h), if_neg h7, if_neg h6, if_neg h5, hk]; exact if_pos he, if_neg fun q => (by have := q.2.2.2.2; rw [hk] at this; cases this), if_neg fun q => (by have := q.2.2.2.2; rw [hk] at this; cases this)⟩
theorem do_again (h : wrongE o = 0) (h7 : o.kind ≠ 7) (h6 : o.kind ≠ 6) (h5 : o.kind ≠ 5) {k : KeptM} (hk : findK K o.frm o.key = some k) (he : opEq k.op (plainE o) = true) : doR S K o = ⟨k.why, 0, []⟩ ∧ doS S K o = S ∧ doK S K o = K :=
 ⟨by unfold doR; rw [if_neg (fun q => q h), if_neg h7, if_neg h6, if_neg h5, hk]; exact if_neg (by rw [he]; decide), if_neg fun q => (by have := q.2.2.2.2; rw [hk] at this; cases this), if_neg fun q => (by have := q.2.2.2.2; rw [hk] at this; cases this)⟩
theorem do_fresh (h : wrongE o = 0) (h7 : o.kind ≠ 7) (h6 : o.kind ≠ 6) (h5 : o.kind ≠ 5) (hk : findK K o.frm o.key = none) : doR S K o = ⟨actE S (plainE o), 0, []⟩ ∧ doS S K o = actS S (plainE o) ∧ doK S K o = K ++ [⟨plainE o, actE S (plainE o)⟩] :=
 ⟨by unfold doR; rw [if_neg (fun q => q h), if_neg h7, if_neg h6, if_neg h5, hk], if_pos ⟨h, h7, h6, h5, hk⟩, if_pos ⟨h, h7, h6, h5, hk⟩⟩
theorem wrong_act (h : wrongE o = 0) (h7 : o.kind ≠ 7) (h6 : o.kind ≠ 6) (h5 : o.kind ≠ 5) : (1 ≤ o.kind ∧ o.kind ≤ 4) ∧ nameOk o.frm = true ∧ nameOk o.key = true ∧ (o.kind ≠ 1 → 1 ≤ o.amount) ∧ (o.kind = 4 → nameOk o.to = true ∧ o.frm ≠ o.to) := by
 unfold wrongE at h
 rw [if_neg h6, if_neg h7] at h
 split at h
 ·cases h
 ·next h1 =>
  split at h
  ·cases h
  ·next h2 =>
   split at h
   ·cases h
   ·next h3 =>
    refine ⟨by omega, by simpa using h2, by simpa using h3, fun h1' => ?_, fun h4 => ?_⟩
    ·rw [if_neg h1'] at h
     split at h
     ·cases h
     ·split at h
      ·cases h
      ·omega
    ·rw [if_neg (by omega)] at h
     split at h
     ·cases h
     ·next h8 =>
      split at h
      ·cases h
      ·split at h
       ·cases h
       ·next h9 => exact ⟨by simpa using fun q => h8 ⟨h4, q⟩, fun q => h9 ⟨h4, q⟩⟩
theorem actE_range (S : List RowM) (o : Opm) : 0 ≤ actE S o ∧ actE S o ≤ 43 := by
 unfold actE
 repeat' split
 all_goals decide
theorem actS_len (S : List RowM) (o : Opm) : (actS S o).length ≤ S.length + 1 := by
 unfold actS
 repeat' split
 all_goals first | omega | (rw [insW_len]; exact Nat.le_refl _) | (rw [setW_len, setW_len]; omega) | (rw [setW_len]; omega)
theorem LBook.fresh {m m' : List (List UInt8 × Int)} (h : LBook m S K) (hw : wrongE o = 0) (h7 : o.kind ≠ 7) (h6 : o.kind ≠ 6) (h5 : o.kind ≠ 5) (hk : findK K o.frm o.key = none) (ho : -9223372036854775808 ≤ o.amount ∧ o.amount ≤ 9223372036854775807)
  (hm : LMap m' (actS S (plainE o))) : LBook m' (actS S (plainE o)) (K ++ [⟨plainE o, actE S (plainE o)⟩]) := by
 obtain ⟨q1, q2, q3, q4, q5⟩ := wrong_act hw h7 h6 h5
 refine ⟨⟨hm.led, ?_, ?_, ?_⟩, hm.perm⟩
 ·rw [List.map_append, List.nodup_append]
  refine ⟨h.ledg.ids, by simp, fun a ha b hb => ?_⟩
  rw [List.map_singleton, List.mem_singleton] at hb
  rintro rfl
  subst hb
  exact findK_none hk ha
 ·intro k hk2
  rcases List.mem_append.1 hk2 with hk2 | hk2
  ·exact h.ledg.ok k hk2
  ·rw [List.mem_singleton.1 hk2]
   refine ⟨q2, q3, actE_range _ _, q1, ?_, ?_⟩
   ·show -9223372036854775808 ≤ (if o.kind = 1 then 0 else o.amount) ∧ (if o.kind = 1 then 0 else o.amount) ≤ 9223372036854775807
    split
    ·decide
    ·exact ho
   ·show (if o.kind = 4 then o.to else []).length ≤ 24
    split
    ·next h4 => exact (nameOk_len (q5 h4).1).2
    ·exact Nat.zero_le _
 ·have h1 := actS_len S (plainE o)
  have h2 := h.ledg.le
  rw [List.length_append]
  simp only [List.length_singleton]
  omega
end
theorem plainE_amount (o : Opm) (h : o.kind ≠ 1) : (plainE o).amount = o.amount := if_neg h
theorem plainE_to (o : Opm) (h : o.kind = 4) : (plainE o).to = o.to := if_pos h
end Go.Q
namespace Go.Q
variable {P : Program} {n : Nat} {Q : Exit → Loc → World → Prop} {L : Loc} {w : World} {f : Func} {p : List Nat} {os : Array Oper} {i : Nat} {K : Loc → World → Prop}
theorem qs (h : wp P n (cd f (0 :: p)) (thn (wp P n (cd f (1 :: p)) Q) Q) L w) (hc : isSeq (cd f p) = true := by kernel_rfl) : wp P n (cd f p) Q L w := q_seq hc h
theorem qg (h : Ops P n (opsOf (cd f p)) 0 (Q .normal) L w) (hc : isRegion (cd f p) = true := by kernel_rfl) : wp P n (cd f p) Q L w := q_region hc h
theorem od (h : K L w) (hi : Nat.beq os.size i = true := by kernel_rfl) : Ops P n os i K L w := Ops.done hi h
theorem og (k : Nat) (R : Loc) (j : Nat) (hn : Ops P n os j K R w) (hj : Nat.beq (i + k) j = true := by kernel_rfl) (h : (match Go.Q.regs P n os k i L with | some L1 => restrict L1 (R.map Prod.fst) | none => none) = some R := by kernel_rfl) : Ops P n os i K L w := Ops.regs k R hj h hn
theorem Keeps.t0 {a b c : World} (h : Keeps none_ a b) (k : Keeps none_ b c) : Keeps none_ a c := h.trans k (fun _ _ h => h) (fun _ _ h => h)
theorem Has.k1 {a b : World} {x c : Nat} {o : Obj} (h : Has a x o) (k : Keeps (fun i => i = c) a b) (hn : x ≠ c) : Has b x o := h.keep k hn
theorem Keeps.t1 {U : Nat → Prop} {a b c : World} {x : Nat} (h : Keeps U a b) (k : Keeps (fun i => i = x) b c) (hx : x < a.heap.size → U x) : Keeps U a c := h.trans k (fun _ _ h => h) (fun i hi h => by subst h; exact hx hi)
theorem Keeps.tn {U : Nat → Prop} {a b c : World} (h : Keeps U a b) (k : Keeps none_ b c) : Keeps U a c := h.trans k (fun _ _ h => h) (fun _ _ h => h.elim)
end Go.Q
