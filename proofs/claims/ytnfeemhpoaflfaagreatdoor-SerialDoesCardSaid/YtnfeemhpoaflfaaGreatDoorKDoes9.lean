/- What the claim stands on, part 9: rules of the walk, contracts of the functions, plain laws. -/
import Derived.Test.YtnfeemhpoaflfaaGreatDoorKDoes6
import Derived.ChangeMaps5
import Derived.Test.YtnfeemhpoaflfaaGreatDoorKDoes5
import Derived.Test.YtnfeemhpoaflfaaGreatDoorKDoes8
import Derived.Test.YtnfeemhpoaflfaaGreatDoorProg
set_option linter.unusedVariables false
namespace Go.Q
open Go.ChangeShapes Go.WideShapes Go.ChangeAt Go.RowKit Go.Deep

def fieldOf? (P : Program) (fs : Array Field) (j : Nat) : Option TypeDesc := match fs[j]? with
  | some f => P.underlying f.type
  | none => none

section
variable {H : Type} {enc : TypeId × Value → H} {P : Program} {w : World} {base : Nat} {spare : Nat → Bool} {held : Bool}

theorem trod_cell {e : TypeId} {fs : Array Field} {m : Nat} {cs : List Value} {y : DataW H × List MemPlace} (he : P.underlying e = some (.struct fs)) (hone : oneCellFields P fs = true) (hC : P.cellsOf e = fs.size)
    (h : DataW.trod enc P w base spare held m e cs = some y) {j : Nat} {d : TypeDesc} (hk : fieldOf? P fs j = some d) :
    ∃ v m' t z, cs[j]? = some v ∧ P.underlying t = some d ∧ DataW.trod enc P w base spare held m' t [v] = some z := by
  obtain ⟨xs, m', hm, _, hlen, hxl, hf⟩ := DataW.trod_struct he h
  rw [hC] at hlen
  unfold fieldOf? at hk
  cases hfj : fs[j]? with
  | none => rw [hfj] at hk; cases hk
  | some f =>
    rw [hfj] at hk
    simp only at hk
    have hj : j < fs.size := (Array.getElem?_eq_some_iff.1 hfj).1
    obtain ⟨ho, hc⟩ := hone_of hone j _ hfj
    have h2 := hf j _ hfj
    rw [ho, hc] at h2
    have hone' : (cs.drop j).take 1 = [cs[j]'(by omega)] := by
      rw [List.drop_eq_getElem_cons (by omega)]
      rfl
    rw [hone', List.getElem?_eq_getElem (by omega : j < xs.length)] at h2
    exact ⟨_, _, _, _, List.getElem?_eq_getElem (by omega), hk, h2⟩
theorem cell_i64 {e : TypeId} {fs : Array Field} {m : Nat} {cs : List Value} {y : DataW H × List MemPlace} (he : P.underlying e = some (.struct fs)) (hone : oneCellFields P fs = true) (hC : P.cellsOf e = fs.size)
    (h : DataW.trod enc P w base spare held m e cs = some y) (j : Nat) (hk : fieldOf? P fs j = some (.int .i64)) : ∃ n : Int, cs[j]? = some (i64 n) ∧ -9223372036854775808 ≤ n ∧ n ≤ 9223372036854775807 := by
  obtain ⟨v, m', t, z, hv, ht, hz⟩ := trod_cell he hone hC h hk
  obtain ⟨n, hn, _, hw⟩ := DataW.trod_int ht hz
  simp only [List.cons.injEq, and_true] at hn
  exact ⟨n, by rw [hv, hn], wf_i64 hw⟩
theorem cell_str {e : TypeId} {fs : Array Field} {m : Nat} {cs : List Value} {y : DataW H × List MemPlace} (he : P.underlying e = some (.struct fs)) (hone : oneCellFields P fs = true) (hC : P.cellsOf e = fs.size)
    (h : DataW.trod enc P w base spare held m e cs = some y) (j : Nat) (hk : fieldOf? P fs j = some .string) : ∃ s : List UInt8, cs[j]? = some (.string (str s)) := by
  obtain ⟨v, m', t, z, hv, ht, hz⟩ := trod_cell he hone hC h hk
  obtain ⟨s, hs, _⟩ := DataW.trod_string ht hz
  simp only [List.cons.injEq, and_true] at hs
  exact ⟨s.toList, by rw [hv, hs, str_eta]⟩
theorem slice_trod {t e : TypeId} {v : Value} {fuel : Nat} {z : DataW H × List MemPlace} (ht : P.underlying t = some (.slice e)) (h : DataW.trod enc P w base spare held fuel t [v] = some z) : ∃ A n c, v = .slice A n c := by
  rcases open_slice ht h with ⟨hcs, _⟩ | ⟨a, len, cap', m, k, D, Pl, hcs, _⟩
  · simp only [List.cons.injEq, and_true] at hcs
    exact ⟨_, _, _, hcs⟩
  · simp only [List.cons.injEq, and_true] at hcs
    exact ⟨_, _, _, hcs⟩
/-- An operation that comes in. -/
theorem dec_op {e : TypeId} {fs : Array Field} {m : Nat} {cs : List Value} {y : DataW H × List MemPlace} (he : P.underlying e = some (.struct fs)) (hone : oneCellFields P fs = true) (hC : P.cellsOf e = fs.size) (h7 : fs.size = 7)
    (k0 : fieldOf? P fs 0 = some (.int .i64)) (k1 : fieldOf? P fs 1 = some .string) (k2 : fieldOf? P fs 2 = some .string) (k3 : fieldOf? P fs 3 = some (.int .i64)) (k4 : fieldOf? P fs 4 = some .string) (k5 : fieldOf? P fs 5 = some (.int .i64)) (k6 : fieldOf? P fs 6 = some (.int .i64))
    (hl : cs.length = fs.size) (h : DataW.trod enc P w base spare held m e cs = some y) : ∃ o : Opm, o.Ok ∧ cs = o.cells := by
  rw [h7] at hl
  match cs, hl with
  | [c0, c1, c2, c3, c4, c5, c6], _ =>
    obtain ⟨n0, e0, r0⟩ := cell_i64 he hone hC h 0 k0
    obtain ⟨s1, e1⟩ := cell_str he hone hC h 1 k1
    obtain ⟨s2, e2⟩ := cell_str he hone hC h 2 k2
    obtain ⟨n3, e3, r3⟩ := cell_i64 he hone hC h 3 k3
    obtain ⟨s4, e4⟩ := cell_str he hone hC h 4 k4
    obtain ⟨n5, e5, r5⟩ := cell_i64 he hone hC h 5 k5
    obtain ⟨n6, e6, r6⟩ := cell_i64 he hone hC h 6 k6
    obtain rfl : c0 = _ := Option.some.inj e0
    obtain rfl : c1 = _ := Option.some.inj e1
    obtain rfl : c2 = _ := Option.some.inj e2
    obtain rfl : c3 = _ := Option.some.inj e3
    obtain rfl : c4 = _ := Option.some.inj e4
    obtain rfl : c5 = _ := Option.some.inj e5
    obtain rfl : c6 = _ := Option.some.inj e6
    exact ⟨⟨n0, s1, s2, n3, s4, n5, n6⟩, ⟨r0, r3, r5, r6⟩, rfl⟩
theorem flat_models {α : Type} {f : α → List Value} {Good : α → Prop} : ∀ {css : List (List Value)}, (∀ cs ∈ css, ∃ x : α, Good x ∧ cs = f x) → ∃ l : List α, css.flatten = l.flatMap f ∧ l.length = css.length ∧ ∀ x ∈ l, Good x
  | [], _ => ⟨[], rfl, rfl, by simp⟩
  | cs :: css, h => by
    obtain ⟨x, hx, rfl⟩ := h cs (by simp)
    obtain ⟨l, hb, hl, hr⟩ := flat_models (css := css) fun c hc => h c (by simp [hc])
    refine ⟨x :: l, by rw [List.flatten_cons, hb, List.flatMap_cons], by simp [hl], fun y hy => ?_⟩
    rcases List.mem_cons.1 hy with rfl | hy
    · exact hx
    · exact hr y hy
/-- A slice of structs that comes in, by its elements' models. -/
theorem open_models {α : Type} (f : α → List Value) (Good : α → Prop) {t e : TypeId} {sz : Nat} {v : Value} {d : DataW H} {ps : List MemPlace} (ht : P.underlying t = some (.slice e)) (hC : P.cellsOf e = sz) (hsz : 0 < sz)
    (hv : ∃ A n c, v = .slice A n c) {fuel : Nat} (h : DataW.trod enc P w base spare held fuel t [v] = some (d, ps))
    (dec : ∀ (m : Nat) (cs : List Value) (y : DataW H × List MemPlace), cs.length = sz → DataW.trod enc P w base spare held m e cs = some y → ∃ x, Good x ∧ cs = f x) :
    ∃ l : List α, RdT w sz f v l ∧ (∀ x ∈ l, Good x) ∧ (l.length = 0 ∨ ∃ el sp, d = .slice el sp ∧ el.length = l.length) ∧ ∃ A c, v = .slice A l.length c := by
  obtain ⟨css, hr, hc, hd, A, c, hA⟩ := open_rows (fun cs => ∃ x, Good x ∧ cs = f x) ht hC hsz hv h dec
  obtain ⟨l, hb, hl, hg⟩ := flat_models fun cs hcs => (hc cs hcs).2
  refine ⟨l, by unfold RdT; rw [← hb]; exact hr, hg, ?_, A, c, by rw [hA, hl]⟩
  rcases hd with rfl | ⟨el, sp, h1, h2⟩
  · exact .inl (by simpa using hl)
  · exact .inr ⟨el, sp, h1, by omega⟩
def RowM.Ok (x : RowM) : Prop := -9223372036854775808 ≤ x.amount ∧ x.amount ≤ 9223372036854775807
end
end Go.Q
namespace Go.Q
open Go.ChangeShapes Go.WideShapes Go.ChangeAt Go.RowKit Go.Deep
def total (S : List AccM) : Int := (S.map (·.amt)).sum
def sumR (l : List RowM) : Int := (l.map (·.amount)).sum
theorem sumR_app (a b : List RowM) : sumR (a ++ b) = sumR a + sumR b := by unfold sumR; rw [List.map_append, List.sum_append]
theorem sumR_take {l : List RowM} {i : Nat} {r : RowM} (h : l[i]? = some r) : sumR (l.take (i + 1)) = sumR (l.take i) + r.amount := by
  rw [List.take_add_one, h, Option.toList_some, sumR_app]
  simp [sumR]
theorem sum_perm {l k : List Int} (h : l.Perm k) : l.sum = k.sum := by
  induction h with
  | nil => rfl
  | cons x _ ih => rw [List.sum_cons, List.sum_cons, ih]
  | swap x y l => simp only [List.sum_cons]; omega
  | trans _ _ h1 h2 => exact h1.trans h2
theorem rows_all (S : List AccM) : rowsS S (-1) = S.map AccM.row := by
  unfold rowsS
  rw [List.filter_eq_self.2 fun a _ => inSlot_t (.inl rfl)]
/-- A call of a book. -/
structure BopM where
  kind : Int
  name : List UInt8
  own : List UInt8
  n : Int
  slot : Int
def BopM.cells (x : BopM) : List Value := [i64 x.kind, .string (str x.name), .string (str x.own), i64 x.n, i64 x.slot]
structure BopM.Ok (x : BopM) : Prop where
  kind : -9223372036854775808 ≤ x.kind ∧ x.kind ≤ 9223372036854775807
  n : -9223372036854775808 ≤ x.n ∧ x.n ≤ 9223372036854775807
  slot : -9223372036854775808 ≤ x.slot ∧ x.slot ≤ 9223372036854775807
section
variable {H : Type} {enc : TypeId × Value → H} {P : Program} {w : World} {base : Nat} {spare : Nat → Bool} {held : Bool}
end
end Go.Q
namespace Go.Q
open Go.RowKit
theorem KeptM.ext_ {a b : KeptM} (h : a.op = b.op) (k : a.why = b.why) : a = b := by cases a; cases b; cases h; cases k; rfl
theorem opEq_iff (a b : Opm) : opEq a b = true ↔ a = b := by
  unfold opEq Opm.cells
  obtain ⟨a1, a2, a3, a4, a5, a6, a7⟩ := a
  obtain ⟨b1, b2, b3, b4, b5, b6, b7⟩ := b
  simp only [aggB, Bool.and_eq_true, cellB_str_iff, cellB_int_iff, and_true, Opm.mk.injEq]
theorem ledW_sub : ∀ {S R : List RowM}, S.Pairwise (fun a b => ltN a.name b.name) → R.Pairwise (fun a b => ltN a.name b.name) → (∀ a ∈ S, a ∈ R) → S.Sublist R
  | [], _, _, _, _ => List.nil_sublist _
  | a :: S, [], _, _, h => absurd (h a (List.mem_cons_self ..)) List.not_mem_nil
  | a :: S, b :: R, hS, hR, h => by
    have hS' := List.pairwise_cons.1 hS
    have hR' := List.pairwise_cons.1 hR
    by_cases hab : a = b
    · subst hab
      refine List.Sublist.cons_cons _ (ledW_sub hS'.2 hR'.2 fun c hc => ?_)
      rcases List.mem_cons.1 (h c (List.mem_cons_of_mem _ hc)) with rfl | hc2
      · exact absurd (hS'.1 _ hc) (ltN_irrefl _)
      · exact hc2
    · have haR : a ∈ R := (List.mem_cons.1 (h a (List.mem_cons_self ..))).resolve_left hab
      refine List.Sublist.cons _ (ledW_sub hS hR'.2 fun c hc => ?_)
      rcases List.mem_cons.1 hc with rfl | hc
      · exact haR
      · rcases List.mem_cons.1 (h c (List.mem_cons_of_mem _ hc)) with rfl | hc2
        · exact absurd (ltN_trans (hR'.1 _ haR) (hS'.1 _ hc)) (ltN_irrefl _)
        · exact hc2
theorem LMap.same {m k : List (List UInt8 × Int)} {S : List RowM} (h : LMap m S) (h2 : LMap k S) {x : List UInt8} {a : Int} (hm : (x, a) ∈ m) : getM k x = some a := by
  obtain ⟨b, hb, e⟩ := List.mem_map.1 (h.perm.mem_iff.2 hm)
  simp only [RowM.pair, Prod.mk.injEq] at e
  rw [h2.get, ← e.1, h.led.get_of hb, ← e.2]
  rfl
theorem LMap.eq {m k came : List (List UInt8 × Int)} {S R : List RowM} (h : LMap m S) (h2 : LMap k R) (hl : m.length = k.length) (hp : came.Perm m) (ha : ∀ y ∈ came, getM k y.1 = some y.2) : S = R := by
  refine (ledW_sub h.led.sorted h2.led.sorted fun a haS => ?_).eq_of_length (by rw [← h.len, ← h2.len]; exact hl)
  have hy := ha a.pair (hp.mem_iff.2 (h.perm.mem_iff.1 (List.mem_map.2 ⟨a, haS, rfl⟩)))
  have hg : (getW R a.name).map RowM.amount = some a.amount := by rw [← h2.get]; exact hy
  cases hr : getW R a.name with
  | none => rw [hr] at hg; cases hg
  | some b =>
    rw [hr] at hg
    obtain ⟨hb, hn⟩ := getW_some hr
    simp only [Option.map_some, Option.some.injEq] at hg
    have : b = a := by cases a; cases b; simp_all
    rw [← this]; exact hb
theorem perm_of_sub {α : Type} : ∀ {K R : List α}, K.Nodup → (∀ k ∈ K, k ∈ R) → K.length = R.length → K.Perm R
  | [], R, _, _, h => by rw [List.eq_nil_of_length_eq_zero h.symm]
  | a :: K, R, hn, hs, h => by
    obtain ⟨p, q, rfl⟩ := List.append_of_mem (hs a (List.mem_cons_self ..))
    rw [List.nodup_cons] at hn
    refine List.Perm.trans (List.Perm.cons a (perm_of_sub (R := p ++ q) hn.2 (fun k hk => ?_) ?_)) List.perm_middle.symm
    · have := hs k (List.mem_cons_of_mem _ hk)
      rcases List.mem_append.1 this with h1 | h1
      · exact List.mem_append_left _ h1
      · rcases List.mem_cons.1 h1 with rfl | h1
        · exact absurd hk hn.1
        · exact List.mem_append_right _ h1
    · simp only [List.length_cons, List.length_append] at h ⊢
      omega
theorem kept_same {K R : List KeptM} (hR : (R.map KeptM.id).Nodup) (h : K.Perm R) {x : List UInt8 × List UInt8} {a : KeptM} (hm : (x, a) ∈ K.map KeptM.kv) : getM (R.map KeptM.kv) x = some a := by
  have h2 := (h.map KeptM.kv).mem_iff.1 hm
  obtain ⟨i, hi⟩ := List.getElem?_of_mem h2
  exact getM_at (by rw [kv_fst]; exact hR) hi rfl
theorem kept_eq {K R : List KeptM} (hK : (K.map KeptM.id).Nodup) {came : List ((List UInt8 × List UInt8) × KeptM)} (hl : K.length = R.length) (hp : came.Perm (K.map KeptM.kv)) (ha : ∀ y ∈ came, getM (R.map KeptM.kv) y.1 = some y.2) : K.Perm R := by
  have hn : K.Nodup := List.Pairwise.of_map KeptM.id (fun a b h e => h (congrArg KeptM.id e)) hK
  have hs : ∀ k ∈ K, k ∈ R := by
    intro k hk
    have := getM_mem (ha k.kv (hp.mem_iff.2 (List.mem_map.2 ⟨k, hk, rfl⟩)))
    obtain ⟨y, hy, e⟩ := List.mem_map.1 this
    have e2 : y = k := congrArg Prod.snd e
    rw [← e2]; exact hy
  exact perm_of_sub hn hs hl

/-! ### structs with a struct within -/
theorem run_aggeqD {P : Program} {w : World} {t : TypeId} {xs ys : List Value} (d : Nat) (h : eqOk P t xs ys = true) : (Op.equalIn (d + 2) t (agg xs) (agg ys)).run P w = .ok (aggB xs ys) w := by
  unfold eqOk at h
  split at h
  · rename_i fs hu
    simp only [Bool.and_eq_true, Bool.not_eq_true'] at h
    have hf : P.fieldsOf t = fs := by simp [Program.fieldsOf, hu]
    rw [run_equalIn_agg w (d + 1) t _ _ (by rw [hf]; exact hu) h.2.1, hf]
    have := run_fields (P := P) (w := w) d fs.toList [] [] xs ys rfl h.1
    simpa using this
  · cases h
/-- Two structs of a struct (n cells) and a cell. -/
structure NestTy (P : Program) (t : TypeId) (f1 f2 : Field) (n : Nat) : Prop where
  und : P.underlying t = some (.struct #[f1, f2])
  n1 : f1.name ≠ "_"
  n2 : f2.name ≠ "_"
  o1 : f1.offset = 0
  o2 : f2.offset = n
  a1 : isAgg? P f1.type = some true
  z1 : ∀ w, (Go.sizeOf f1.type).run P w = .ok n w
  held : P.stoodInHeld t = false
  guard : P.eqGuardType P.depth t = false
theorem run_nest {P : Program} {w : World} {t : TypeId} {f1 f2 : Field} {n : Nat} (T : NestTy P t f1 f2 n) {xs ys : List Value} {x y : Value} (hx : xs.length = n) (hy : ys.length = n) (h1 : eqOk P f1.type xs ys = true) (h2 : cellFits P f2.type x y = true) :
    (Op.equalIn 10000 t (agg (xs ++ [x])) (agg (ys ++ [y]))).run P w = .ok (aggB xs ys && cellB x y) w := by
  have hf : P.fieldsOf t = #[f1, f2] := by simp [Program.fieldsOf, T.und]
  rw [run_equalIn_agg w 9999 t _ _ (by rw [hf]; exact T.und) T.held, hf]
  have hp := cellFits_plain h2
  have e1 : ∀ zs : List Value, zs.length = n → ∀ z, (part f1.type (zs ++ [z]).toArray f1.offset).run P w = .ok (agg zs) w := by
    intro zs hz z
    unfold part
    have hE : (zs ++ [z]).toArray.extract 0 (0 + n) = zs.toArray := by
      apply Array.ext'
      simp [← hz]
    simp [Sem.run_bind, run_isAgg T.a1, T.z1, T.o1, hE, Sem.run_pure, agg, Result.andThen]
    rw [← hz]
    simp
  have e2 : ∀ zs : List Value, zs.length = n → ∀ z, (part f2.type (zs ++ [z]).toArray f2.offset).run P w = .ok z w := by
    intro zs hz z
    exact run_part1 hp (by rw [T.o2, ← hz]; simp)
  have q1 := run_aggeqD (w := w) 9997 h1
  have q2 := run_cellEq (w := w) 9998 h2
  simp only [Op.eqFields, ne_eq, T.n1, T.n2, not_false_eq_true, if_true, Sem.run_bind, e1 xs hx x, e1 ys hy y, e2 xs hx x, e2 ys hy y, Result.andThen_ok, q1, q2, Sem.run_ite, Sem.run_pure]
  cases aggB xs ys <;> cases cellB x y <;> simp [Op.eqFields, Sem.run_pure]
theorem Runs.nestne {P : Program} {L : Loc} {o : Oper} {w : World} {t : TypeId} {f1 f2 : Field} {n : Nat} (T : NestTy P t f1 f2 n) {xs ys : List Value} {x y : Value} (hx : xs.length = n) (hy : ys.length = n) (h1 : eqOk P f1.type xs ys = true) (h2 : cellFits P f2.type x y = true)
    (h : bin? L o = some (.neq, t, agg (xs ++ [x]), agg (ys ++ [y]))) : Runs P L o w (.bool (!(aggB xs ys && cellB x y))) w := by
  refine Runs.bin h (fun a b => run_eqGuard_agg w .neq t a b _ _ T.guard) ?_
  show (binOp .neq t (.agg (xs ++ [x]).toArray) (.agg (ys ++ [y]).toArray)).run P w = _
  rw [run_neq_struct]
  have := run_nest (w := w) T hx hy h1 h2
  unfold agg at this
  rw [this]; rfl
theorem Runs.nestneE {P : Program} {L : Loc} {o : Oper} {w : World} {t t1 t2 : TypeId} {n : Nat} (T : ∃ f1 f2, NestTy P t f1 f2 n ∧ f1.type = t1 ∧ f2.type = t2) {xs ys : List Value} {x y : Value} (hx : xs.length = n) (hy : ys.length = n) (h1 : eqOk P t1 xs ys = true) (h2 : cellFits P t2 x y = true)
    (h : bin? L o = some (.neq, t, agg (xs ++ [x]), agg (ys ++ [y]))) : Runs P L o w (.bool (!(aggB xs ys && cellB x y))) w := by
  obtain ⟨f1, f2, T, rfl, rfl⟩ := T
  exact Runs.nestne T hx hy h1 h2 h
theorem kept_beq (a b : KeptM) : (aggB a.op.cells b.op.cells && cellB (i64 a.why) (i64 b.why)) = true ↔ a = b := by
  rw [Bool.and_eq_true]
  constructor
  · intro h
    exact KeptM.ext_ ((opEq_iff _ _).1 h.1) ((cellB_int_iff _ _ _).1 h.2)
  · rintro rfl
    exact ⟨(opEq_iff _ _).2 rfl, (cellB_int_iff _ _ _).2 rfl⟩

/-! ### sums -/
def sumE (S : List RowM) : Int × Int := if 9223372036854775807 < sumR S then (0, 43) else (sumR S, 0)
def sumP (m : List (List UInt8 × Int)) : Int := (m.map (·.2)).sum
theorem sumP_app (a b : List (List UInt8 × Int)) : sumP (a ++ b) = sumP a + sumP b := by unfold sumP; rw [List.map_append, List.sum_append]
theorem LMap.sum {m : List (List UInt8 × Int)} {S : List RowM} (h : LMap m S) : sumP m = sumR S := by
  unfold sumP sumR
  rw [← sum_perm (h.perm.map (·.2)), List.map_map]
  rfl
theorem sumP_nonneg {m : List (List UInt8 × Int)} (h : ∀ x ∈ m, 0 ≤ x.2) : 0 ≤ sumP m := by
  unfold sumP
  induction m with
  | nil => exact Int.le_refl 0
  | cons x m ih =>
    rw [List.map_cons, List.sum_cons]
    have h1 := h x (List.mem_cons_self ..)
    have h2 := ih fun y hy => h y (List.mem_cons_of_mem _ hy)
    omega
theorem LMap.nonneg {m : List (List UInt8 × Int)} {S : List RowM} (h : LMap m S) : ∀ x ∈ m, 0 ≤ x.2 ∧ x.2 ≤ 9223372036854775807 := by
  intro x hx
  obtain ⟨a, ha, rfl⟩ := List.mem_map.1 (h.perm.mem_iff.2 hx)
  exact ⟨(h.led.ok a ha).lo, (h.led.ok a ha).hi⟩
/-- What has come and what is to come of a map that is summed. -/
theorem LMap.parts {m came rest : List (List UInt8 × Int)} {S : List RowM} (h : LMap m S) (hp : (came ++ rest).Perm m) : sumP came + sumP rest = sumR S ∧ 0 ≤ sumP came ∧ 0 ≤ sumP rest ∧ ∀ x ∈ rest, 0 ≤ x.2 ∧ x.2 ≤ 9223372036854775807 := by
  have h1 : sumP (came ++ rest) = sumR S := by rw [← h.sum]; exact sum_perm (hp.map (·.2))
  rw [sumP_app] at h1
  have hn := h.nonneg
  exact ⟨h1, sumP_nonneg fun x hx => (hn x (hp.mem_iff.1 (List.mem_append_left _ hx))).1, sumP_nonneg fun x hx => (hn x (hp.mem_iff.1 (List.mem_append_right _ hx))).1, fun x hx => hn x (hp.mem_iff.1 (List.mem_append_right _ hx))⟩
theorem sumP_one {p q : List (List UInt8 × Int)} {x : List UInt8} {a : Int} : sumP (p ++ (x, a) :: q) = a + sumP (p ++ q) := by
  rw [sumP_app, sumP_app]
  show sumP p + (a + sumP q) = _
  omega
theorem Led.nonneg {S : List RowM} (h : Led S) : 0 ≤ sumR S := by
  unfold sumR
  have := h.ok
  clear h
  induction S with
  | nil => exact Int.le_refl 0
  | cons x S ih =>
    rw [List.map_cons, List.sum_cons]
    have h1 := (this x (List.mem_cons_self ..)).lo
    have h2 := ih fun y hy => this y (List.mem_cons_of_mem _ hy)
    omega
end Go.Q
namespace Go.Proofs.YtnfeemhpoaflfaaGreatDoor
open Go.Q Go.RowKit

theorem Sum_calls (w : World) (b mb kb : Nat) (m : List (List UInt8 × Int)) (S : List RowM) (K : List KeptM) (Hb : Has w b (rowL [.map (some mb), .map (some kb)] 54)) (Hm : HasMap w mb kstr ki64 m) (Hk : HasMap w kb kpair keptv (K.map KeptM.kv)) (hne : b ≠ mb ∧ b ≠ kb ∧ mb ≠ kb) (hB : LBook m S K) : Calls Tryz.prog 14 ⟨[(ptr b)]⟩ w (fun e w' => e = .returned (.tuple #[i64 (sumE S).1, i64 (sumE S).2]) ∧ Keeps none_ w w') := by
 have Hbl := Hb.lt
 have Hml := Hm.lt
 have Hkl := Hk.lt
 have hL := hB.lmap
 have K0 : Keeps none_ w w := Keeps.refl w
 refine q_calls Tryz.func14 (by kernel_rfl) (by kernel_rfl) ?_
 refine qs ?_
 refine qg ?_
 refine og 2 [(0, (ptr b)), (2, (i64 0)), (3, (i64 0))] 2 ?_
 refine od ?_
 refine qs ?_
 refine qs ?_
 refine qg ?_
 refine og 2 [(0, (ptr b)), (2, (i64 0)), (3, (i64 0)), (8, (Value.bool false))] 2 ?_
 refine od ?_
 refine q_else (o := .tmp 8) (by kernel_rfl) rfl ?_
 refine q_skip (by kernel_rfl) ?_
 refine qs ?_
 refine qg ?_
 refine og 1 [(0, (ptr b)), (2, (i64 0)), (3, (i64 0)), (4, (i64 0))] 1 ?_
 refine od ?_
 refine qs ?_
 refine qs ?_
 refine qg ?_
 refine og 3 [(2, (i64 0)), (3, (i64 0)), (4, (i64 0)), (11, (ptr b))] 3 ?_
 refine Ops.go (v := (Value.map (some mb))) (by kernel_rfl) (Runs.load (t := 51) (a := ⟨b, 0, none⟩) (by kernel_rfl) (Hb.loads (by kernel_rfl))) (d := (some 12)) (by kernel_rfl) rfl ?_
 obtain ⟨it1, w2, hr3, K4, hq5, H6⟩ := HasMap.range (P := Tryz.prog) (t := 51) Tryz.underlying51 Hm
 refine Ops.go (v := (ptr it1)) (by kernel_rfl) (Runs.of_range (by kernel_rfl) hr3) (d := (some 13)) (by kernel_rfl) rfl ?_
 have lit1b : b < it1 := by have := Hb.lt; omega
 have lit1mb : mb < it1 := by have := Hm.lt; omega
 have lit1kb : kb < it1 := by have := Hk.lt; omega
 have nit1 : w.heap.size ≤ it1 := by have := K0.size; omega
 replace K0 := K0.t0 K4
 replace Hb := Hb.keep K4 (fun h => h)
 replace Hm := Hm.keep K4 (fun h => h)
 replace Hk := Hk.keep K4 (fun h => h)
 clear K4 hr3
 refine od ?_
 refine q_block (id := 0) (by kernel_rfl) ?_
 refine q_keep (R := [(4, (i64 0)), (13, (ptr it1))]) (by kernel_rfl) ?_
 refine q_loop (fun (gs : (List (List UInt8 × Int)) × (List (List UInt8 × Int)) × (Option (List UInt8 × Int))) L (wx : World) => match gs with | (came, rest, last) => L = [(4, (i64 (sumP came))), (13, (ptr it1))] ∧ (came ++ rest).Perm m ∧ sumP came ≤ 9223372036854775807 ∧ Keeps none_ w wx ∧ Has wx b (rowL [(Value.map (some mb)), (Value.map (some kb))] 54) ∧ HasMap wx mb kstr ki64 m ∧ HasMap wx kb kpair keptv (K.map KeptM.kv) ∧ IterM wx it1 mb kstr ki64 m rest last) (fun (gs : (List (List UInt8 × Int)) × (List (List UInt8 × Int)) × (Option (List UInt8 × Int))) => match gs with | (came, rest, last) => rest.length) ([], m, none) (by kernel_rfl) ⟨rfl, (List.Perm.refl _), (show sumP ([] : List (List UInt8 × Int)) ≤ 9223372036854775807 from by decide), K0, Hb, Hm, Hk, H6⟩ ?_
 clear Hb Hm Hk H6 K0
 rintro ⟨came, rest, last⟩ _ w7 ⟨rfl, hp, hle, K8, H9, H10, H11, H12⟩
 refine qs ?_
 refine qg ?_
 rcases IterM.next (P := Tryz.prog) H12 0 with ⟨hn22, hr19⟩ | ⟨x13, a14, p15, q16, w17, hs18, hr19, K20, H21⟩
 ·skip
  refine Ops.go (v := (Value.tuple #[(Value.bool false)])) (by kernel_rfl) (Runs.of_next (by kernel_rfl) hr19) (d := (some 14)) (by kernel_rfl) rfl ?_
  clear hr19
  refine og 1 [(4, (i64 (sumP came))), (13, (ptr it1)), (15, (Value.bool false))] 2 ?_
  refine od ?_
  refine qs ?_
  refine q_else (o := .tmp 15) (by kernel_rfl) rfl ?_
  refine q_exit (id := 0) (by kernel_rfl) ?_
  refine qs ?_
  refine qg ?_
  refine og 3 [(2, (i64 (sumP came))), (3, (i64 0))] 3 ?_
  refine od ?_
  refine q_ret (by kernel_rfl) ?_
  refine ⟨(Value.tuple #[(i64 (sumP came)), (i64 0)]), retv_tmp2 rfl rfl rfl, ?_⟩
  have he : sumP came = sumR S := by have h := (hL.parts hp).1; rw [hn22] at h; simpa [sumP] using h
  exact ⟨by unfold sumE; rw [if_neg (by omega), he], K8⟩
 ·skip
  refine Ops.go (v := (Value.tuple #[(Value.bool true), (Value.string (str x13)), (i64 a14)])) (by kernel_rfl) (Runs.of_next (by kernel_rfl) hr19) (d := (some 14)) (by kernel_rfl) rfl ?_
  replace H21 := H21 (by omega)
  clear H12
  replace K8 := K8.trans K20 (U := none_) (fun i h1 h2 => h2) (fun i h1 h2 => by have h2 : i = it1 := h2; exfalso; omega)
  replace H9 := H9.keep K20 (by intro h; change b = it1 at h; omega)
  replace H10 := H10.keep K20 (by intro h; change mb = it1 at h; omega)
  replace H11 := H11.keep K20 (by intro h; change kb = it1 at h; omega)
  clear K20 hr19
  obtain ⟨hs1, hs2, hs3, hs4⟩ := hL.parts hp
  have hs5 := hs4 (x13, a14) (by rw [hs18]; simp)
  have hs6 : sumP rest = a14 + sumP (p15 ++ q16) := by rw [hs18]; exact sumP_one
  have hp2 := came_perm (m := m) (s := came) (p := p15) (q := q16) (x := (x13, a14)) (by rw [← hs18]; exact hp)
  obtain ⟨hs7, hs8, hs9, _⟩ := hL.parts hp2
  have hs10 : sumP (came ++ [(x13, a14)]) = sumP came + a14 := by rw [sumP_app]; simp [sumP]
  simp only at hs5
  have hln := congrArg List.length hs18
  rw [List.length_append, List.length_cons] at hln
  refine og 1 [(4, (i64 (sumP came))), (13, (ptr it1)), (15, (Value.bool true))] 2 ?_
  refine od ?_
  refine qs ?_
  refine q_then (o := .tmp 15) (by kernel_rfl) rfl ?_
  refine q_skip (by kernel_rfl) ?_
  refine q_block (id := 1) (by kernel_rfl) ?_
  refine qs ?_
  refine qg ?_
  refine Ops.go (v := (Value.tuple #[(Value.string (str x13)), (i64 a14)])) (by kernel_rfl) (Runs.of_entry (by kernel_rfl) (IterM.entry (kf := kstr) (vf := ki64) (x := x13) (a := a14) H21)) (d := (some 16)) (by kernel_rfl) rfl ?_
  refine og 2 [(4, (i64 (sumP came))), (6, (i64 a14)), (13, (ptr it1)), (15, (Value.bool true))] 3 ?_
  refine od ?_
  refine qs ?_
  refine qs ?_
  refine qg ?_
  refine og 3 [(4, (i64 (sumP came))), (6, (i64 a14)), (13, (ptr it1)), (15, (Value.bool true)), (18, (i64 a14)), (20, (i64 (IntKind.i64.wrap (9223372036854775807 - (sumP came)))))] 3 ?_
  have e23 : IntKind.i64.wrap (9223372036854775807 - (sumP came)) = 9223372036854775807 - (sumP came) := wrap_i64 (by omega) (by omega)
  rw [e23]
  refine og 1 [(4, (i64 (sumP came))), (6, (i64 a14)), (13, (ptr it1)), (15, (Value.bool true)), (21, (Value.bool (decide (a14 > 9223372036854775807 - (sumP came)))))] 4 ?_
  refine od ?_
  refine q_cond (o := .tmp 21) (b := (decide (a14 > 9223372036854775807 - (sumP came)))) (by kernel_rfl) rfl (fun h24 => ?_) (fun h24 => ?_)
  ·rw [h24]
   have p25 : a14 > 9223372036854775807 - (sumP came) := of_decide_eq_true h24
   refine qs ?_
   refine qg ?_
   refine og 2 [(2, (i64 0)), (3, (i64 43)), (4, (i64 (sumP came))), (6, (i64 a14)), (13, (ptr it1)), (15, (Value.bool true)), (21, (Value.bool true))] 2 ?_
   refine od ?_
   refine q_ret (by kernel_rfl) ?_
   refine ⟨(Value.tuple #[(i64 0), (i64 43)]), retv_tmp2 rfl rfl rfl, ?_⟩
   exact ⟨by unfold sumE; rw [if_pos (by omega)], K8⟩
  ·rw [h24]
   have p26 : ¬ (a14 > 9223372036854775807 - (sumP came)) := of_decide_eq_false h24
   refine q_skip (by kernel_rfl) ?_
   refine qg ?_
   refine og 3 [(4, (i64 (sumP came))), (6, (i64 a14)), (13, (ptr it1)), (15, (Value.bool true)), (21, (Value.bool false)), (24, (i64 (IntKind.i64.wrap ((sumP came) + a14))))] 3 ?_
   have e27 : IntKind.i64.wrap ((sumP came) + a14) = (sumP came) + a14 := wrap_i64 (by omega) (by omega)
   rw [e27]
   refine og 1 [(4, (i64 ((sumP came) + a14))), (6, (i64 a14)), (13, (ptr it1)), (15, (Value.bool true)), (21, (Value.bool false))] 4 ?_
   rw [show sumP came + a14 = sumP (came ++ [(x13, a14)]) from hs10.symm]
   refine Ops.keep (R := [(4, (i64 (sumP (came ++ [(x13, a14)])))), (13, (ptr it1))]) (by kernel_rfl) ?_
   refine od ?_
   exact ⟨(came ++ [(x13, a14)], p15 ++ q16, some (x13, a14)), ⟨rfl, hp2, (by omega), K8, H9, H10, H11, H21⟩, (show (p15 ++ q16).length < rest.length from by rw [List.length_append]; omega)⟩
end Go.Proofs.YtnfeemhpoaflfaaGreatDoor
