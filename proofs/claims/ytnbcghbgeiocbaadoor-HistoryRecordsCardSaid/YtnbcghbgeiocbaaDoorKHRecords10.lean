/- What the claim stands on, part 10: rules of the walk, contracts of the functions, plain laws. -/
import Derived.Test.YtnbcghbgeiocbaaDoorKHRecords6
import Derived.ChangeMaps5
import Derived.Test.YtnbcghbgeiocbaaDoorKHRecords5
import Derived.Test.YtnbcghbgeiocbaaDoorKHRecords8
import Derived.Test.YtnbcghbgeiocbaaDoorKHRecords9
import Derived.Test.YtnbcghbgeiocbaaDoorKHRecords4
import Derived.Lib.AppendStr
set_option linter.unusedVariables false
namespace Go.Q
open Go.ChangeShapes Go.WideShapes Go.ChangeAt Go.RowKit Go.Deep
def fieldOf? (P : Program) (fs : Array Field) (j : Nat) : Option TypeDesc := match fs[j]? with
 | some f => P.underlying f.type
 | none => none
section
variable {H : Type} {enc : TypeId × Value → H} {P : Program} {w : World} {base : Nat} {spare : Nat → Bool} {held : Bool}
theorem trod_cell {e : TypeId} {fs : Array Field} {m : Nat} {cs : List Value} {y : DataW H × List MemPlace} (he : P.underlying e = some (.struct fs)) (hone : oneCellFields P fs = true) (hC : P.cellsOf e = fs.size)
  (h : DataW.trod enc P w base spare held m e cs = some y) {j : Nat} {d : TypeDesc} (hk : fieldOf? P fs j = some d) :
  ∃ v m' t z, cs[j]? = some v ∧ P.underlying t = some d ∧ DataW.trod enc P w base spare held m' t [v] = some z := by
 obtain ⟨xs, m', hm, _, hlen, hxl, hf⟩ := DataW.trod_struct he h
 rw [hC] at hlen
 unfold fieldOf? at hk
 cases hfj : fs[j]? with
 | none => rw [hfj] at hk; cases hk
 | some f =>
  rw [hfj] at hk
  simp only at hk
  have hj : j < fs.size := (Array.getElem?_eq_some_iff.1 hfj).1
  obtain ⟨ho, hc⟩ := hone_of hone j _ hfj
  have h2 := hf j _ hfj
  rw [ho, hc] at h2
  have hone' : (cs.drop j).take 1 = [cs[j]'(by omega)] := by
   rw [List.drop_eq_getElem_cons (by omega)]
   rfl
  rw [hone', List.getElem?_eq_getElem (by omega : j < xs.length)] at h2
  exact ⟨_, _, _, _, List.getElem?_eq_getElem (by omega), hk, h2⟩
theorem cell_i64 {e : TypeId} {fs : Array Field} {m : Nat} {cs : List Value} {y : DataW H × List MemPlace} (he : P.underlying e = some (.struct fs)) (hone : oneCellFields P fs = true) (hC : P.cellsOf e = fs.size)
  (h : DataW.trod enc P w base spare held m e cs = some y) (j : Nat) (hk : fieldOf? P fs j = some (.int .i64)) : ∃ n : Int, cs[j]? = some (i64 n) ∧ -9223372036854775808 ≤ n ∧ n ≤ 9223372036854775807 := by
 obtain ⟨v, m', t, z, hv, ht, hz⟩ := trod_cell he hone hC h hk
 obtain ⟨n, hn, _, hw⟩ := DataW.trod_int ht hz
 simp only [List.cons.injEq, and_true] at hn
 exact ⟨n, by rw [hv, hn], wf_i64 hw⟩
theorem cell_str {e : TypeId} {fs : Array Field} {m : Nat} {cs : List Value} {y : DataW H × List MemPlace} (he : P.underlying e = some (.struct fs)) (hone : oneCellFields P fs = true) (hC : P.cellsOf e = fs.size)
  (h : DataW.trod enc P w base spare held m e cs = some y) (j : Nat) (hk : fieldOf? P fs j = some .string) : ∃ s : List UInt8, cs[j]? = some (.string (str s)) := by
 obtain ⟨v, m', t, z, hv, ht, hz⟩ := trod_cell he hone hC h hk
 obtain ⟨s, hs, _⟩ := DataW.trod_string ht hz
 simp only [List.cons.injEq, and_true] at hs
 exact ⟨s.toList, by rw [hv, hs, str_eta]⟩
theorem slice_trod {t e : TypeId} {v : Value} {fuel : Nat} {z : DataW H × List MemPlace} (ht : P.underlying t = some (.slice e)) (h : DataW.trod enc P w base spare held fuel t [v] = some z) : ∃ A n c, v = .slice A n c := by
 rcases open_slice ht h with ⟨hcs, _⟩ | ⟨a, len, cap', m, k, D, Pl, hcs, _⟩
 ·simp only [List.cons.injEq, and_true] at hcs
  exact ⟨_, _, _, hcs⟩
 ·simp only [List.cons.injEq, and_true] at hcs
  exact ⟨_, _, _, hcs⟩
theorem dec_op {e : TypeId} {fs : Array Field} {m : Nat} {cs : List Value} {y : DataW H × List MemPlace} (he : P.underlying e = some (.struct fs)) (hone : oneCellFields P fs = true) (hC : P.cellsOf e = fs.size) (h7 : fs.size = 7)
  (k0 : fieldOf? P fs 0 = some (.int .i64)) (k1 : fieldOf? P fs 1 = some .string) (k2 : fieldOf? P fs 2 = some .string) (k3 : fieldOf? P fs 3 = some (.int .i64)) (k4 : fieldOf? P fs 4 = some .string) (k5 : fieldOf? P fs 5 = some (.int .i64)) (k6 : fieldOf? P fs 6 = some (.int .i64))
  (hl : cs.length = fs.size) (h : DataW.trod enc P w base spare held m e cs = some y) : ∃ o : Opm, o.Ok ∧ cs = o.cells := by
 rw [h7] at hl
 match cs, hl with
 | [c0, c1, c2, c3, c4, c5, c6], _ =>
  obtain ⟨n0, e0, r0⟩ := cell_i64 he hone hC h 0 k0
  obtain ⟨s1, e1⟩ := cell_str he hone hC h 1 k1
  obtain ⟨s2, e2⟩ := cell_str he hone hC h 2 k2
  obtain ⟨n3, e3, r3⟩ := cell_i64 he hone hC h 3 k3
  obtain ⟨s4, e4⟩ := cell_str he hone hC h 4 k4
  obtain ⟨n5, e5, r5⟩ := cell_i64 he hone hC h 5 k5
  obtain ⟨n6, e6, r6⟩ := cell_i64 he hone hC h 6 k6
  obtain rfl : c0 = _ := Option.some.inj e0
  obtain rfl : c1 = _ := Option.some.inj e1
  obtain rfl : c2 = _ := Option.some.inj e2
  obtain rfl : c3 = _ := Option.some.inj e3
  obtain rfl : c4 = _ := Option.some.inj e4
  obtain rfl : c5 = _ := Option.some.inj e5
  obtain rfl : c6 = _ := Option.some.inj e6
  exact ⟨⟨n0, s1, s2, n3, s4, n5, n6⟩, ⟨r0, r3, r5, r6⟩, rfl⟩
theorem flat_models {α : Type} {f : α → List Value} {Good : α → Prop} : ∀ {css : List (List Value)}, (∀ cs ∈ css, ∃ x : α, Good x ∧ cs = f x) → ∃ l : List α, css.flatten = l.flatMap f ∧ l.length = css.length ∧ ∀ x ∈ l, Good x
 | [], _ => ⟨[], rfl, rfl, by simp⟩
 | cs :: css, h => by
  obtain ⟨x, hx, rfl⟩ := h cs (by simp)
  obtain ⟨l, hb, hl, hr⟩ := flat_models (css := css) fun c hc => h c (by simp [hc])
  refine ⟨x :: l, by rw [List.flatten_cons, hb, List.flatMap_cons], by simp [hl], fun y hy => ?_⟩
  rcases List.mem_cons.1 hy with rfl | hy
  ·exact hx
  ·exact hr y hy
theorem open_models {α : Type} (f : α → List Value) (Good : α → Prop) {t e : TypeId} {sz : Nat} {v : Value} {d : DataW H} {ps : List MemPlace} (ht : P.underlying t = some (.slice e)) (hC : P.cellsOf e = sz) (hsz : 0 < sz)
  (hv : ∃ A n c, v = .slice A n c) {fuel : Nat} (h : DataW.trod enc P w base spare held fuel t [v] = some (d, ps))
  (dec : ∀ (m : Nat) (cs : List Value) (y : DataW H × List MemPlace), cs.length = sz → DataW.trod enc P w base spare held m e cs = some y → ∃ x, Good x ∧ cs = f x) :
  ∃ l : List α, RdT w sz f v l ∧ (∀ x ∈ l, Good x) ∧ (l.length = 0 ∨ ∃ el sp, d = .slice el sp ∧ el.length = l.length) ∧ ∃ A c, v = .slice A l.length c := by
 obtain ⟨css, hr, hc, hd, A, c, hA⟩ := open_rows (fun cs => ∃ x, Good x ∧ cs = f x) ht hC hsz hv h dec
 obtain ⟨l, hb, hl, hg⟩ := flat_models fun cs hcs => (hc cs hcs).2
 refine ⟨l, by unfold RdT; rw [← hb]; exact hr, hg, ?_, A, c, by rw [hA, hl]⟩
 rcases hd with rfl | ⟨el, sp, h1, h2⟩
 ·exact .inl (by simpa using hl)
 ·exact .inr ⟨el, sp, h1, by omega⟩
def RowM.Ok (x : RowM) : Prop := -9223372036854775808 ≤ x.amount ∧ x.amount ≤ 9223372036854775807
theorem dec_row {e : TypeId} {fs : Array Field} {m : Nat} {cs : List Value} {y : DataW H × List MemPlace} (he : P.underlying e = some (.struct fs)) (hone : oneCellFields P fs = true) (hC : P.cellsOf e = fs.size) (h2 : fs.size = 2)
  (k0 : fieldOf? P fs 0 = some .string) (k1 : fieldOf? P fs 1 = some (.int .i64)) (hl : cs.length = 2) (h : DataW.trod enc P w base spare held m e cs = some y) : ∃ x : RowM, x.Ok ∧ cs = x.cells := by
 match cs, hl with
 | [c0, c1], _ =>
  obtain ⟨s0, e0⟩ := cell_str he hone hC h 0 k0
  obtain ⟨n1, e1, r1⟩ := cell_i64 he hone hC h 1 k1
  obtain rfl : c0 = _ := Option.some.inj e0
  obtain rfl : c1 = _ := Option.some.inj e1
  exact ⟨⟨s0, n1⟩, r1, rfl⟩
end
end Go.Q
namespace Go.Q
open Go.ChangeShapes Go.WideShapes Go.ChangeAt Go.RowKit Go.Deep
def total (S : List AccM) : Int := (S.map (·.amt)).sum
def sumR (l : List RowM) : Int := (l.map (·.amount)).sum
theorem sum_perm {l k : List Int} (h : l.Perm k) : l.sum = k.sum := by
 induction h with
 | nil => rfl
 | cons x _ ih => rw [List.sum_cons, List.sum_cons, ih]
 | swap x y l => simp only [List.sum_cons]; omega
 | trans _ _ h1 h2 => exact h1.trans h2
structure BopM where
 kind : Int
 name : List UInt8
 own : List UInt8
 n : Int
 slot : Int
def BopM.cells (x : BopM) : List Value := [i64 x.kind, .string (str x.name), .string (str x.own), i64 x.n, i64 x.slot]
structure BopM.Ok (x : BopM) : Prop where
 kind : -9223372036854775808 ≤ x.kind ∧ x.kind ≤ 9223372036854775807
 n : -9223372036854775808 ≤ x.n ∧ x.n ≤ 9223372036854775807
 slot : -9223372036854775808 ≤ x.slot ∧ x.slot ≤ 9223372036854775807
section
variable {H : Type} {enc : TypeId × Value → H} {P : Program} {w : World} {base : Nat} {spare : Nat → Bool} {held : Bool}
end
end Go.Q
namespace Go.Q
open Go.RowKit
theorem KeptM.ext_ {a b : KeptM} (h : a.op = b.op) (k : a.why = b.why) : a = b := by cases a; cases b; cases h; cases k; rfl
theorem opEq_iff (a b : Opm) : opEq a b = true ↔ a = b := by
 unfold opEq Opm.cells
 obtain ⟨a1, a2, a3, a4, a5, a6, a7⟩ := a
 obtain ⟨b1, b2, b3, b4, b5, b6, b7⟩ := b
 simp only [aggB, Bool.and_eq_true, cellB_str_iff, cellB_int_iff, and_true, Opm.mk.injEq]
theorem ledW_sub : ∀ {S R : List RowM}, S.Pairwise (fun a b => ltN a.name b.name) → R.Pairwise (fun a b => ltN a.name b.name) → (∀ a ∈ S, a ∈ R) → S.Sublist R
 | [], _, _, _, _ => List.nil_sublist _
 | a :: S, [], _, _, h => absurd (h a (List.mem_cons_self ..)) List.not_mem_nil
 | a :: S, b :: R, hS, hR, h => by
  have hS' := List.pairwise_cons.1 hS
  have hR' := List.pairwise_cons.1 hR
  by_cases hab : a = b
  ·subst hab
   refine List.Sublist.cons_cons _ (ledW_sub hS'.2 hR'.2 fun c hc => ?_)
   rcases List.mem_cons.1 (h c (List.mem_cons_of_mem _ hc)) with rfl | hc2
   ·exact absurd (hS'.1 _ hc) (ltN_irrefl _)
   ·exact hc2
  ·have haR : a ∈ R := (List.mem_cons.1 (h a (List.mem_cons_self ..))).resolve_left hab
   refine List.Sublist.cons _ (ledW_sub hS hR'.2 fun c hc => ?_)
   rcases List.mem_cons.1 hc with rfl | hc
   ·exact haR
   ·rcases List.mem_cons.1 (h c (List.mem_cons_of_mem _ hc)) with rfl | hc2
    ·exact absurd (ltN_trans (hR'.1 _ haR) (hS'.1 _ hc)) (ltN_irrefl _)
    ·exact hc2
theorem LMap.same {m k : List (List UInt8 × Int)} {S : List RowM} (h : LMap m S) (h2 : LMap k S) {x : List UInt8} {a : Int} (hm : (x, a) ∈ m) : getM k x = some a := by
 obtain ⟨b, hb, e⟩ := List.mem_map.1 (h.perm.mem_iff.2 hm)
 simp only [RowM.pair, Prod.mk.injEq] at e
 rw [h2.get, ← e.1, h.led.get_of hb, ← e.2]
 rfl
theorem LMap.eq {m k came : List (List UInt8 × Int)} {S R : List RowM} (h : LMap m S) (h2 : LMap k R) (hl : m.length = k.length) (hp : came.Perm m) (ha : ∀ y ∈ came, getM k y.1 = some y.2) : S = R := by
 refine (ledW_sub h.led.sorted h2.led.sorted fun a haS => ?_).eq_of_length (by rw [← h.len, ← h2.len]; exact hl)
 have hy := ha a.pair (hp.mem_iff.2 (h.perm.mem_iff.1 (List.mem_map.2 ⟨a, haS, rfl⟩)))
 have hg : (getW R a.name).map RowM.amount = some a.amount := by rw [← h2.get]; exact hy
 cases hr : getW R a.name with
 | none => rw [hr] at hg; cases hg
 | some b =>
  rw [hr] at hg
  obtain ⟨hb, hn⟩ := getW_some hr
  simp only [Option.map_some, Option.some.injEq] at hg
  have : b = a := by cases a; cases b; simp_all
  rw [← this]; exact hb
theorem perm_of_sub {α : Type} : ∀ {K R : List α}, K.Nodup → (∀ k ∈ K, k ∈ R) → K.length = R.length → K.Perm R
 | [], R, _, _, h => by rw [List.eq_nil_of_length_eq_zero h.symm]
 | a :: K, R, hn, hs, h => by
  obtain ⟨p, q, rfl⟩ := List.append_of_mem (hs a (List.mem_cons_self ..))
  rw [List.nodup_cons] at hn
  refine List.Perm.trans (List.Perm.cons a (perm_of_sub (R := p ++ q) hn.2 (fun k hk => ?_) ?_)) List.perm_middle.symm
  ·have := hs k (List.mem_cons_of_mem _ hk)
   rcases List.mem_append.1 this with h1 | h1
   ·exact List.mem_append_left _ h1
   ·rcases List.mem_cons.1 h1 with rfl | h1
    ·exact absurd hk hn.1
    ·exact List.mem_append_right _ h1
  ·simp only [List.length_cons, List.length_append] at h ⊢
   omega
theorem kept_same {K R : List KeptM} (hR : (R.map KeptM.id).Nodup) (h : K.Perm R) {x : List UInt8 × List UInt8} {a : KeptM} (hm : (x, a) ∈ K.map KeptM.kv) : getM (R.map KeptM.kv) x = some a := by
 have h2 := (h.map KeptM.kv).mem_iff.1 hm
 obtain ⟨i, hi⟩ := List.getElem?_of_mem h2
 exact getM_at (by rw [kv_fst]; exact hR) hi rfl
theorem kept_eq {K R : List KeptM} (hK : (K.map KeptM.id).Nodup) {came : List ((List UInt8 × List UInt8) × KeptM)} (hl : K.length = R.length) (hp : came.Perm (K.map KeptM.kv)) (ha : ∀ y ∈ came, getM (R.map KeptM.kv) y.1 = some y.2) : K.Perm R := by
 have hn : K.Nodup := List.Pairwise.of_map KeptM.id (fun a b h e => h (congrArg KeptM.id e)) hK
 have hs : ∀ k ∈ K, k ∈ R := by
  intro k hk
  have := getM_mem (ha k.kv (hp.mem_iff.2 (List.mem_map.2 ⟨k, hk, rfl⟩)))
  obtain ⟨y, hy, e⟩ := List.mem_map.1 this
  have e2 : y = k := congrArg Prod.snd e
  rw [← e2]; exact hy
 exact perm_of_sub hn hs hl
theorem run_aggeqD {P : Program} {w : World} {t : TypeId} {xs ys : List Value} (d : Nat) (h : eqOk P t xs ys = true) : (Op.equalIn (d + 2) t (agg xs) (agg ys)).run P w = .ok (aggB xs ys) w := by
 unfold eqOk at h
 split at h
 ·rename_i fs hu
  simp only [Bool.and_eq_true, Bool.not_eq_true'] at h
  have hf : P.fieldsOf t = fs := by simp [Program.fieldsOf, hu]
  rw [run_equalIn_agg w (d + 1) t _ _ (by rw [hf]; exact hu) h.2.1, hf]
  have := run_fields (P := P) (w := w) d fs.toList [] [] xs ys rfl h.1
  simpa using this
 ·cases h
structure NestTy (P : Program) (t : TypeId) (f1 f2 : Field) (n : Nat) : Prop where
 und : P.underlying t = some (.struct #[f1, f2])
 n1 : f1.name ≠ "_"
 n2 : f2.name ≠ "_"
 o1 : f1.offset = 0
 o2 : f2.offset = n
 a1 : isAgg? P f1.type = some true
 z1 : ∀ w, (Go.sizeOf f1.type).run P w = .ok n w
 held : P.stoodInHeld t = false
 guard : P.eqGuardType P.depth t = false
theorem run_nest {P : Program} {w : World} {t : TypeId} {f1 f2 : Field} {n : Nat} (T : NestTy P t f1 f2 n) {xs ys : List Value} {x y : Value} (hx : xs.length = n) (hy : ys.length = n) (h1 : eqOk P f1.type xs ys = true) (h2 : cellFits P f2.type x y = true) :
  (Op.equalIn 10000 t (agg (xs ++ [x])) (agg (ys ++ [y]))).run P w = .ok (aggB xs ys && cellB x y) w := by
 have hf : P.fieldsOf t = #[f1, f2] := by simp [Program.fieldsOf, T.und]
 rw [run_equalIn_agg w 9999 t _ _ (by rw [hf]; exact T.und) T.held, hf]
 have hp := cellFits_plain h2
 have e1 : ∀ zs : List Value, zs.length = n → ∀ z, (part f1.type (zs ++ [z]).toArray f1.offset).run P w = .ok (agg zs) w := by
  intro zs hz z
  unfold part
  have hE : (zs ++ [z]).toArray.extract 0 (0 + n) = zs.toArray := by
   apply Array.ext'
   simp [← hz]
  simp [Sem.run_bind, run_isAgg T.a1, T.z1, T.o1, hE, Sem.run_pure, agg, Result.andThen]
  rw [← hz]
  simp
 have e2 : ∀ zs : List Value, zs.length = n → ∀ z, (part f2.type (zs ++ [z]).toArray f2.offset).run P w = .ok z w := by
  intro zs hz z
  exact run_part1 hp (by rw [T.o2, ← hz]; simp)
 have q1 := run_aggeqD (w := w) 9997 h1
 have q2 := run_cellEq (w := w) 9998 h2
 simp only [Op.eqFields, ne_eq, T.n1, T.n2, not_false_eq_true, if_true, Sem.run_bind, e1 xs hx x, e1 ys hy y, e2 xs hx x, e2 ys hy y, Result.andThen_ok, q1, q2, Sem.run_ite, Sem.run_pure]
 cases aggB xs ys <;> cases cellB x y <;> simp [Op.eqFields, Sem.run_pure]
theorem Runs.nestne {P : Program} {L : Loc} {o : Oper} {w : World} {t : TypeId} {f1 f2 : Field} {n : Nat} (T : NestTy P t f1 f2 n) {xs ys : List Value} {x y : Value} (hx : xs.length = n) (hy : ys.length = n) (h1 : eqOk P f1.type xs ys = true) (h2 : cellFits P f2.type x y = true)
  (h : bin? L o = some (.neq, t, agg (xs ++ [x]), agg (ys ++ [y]))) : Runs P L o w (.bool (!(aggB xs ys && cellB x y))) w := by
 refine Runs.bin h (fun a b => run_eqGuard_agg w .neq t a b _ _ T.guard) ?_
 show (binOp .neq t (.agg (xs ++ [x]).toArray) (.agg (ys ++ [y]).toArray)).run P w = _
 rw [run_neq_struct]
 have := run_nest (w := w) T hx hy h1 h2
 unfold agg at this
 rw [this]; rfl
theorem Runs.nestneE {P : Program} {L : Loc} {o : Oper} {w : World} {t t1 t2 : TypeId} {n : Nat} (T : ∃ f1 f2, NestTy P t f1 f2 n ∧ f1.type = t1 ∧ f2.type = t2) {xs ys : List Value} {x y : Value} (hx : xs.length = n) (hy : ys.length = n) (h1 : eqOk P t1 xs ys = true) (h2 : cellFits P t2 x y = true)
  (h : bin? L o = some (.neq, t, agg (xs ++ [x]), agg (ys ++ [y]))) : Runs P L o w (.bool (!(aggB xs ys && cellB x y))) w := by
 obtain ⟨f1, f2, T, rfl, rfl⟩ := T
 exact Runs.nestne T hx hy h1 h2 h
theorem kept_beq (a b : KeptM) : (aggB a.op.cells b.op.cells && cellB (i64 a.why) (i64 b.why)) = true ↔ a = b := by
 rw [Bool.and_eq_true]
 constructor
 ·intro h
  exact KeptM.ext_ ((opEq_iff _ _).1 h.1) ((cellB_int_iff _ _ _).1 h.2)
 ·rintro rfl
  exact ⟨(opEq_iff _ _).2 rfl, (cellB_int_iff _ _ _).2 rfl⟩
def sumE (S : List RowM) : Int × Int := if 9223372036854775807 < sumR S then (0, 43) else (sumR S, 0)
def sumP (m : List (List UInt8 × Int)) : Int := (m.map (·.2)).sum
theorem sumP_app (a b : List (List UInt8 × Int)) : sumP (a ++ b) = sumP a + sumP b := by unfold sumP; rw [List.map_append, List.sum_append]
theorem LMap.sum {m : List (List UInt8 × Int)} {S : List RowM} (h : LMap m S) : sumP m = sumR S := by
 unfold sumP sumR
 rw [← sum_perm (h.perm.map (·.2)), List.map_map]
 rfl
theorem sumP_nonneg {m : List (List UInt8 × Int)} (h : ∀ x ∈ m, 0 ≤ x.2) : 0 ≤ sumP m := by
 unfold sumP
 induction m with
 | nil => exact Int.le_refl 0
 | cons x m ih =>
  rw [List.map_cons, List.sum_cons]
  have h1 := h x (List.mem_cons_self ..)
  have h2 := ih fun y hy => h y (List.mem_cons_of_mem _ hy)
  omega
theorem LMap.nonneg {m : List (List UInt8 × Int)} {S : List RowM} (h : LMap m S) : ∀ x ∈ m, 0 ≤ x.2 ∧ x.2 ≤ 9223372036854775807 := by
 intro x hx
 obtain ⟨a, ha, rfl⟩ := List.mem_map.1 (h.perm.mem_iff.2 hx)
 exact ⟨(h.led.ok a ha).lo, (h.led.ok a ha).hi⟩
theorem LMap.parts {m came rest : List (List UInt8 × Int)} {S : List RowM} (h : LMap m S) (hp : (came ++ rest).Perm m) : sumP came + sumP rest = sumR S ∧ 0 ≤ sumP came ∧ 0 ≤ sumP rest ∧ ∀ x ∈ rest, 0 ≤ x.2 ∧ x.2 ≤ 9223372036854775807 := by
 have h1 : sumP (came ++ rest) = sumR S := by rw [← h.sum]; exact sum_perm (hp.map (·.2))
 rw [sumP_app] at h1
 have hn := h.nonneg
 exact ⟨h1, sumP_nonneg fun x hx => (hn x (hp.mem_iff.1 (List.mem_append_left _ hx))).1, sumP_nonneg fun x hx => (hn x (hp.mem_iff.1 (List.mem_append_right _ hx))).1, fun x hx => hn x (hp.mem_iff.1 (List.mem_append_right _ hx))⟩
theorem Led.nonneg {S : List RowM} (h : Led S) : 0 ≤ sumR S := by
 unfold sumR
 have := h.ok
 clear h
 induction S with
 | nil => exact Int.le_refl 0
 | cons x S ih =>
  rw [List.map_cons, List.sum_cons]
  have h1 := (this x (List.mem_cons_self ..)).lo
  have h2 := ih fun y hy => this y (List.mem_cons_of_mem _ hy)
  omega
end Go.Q
namespace Go.Q
open Go.RowKit Go.Lib
end Go.Q
