/- Accounts: their sum; calls of a book that come in. -/
import Derived.Test.YtooginpgclcldaaGreatDoorOC
import Derived.Test.YtooginpgclcldaaGreatDoorLE
set_option linter.unusedVariables false
namespace Go.Q
open Go.ChangeShapes Go.WideShapes Go.ChangeAt Go.RowKit Go.Deep
def total (S : List AccM) : Int := (S.map (·.amt)).sum
def sumR (l : List RowM) : Int := (l.map (·.amount)).sum
theorem sumR_app (a b : List RowM) : sumR (a ++ b) = sumR a + sumR b := by unfold sumR; rw [List.map_append, List.sum_append]
theorem sumR_take {l : List RowM} {i : Nat} {r : RowM} (h : l[i]? = some r) : sumR (l.take (i + 1)) = sumR (l.take i) + r.amount := by
  rw [List.take_add_one, h, Option.toList_some, sumR_app]
  simp [sumR]
theorem sum_perm {l k : List Int} (h : l.Perm k) : l.sum = k.sum := by
  induction h with
  | nil => rfl
  | cons x _ ih => rw [List.sum_cons, List.sum_cons, ih]
  | swap x y l => simp only [List.sum_cons]; omega
  | trans _ _ h1 h2 => exact h1.trans h2
theorem total_perm {S T : List AccM} (h : S.Perm T) : total S = total T := sum_perm (h.map _)
theorem total_cons (a : AccM) (S : List AccM) : total (a :: S) = a.amt + total S := by unfold total; rw [List.map_cons, List.sum_cons]
theorem total_ins (S : List AccM) (a : AccM) : total (insS S a) = total S + a.amt := by
  rw [total_perm (insS_perm S a)]
  unfold total
  rw [List.map_append, List.sum_append]
  simp
theorem total_put (S : List AccM) (n : List UInt8) (k : Int) : total (putS S n k) = total S + (if putE S n k = 0 then k else 0) := by
  unfold putS
  split
  · exact total_ins _ _
  · omega
theorem total_set : ∀ {S : List AccM} {a : AccM} (x : AccV), Accs S → getS S a.name = some a → total (setS S a.name x) = total S - a.amt + x.1
  | [], a, x, _, h => by cases h
  | b :: S, a, x, hS, h => by
    have hs := hS.sorted
    rw [List.pairwise_cons] at hs
    have hS2 : Accs S := ⟨hs.2, fun c hc => hS.ok c (List.mem_cons_of_mem _ hc), by have := hS.len; simp only [List.length_cons] at this; omega⟩
    unfold setS
    rw [List.map_cons, total_cons, total_cons]
    by_cases hb : b.name = a.name
    · have : b = a := by
        have h1 := hS.get_of (List.mem_cons_self (a := b) (l := S))
        rw [hb, h] at h1
        exact (Option.some.inj h1).symm
      subst this
      rw [if_pos rfl]
      have hrest : (S.map fun c => if c.name = b.name then (⟨b.name, x.1, x.2⟩ : AccM) else c) = S := by
        refine (List.map_congr_left (g := fun c => c) fun c hc => ?_).trans (List.map_id' S)
        have : ¬ c.name = b.name := fun e => by
          have := hs.1 c hc
          rw [e] at this
          exact ltN_irrefl _ this
        rw [if_neg this]
      rw [hrest]
      show x.1 + total S = b.amt + total S - b.amt + x.1
      omega
    · rw [if_neg hb]
      have hg : getS S a.name = some a := by
        unfold getS at h ⊢
        rw [List.find?_cons_of_neg (by simpa using hb)] at h
        exact h
      have := total_set x hS2 hg
      unfold setS at this
      rw [this]
      omega
theorem total_chg {S : List AccM} (hS : Accs S) (f : AccV → Int × AccV) (n : List UInt8) (d : Int) (h : ∀ a : AccV, (f a).2.1 = a.1 + (if (f a).1 = 0 then d else 0)) : total (chgS f S n) = total S + (if chgE f S n = 0 then d else 0) := by
  unfold chgS chgE
  cases hg : getS S n with
  | none => simp
  | some a =>
    obtain ⟨_, rfl⟩ := getS_some hg
    simp only
    rw [total_set _ hS hg, h]
    omega
theorem total_add {S : List AccM} (hS : Accs S) (n : List UInt8) (k : Int) : total (chgS (addF k) S n) = total S + (if chgE (addF k) S n = 0 then k else 0) := by
  refine total_chg hS _ n k fun a => ?_
  unfold addF
  split
  · simp
  · split <;> simp
theorem total_take {S : List AccM} (hS : Accs S) (n : List UInt8) (k : Int) : total (chgS (takeF k) S n) = total S + (if chgE (takeF k) S n = 0 then -k else 0) := by
  refine total_chg hS _ n (-k) fun a => ?_
  unfold takeF
  split
  · simp
  · split
    · simp
    · simp; omega
theorem total_filter (p : AccM → Bool) : ∀ S : List AccM, total (S.filter fun a => !(p a)) = total S - sumR ((S.filter p).map AccM.row)
  | [] => rfl
  | a :: S => by
    have ih := total_filter p S
    rw [total_cons]
    cases hp : p a with
    | true =>
      rw [List.filter_cons_of_neg (by simp [hp]), List.filter_cons_of_pos hp, ih, List.map_cons]
      show _ = a.amt + total S - (((a.row :: (S.filter p).map AccM.row).map (·.amount)).sum)
      rw [List.map_cons, List.sum_cons]
      show total S - sumR _ = a.amt + total S - (a.amt + sumR _)
      omega
    | false =>
      rw [List.filter_cons_of_pos (by simp [hp]), List.filter_cons_of_neg (by simp [hp]), total_cons, ih]
      omega
theorem total_drop (S : List AccM) {k : Int} (hk : 0 ≤ k) : total (dropS S k) = total S - sumR (rowsS S k) := by
  unfold dropS rowsS
  rw [if_neg (by omega), total_filter]
theorem rows_all (S : List AccM) : rowsS S (-1) = S.map AccM.row := by
  unfold rowsS
  rw [List.filter_eq_self.2 fun a _ => inSlot_t (.inl rfl)]
theorem sum_all (S : List AccM) : sumR (rowsS S (-1)) = total S := by rw [rows_all]; unfold sumR total; rw [List.map_map]; rfl
theorem rows_pos {S : List AccM} (h : Accs S) {k : Int} {r : RowM} (hr : r ∈ rowsS S k) : 0 ≤ r.amount ∧ r.amount ≤ 9223372036854775807 ∧ r.name.length ≤ 24 := by
  obtain ⟨a, ha, rfl⟩ := List.mem_map.1 hr
  have := h.ok a (List.mem_filter.1 ha).1
  exact ⟨this.lo, this.hi, this.len⟩
theorem wrapU_add (a b : Int) : IntKind.u64.wrap (IntKind.u64.wrap a + IntKind.u64.wrap b) = IntKind.u64.wrap (a + b) := by
  simp only [IntKind.wrap, IntKind.bits, IntKind.signed]
  simp
theorem wrapU_sub (a b : Int) : IntKind.u64.wrap (IntKind.u64.wrap a - IntKind.u64.wrap b) = IntKind.u64.wrap (a - b) := by
  simp only [IntKind.wrap, IntKind.bits, IntKind.signed]
  simp
/-- A call of a book. -/
structure BopM where
  kind : Int
  name : List UInt8
  own : List UInt8
  n : Int
  slot : Int
def BopM.cells (x : BopM) : List Value := [i64 x.kind, .string (str x.name), .string (str x.own), i64 x.n, i64 x.slot]
theorem BopM.five (x : BopM) : x.cells.length = 5 := rfl
structure BopM.Ok (x : BopM) : Prop where
  kind : -9223372036854775808 ≤ x.kind ∧ x.kind ≤ 9223372036854775807
  n : -9223372036854775808 ≤ x.n ∧ x.n ≤ 9223372036854775807
  slot : -9223372036854775808 ≤ x.slot ∧ x.slot ≤ 9223372036854775807
section
variable {H : Type} {enc : TypeId × Value → H} {P : Program} {w : World} {base : Nat} {spare : Nat → Bool} {held : Bool}
theorem dec_bop {e : TypeId} {fs : Array Field} {m : Nat} {cs : List Value} {y : DataW H × List MemPlace} (he : P.underlying e = some (.struct fs)) (hone : oneCellFields P fs = true) (hC : P.cellsOf e = fs.size) (h5 : fs.size = 5)
    (k0 : fieldOf? P fs 0 = some (.int .i64)) (k1 : fieldOf? P fs 1 = some .string) (k2 : fieldOf? P fs 2 = some .string) (k3 : fieldOf? P fs 3 = some (.int .i64)) (k4 : fieldOf? P fs 4 = some (.int .i64)) (hl : cs.length = 5) (h : DataW.trod enc P w base spare held m e cs = some y) :
    ∃ x : BopM, x.Ok ∧ cs = x.cells := by
  match cs, hl with
  | [c0, c1, c2, c3, c4], _ =>
    obtain ⟨n0, e0, r0⟩ := cell_i64 he hone hC h 0 k0
    obtain ⟨s1, e1⟩ := cell_str he hone hC h 1 k1
    obtain ⟨s2, e2⟩ := cell_str he hone hC h 2 k2
    obtain ⟨n3, e3, r3⟩ := cell_i64 he hone hC h 3 k3
    obtain ⟨n4, e4, r4⟩ := cell_i64 he hone hC h 4 k4
    obtain rfl : c0 = _ := Option.some.inj e0
    obtain rfl : c1 = _ := Option.some.inj e1
    obtain rfl : c2 = _ := Option.some.inj e2
    obtain rfl : c3 = _ := Option.some.inj e3
    obtain rfl : c4 = _ := Option.some.inj e4
    exact ⟨⟨n0, s1, s2, n3, n4⟩, ⟨r0, r3, r4⟩, rfl⟩
theorem open_bop {e : TypeId} {fs : Array Field} {v : Value} {d : DataW H} {ps : List MemPlace} (he : P.underlying e = some (.struct fs)) (hone : oneCellFields P fs = true) (hC : P.cellsOf e = fs.size) (h5 : fs.size = 5)
    (k0 : fieldOf? P fs 0 = some (.int .i64)) (k1 : fieldOf? P fs 1 = some .string) (k2 : fieldOf? P fs 2 = some .string) (k3 : fieldOf? P fs 3 = some (.int .i64)) (k4 : fieldOf? P fs 4 = some (.int .i64))
    (hv : Value.okWide P w .any 0 e v) (h : DataW.Trod enc P w base spare held e v d ps) : ∃ x : BopM, x.Ok ∧ v = agg x.cells := by
  obtain ⟨cs, m, rfl, hl, h⟩ := struct_cells he hC hv h
  obtain ⟨x, hx, rfl⟩ := dec_bop he hone hC h5 k0 k1 k2 k3 k4 (by rw [hl, h5]) h
  exact ⟨x, hx, rfl⟩
theorem open_bops {t e : TypeId} {fs : Array Field} {v : Value} {d : DataW H} {ps : List MemPlace} (ht : P.underlying t = some (.slice e)) (he : P.underlying e = some (.struct fs)) (hone : oneCellFields P fs = true) (hC : P.cellsOf e = fs.size) (h5 : fs.size = 5)
    (k0 : fieldOf? P fs 0 = some (.int .i64)) (k1 : fieldOf? P fs 1 = some .string) (k2 : fieldOf? P fs 2 = some .string) (k3 : fieldOf? P fs 3 = some (.int .i64)) (k4 : fieldOf? P fs 4 = some (.int .i64))
    (hv : Value.okWide P w .any 0 t v) (h : DataW.Trod enc P w base spare held t v d ps) : ∃ (l : List BopM) (A : Option Addr) (c : Nat), v = .slice A l.length c ∧ RdT w 5 BopM.cells (.slice A l.length c) l ∧ ∀ x ∈ l, x.Ok := by
  obtain ⟨fuel, h⟩ := trod_fuel h (slice_form ht hv)
  obtain ⟨l, hR, hg, _, A, c, rfl⟩ := open_models BopM.cells BopM.Ok ht (by rw [hC, h5]) (by decide) (slice_trod ht h) h fun m cs y hl h => dec_bop he hone hC h5 k0 k1 k2 k3 k4 hl h
  exact ⟨l, A, c, rfl, hR, hg⟩
/-- Texts that come in. -/
theorem open_strs {t e : TypeId} {v : Value} {d : DataW H} {ps : List MemPlace} (ht : P.underlying t = some (.slice e)) (he : P.underlying e = some .string) (hC : P.cellsOf e = 1)
    (hv : Value.okWide P w .any 0 t v) (h : DataW.Trod enc P w base spare held t v d ps) : ∃ (l : List (List UInt8)) (A : Option Addr) (c : Nat), v = .slice A l.length c ∧ RdT w 1 kcell (.slice A l.length c) l := by
  obtain ⟨fuel, h⟩ := trod_fuel h (slice_form ht hv)
  obtain ⟨l, hR, hg, _, A, c, rfl⟩ := open_models kcell (fun _ => True) ht hC (by decide) (slice_trod ht h) h fun m cs y hl h => by
    obtain ⟨s, hs, _⟩ := DataW.trod_string he h
    exact ⟨s.toList, trivial, by rw [hs]; unfold kcell kstr; rw [str_eta]⟩
  exact ⟨l, A, c, rfl, hR⟩
end
end Go.Q
