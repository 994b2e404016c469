/- What comes in: slices of anything as rows of cells, with their sizes. -/
import Derived.Test.YtnepjfnkaigakaaLibBack
import Derived.Test.YtnepjfnkaigakaaLibOps
import Derived.SizedLaws
set_option linter.unusedVariables false
namespace Go.Q
open Go.ChangeShapes Go.WideShapes Go.ChangeAt Go.RowKit Go.Deep

section
variable {H : Type} {enc : TypeId × Value → H} {P : Program} {w : World} {base : Nat} {spare : Nat → Bool} {held : Bool}

/-- A slice that comes in: its cells, element by element. -/
theorem open_rows {t e : TypeId} {sz : Nat} {v : Value} {d : DataW H} {ps : List MemPlace} (R : List Value → Prop) (ht : P.underlying t = some (.slice e)) (hC : P.cellsOf e = sz) (hsz : 0 < sz)
    (hv : ∃ A n c, v = .slice A n c) {fuel : Nat} (h : DataW.trod enc P w base spare held fuel t [v] = some (d, ps))
    (dec : ∀ (m : Nat) (cs : List Value) (y : DataW H × List MemPlace), cs.length = sz → DataW.trod enc P w base spare held m e cs = some y → R cs) :
    ∃ css : List (List Value), Rd w sz v css.flatten ∧ (∀ cs ∈ css, cs.length = sz ∧ R cs) ∧ (css = [] ∨ ∃ el sp, d = .slice el sp ∧ el.length = css.length) ∧ ∃ A c, v = .slice A css.length c := by
  obtain ⟨A, n, cap, rfl⟩ := hv
  rcases open_slice ht h with ⟨hcs, _⟩ | ⟨a, len, cap', m, k, D, Pl, hcs, hb, hl, hm, hmm, hxx, hi⟩
  · simp only [List.cons.injEq, and_true, Value.slice.injEq] at hcs
    obtain ⟨rfl, rfl, rfl⟩ := hcs
    exact ⟨[], Rd.nil w sz, by simp, .inl rfl, none, 0, rfl⟩
  · simp only [List.cons.injEq, and_true, Value.slice.injEq] at hcs
    obtain ⟨rfl, rfl, rfl⟩ := hcs
    have hlm : n ≤ m := by rw [hmm]; split <;> omega
    have h1 : ∀ i, i < n → ∃ cs : List Value, cs.length = sz ∧ R cs ∧ ∀ j u, cs[j]? = some u → w.cell? (a.add (i * sz + j)) = some u := by
      intro i hin
      obtain ⟨cs, hc, htr⟩ := hi i (by omega)
      rw [hC] at hc
      obtain ⟨_, hlen, hcell⟩ := World.cells?_some hc
      refine ⟨cs, hlen, dec _ cs _ hlen htr, fun j u hu => ?_⟩
      have hj : j < sz := by rw [← hlen]; exact (List.getElem?_eq_some_iff.1 hu).1
      rw [← Go.Deep.add_add, hcell j hj, hu]
    obtain ⟨g, hg⟩ := choose_lt h1
    have hfl : ∀ k, k ≤ n → (((List.range k).map g).flatten).length = k * sz := by
      intro k
      induction k with
      | zero => simp
      | succ k ih =>
        intro hk
        rw [List.range_succ, List.map_append, List.flatten_append, List.length_append, ih (by omega)]
        simp only [List.map_cons, List.map_nil, List.flatten_cons, List.flatten_nil, List.append_nil]
        rw [(hg k (by omega)).1, Nat.add_mul, Nat.one_mul]
    have hat : ∀ k, k ≤ n → ∀ j u, (((List.range k).map g).flatten)[j]? = some u → ∃ i, i < k ∧ i * sz ≤ j ∧ (g i)[j - i * sz]? = some u := by
      intro k
      induction k with
      | zero => intro _ j u hu; simp at hu
      | succ k ih =>
        intro hk j u hu
        rw [List.range_succ, List.map_append, List.flatten_append] at hu
        simp only [List.map_cons, List.map_nil, List.flatten_cons, List.flatten_nil, List.append_nil] at hu
        rw [List.getElem?_append, hfl k (by omega)] at hu
        split at hu
        · obtain ⟨i, h1, h2, h3⟩ := ih (by omega) j u hu
          exact ⟨i, by omega, h2, h3⟩
        · exact ⟨k, by omega, by omega, hu⟩
    refine ⟨(List.range n).map g, ⟨some a, n, cap, rfl, hfl n (Nat.le_refl _), hl, hm, fun h0 => ?_⟩, ?_, ?_, ?_⟩
    · have hspot : a.spot = none := by
        obtain ⟨cs, hc, htr⟩ := hi 0 (by omega)
        rw [hC] at hc
        obtain ⟨_, hlen, hcell⟩ := World.cells?_some hc
        have h2 := hcell 0 hsz
        have h3 : (0 * sz) = 0 := by simp
        rw [h3] at h2
        have h4 : cs[0]? = some (cs[0]'(by omega)) := List.getElem?_eq_getElem (by omega)
        rw [h4] at h2
        have h5 : (a.add 0).add 0 = a := by simp [Addr.add]
        rw [h5] at h2
        unfold World.cell? at h2
        split at h2
        · split at h2
          · cases h2
          · rename_i hns; simpa using hns
        · cases h2
      obtain ⟨b, off, spot⟩ := a
      simp only at hspot
      subst hspot
      refine ⟨b, off, rfl, fun j u hu => ?_⟩
      obtain ⟨i, h1, h2, h3⟩ := hat n (Nat.le_refl _) j u hu
      have := (hg i h1).2.2 _ u h3
      rw [add_plain] at this
      rw [show off + j = off + (i * sz + (j - i * sz)) from by omega]
      exact this
    · intro cs hcs
      obtain ⟨i, hi, rfl⟩ := List.mem_map.1 hcs
      have := hg i (List.mem_range.1 hi)
      exact ⟨this.1, this.2.1⟩
    · right
      simp only [Prod.mk.injEq] at hxx
      exact ⟨_, _, hxx.1, by simp⟩
    · exact ⟨some a, cap, by simp⟩
theorem slice_form {t e : TypeId} {v : Value} (ht : P.underlying t = some (.slice e)) (hv : Value.okWide P w .any 0 t v) : ∃ A n c, v = .slice A n c := by
  obtain ⟨A, n, c, h⟩ := okWide_slice ht hv
  exact ⟨A, n, c, h⟩

theorem dec_byte {e : TypeId} (he : P.underlying e = some (.int .u8)) {m : Nat} {cs : List Value} {y : DataW H × List MemPlace} (hlen : cs.length = 1) (htr : DataW.trod enc P w base spare held m e cs = some y) :
    ∃ x : UInt8, cs = [.int .u8 ((x.toNat : Nat) : Int)] := by
  match cs, hlen with
  | [z], _ =>
    obtain ⟨k, hk, _, hw⟩ := DataW.trod_int he htr
    simp only [List.cons.injEq, and_true] at hk
    subst hk
    simp only [Lit.wf, Bool.and_eq_true, decide_eq_true_eq] at hw
    have e1 : IntKind.u8.min = 0 := by decide
    have e2 : IntKind.u8.max = 255 := by decide
    rw [e1, e2] at hw
    refine ⟨UInt8.ofNat k.toNat, ?_⟩
    have : ((UInt8.ofNat k.toNat).toNat : Int) = k := by simp; omega
    rw [this]
theorem dec_i64 {e : TypeId} (he : P.underlying e = some (.int .i64)) {m : Nat} {cs : List Value} {y : DataW H × List MemPlace} (hlen : cs.length = 1) (htr : DataW.trod enc P w base spare held m e cs = some y) :
    ∃ x : Int, cs = [i64 x] ∧ -9223372036854775808 ≤ x ∧ x ≤ 9223372036854775807 := by
  match cs, hlen with
  | [z], _ =>
    obtain ⟨k, hk, _, hw⟩ := DataW.trod_int he htr
    simp only [List.cons.injEq, and_true] at hk
    subst hk
    exact ⟨k, rfl, wf_i64 hw⟩

theorem flat_bytes : ∀ {css : List (List Value)}, (∀ cs ∈ css, ∃ x : UInt8, cs = [.int .u8 ((x.toNat : Nat) : Int)]) → ∃ bs : List UInt8, css.flatten = bv bs ∧ bs.length = css.length
  | [], _ => ⟨[], rfl, rfl⟩
  | cs :: css, h => by
    obtain ⟨x, rfl⟩ := h cs (by simp)
    obtain ⟨bs, hb, hl⟩ := flat_bytes (css := css) fun c hc => h c (by simp [hc])
    exact ⟨x :: bs, by rw [List.flatten_cons, hb]; rfl, by simp [hl]⟩
theorem flat_ints : ∀ {css : List (List Value)}, (∀ cs ∈ css, ∃ x : Int, cs = [i64 x] ∧ -9223372036854775808 ≤ x ∧ x ≤ 9223372036854775807) →
    ∃ l : List Int, css.flatten = ints l ∧ l.length = css.length ∧ ∀ x ∈ l, -9223372036854775808 ≤ x ∧ x ≤ 9223372036854775807
  | [], _ => ⟨[], rfl, rfl, by simp⟩
  | cs :: css, h => by
    obtain ⟨x, rfl, hx⟩ := h cs (by simp)
    obtain ⟨l, hb, hl, hr⟩ := flat_ints (css := css) fun c hc => h c (by simp [hc])
    refine ⟨x :: l, by rw [List.flatten_cons, hb]; rfl, by simp [hl], fun y hy => ?_⟩
    rcases List.mem_cons.1 hy with rfl | hy
    · exact hx
    · exact hr y hy

theorem open_bytes_in {t e : TypeId} {v : Value} {d : DataW H} {ps : List MemPlace} {fuel : Nat} (ht : P.underlying t = some (.slice e)) (he : P.underlying e = some (.int .u8)) (hC : P.cellsOf e = 1)
    (hv : ∃ A n c, v = .slice A n c) (h : DataW.trod enc P w base spare held fuel t [v] = some (d, ps)) : ∃ bs : List UInt8, RdB w v bs ∧ (bs.length = 0 ∨ ∃ el sp, d = .slice el sp ∧ el.length = bs.length) := by
  obtain ⟨css, hr, hc, hd, _⟩ := open_rows (fun cs => ∃ x : UInt8, cs = [.int .u8 ((x.toNat : Nat) : Int)]) ht hC (by decide) hv h fun m cs y hl htr => dec_byte he hl htr
  obtain ⟨bs, hb, hl⟩ := flat_bytes fun cs hcs => (hc cs hcs).2
  refine ⟨bs, by unfold RdB; rw [← hb]; exact hr, ?_⟩
  rcases hd with rfl | ⟨el, sp, h1, h2⟩
  · exact .inl (by simpa using hl)
  · exact .inr ⟨el, sp, h1, by omega⟩
theorem trod_fuel {t : TypeId} {v : Value} {d : DataW H} {ps : List MemPlace} (h : DataW.Trod enc P w base spare held t v d ps) (hv : ∃ A n c, v = .slice A n c) : ∃ fuel, DataW.trod enc P w base spare held fuel t [v] = some (d, ps) := by
  obtain ⟨A, n, c, rfl⟩ := hv
  obtain ⟨fuel, hf⟩ := h
  exact ⟨fuel, by simpa [Value.cells] using hf⟩
/-- Bytes that come in, with their size. -/
theorem open_bytes2 {t e : TypeId} {v : Value} {d : DataW H} {ps : List MemPlace} (ht : P.underlying t = some (.slice e)) (he : P.underlying e = some (.int .u8)) (hC : P.cellsOf e = 1)
    (hv : Value.okWide P w .any 0 t v) (h : DataW.Trod enc P w base spare held t v d ps) : ∃ bs : List UInt8, RdB w v bs ∧ (bs.length = 0 ∨ ∃ el sp, d = .slice el sp ∧ el.length = bs.length) := by
  have hf := slice_form ht hv
  obtain ⟨fuel, h⟩ := trod_fuel h hf
  exact open_bytes_in ht he hC hf h
/-- Numbers that come in. -/
theorem open_ints {t e : TypeId} {v : Value} {d : DataW H} {ps : List MemPlace} (ht : P.underlying t = some (.slice e)) (he : P.underlying e = some (.int .i64)) (hC : P.cellsOf e = 1)
    (hv : Value.okWide P w .any 0 t v) (h : DataW.Trod enc P w base spare held t v d ps) : ∃ l : List Int, (∃ A c, v = .slice A l.length c) ∧ Rd w 1 v (ints l) ∧ (∀ x ∈ l, -9223372036854775808 ≤ x ∧ x ≤ 9223372036854775807) := by
  have hf := slice_form ht hv
  obtain ⟨fuel, h⟩ := trod_fuel h hf
  obtain ⟨css, hr, hc, hd, A, c, hA⟩ := open_rows (fun cs => ∃ x : Int, cs = [i64 x] ∧ -9223372036854775808 ≤ x ∧ x ≤ 9223372036854775807) ht hC (by decide) hf h fun m cs y hl htr => dec_i64 he hl htr
  obtain ⟨l, hb, hl, hrg⟩ := flat_ints fun cs hcs => (hc cs hcs).2
  exact ⟨l, ⟨A, c, by rw [hA, hl]⟩, by rw [← hb]; exact hr, hrg⟩
/-- The size of a slice that comes in. -/
theorem size_in {ts : List TypeId} {ds : List (DataW H)} (hz : (DataW.weightsEach P ts ds).all (· ≤ reachBytes) = true) {j : Nat} {t e : TypeId} {d : DataW H} {n sz : Nat} (ht : ts[j]? = some t) (hd : ds[j]? = some d)
    (hu : P.underlying t = some (.slice e)) (hb : P.bytesOf e = sz) (h : n = 0 ∨ ∃ el sp, d = .slice el sp ∧ el.length = n) : n * sz ≤ 140737488351232 := by
  rcases h with rfl | ⟨el, sp, rfl, rfl⟩
  · simp
  · have := sized_slice hz ht hd hu
    rw [hb] at this
    have e : reachBytes = 140737488351232 := by decide
    rw [e, Nat.add_mul] at this
    omega
end

/-! ### reading rows -/
theorem Rd.addr {w : World} {sz n c : Nat} {A : Option Addr} {xs : List Value} (h : Rd w sz (.slice A n c) xs) (h0 : 0 < n) : ∃ b o, A = some ⟨b, o, none⟩ := by
  obtain ⟨A', n', c', he, hl, hc, hm, hx⟩ := h
  injection he with e1 e2 e3
  subst e1; subst e2; subst e3
  obtain ⟨b, off, rfl, _⟩ := hx h0
  exact ⟨b, off, rfl⟩
theorem Rd.len {w : World} {sz n c : Nat} {A : Option Addr} {xs : List Value} (h : Rd w sz (.slice A n c) xs) : xs.length = n * sz ∧ n ≤ c ∧ c ≤ maxLen := by
  obtain ⟨A', n', c', he, hl, hc, hm, hx⟩ := h
  injection he with e1 e2 e3
  subst e1; subst e2; subst e3
  exact ⟨hl, hc, hm⟩
theorem Rd.cell {w : World} {sz n c b off k : Nat} {A : Option Addr} {xs : List Value} {u : Value} (h : Rd w sz (.slice A n c) xs) (hA : A = some ⟨b, off, none⟩) (hx : xs[k]? = some u) : w.cell? ⟨b, off + k, none⟩ = some u := by
  have hk := (List.getElem?_eq_some_iff.1 hx).1
  obtain ⟨A', n', c', he, hl, hc, hm, hcell⟩ := h
  injection he with e1 e2 e3
  subst e1; subst e2; subst e3
  have h0 : 0 < n := by
    rcases Nat.eq_zero_or_pos n with h | h
    · subst h; simp at hl; subst hl; simp at hk
    · exact h
  obtain ⟨b', off', hA', hc'⟩ := hcell h0
  rw [hA] at hA'
  injection hA' with e
  injection e with e1 e2 e3
  subst e1; subst e2
  exact hc' k u hx
theorem Rd.ld1 {P : Program} {t : TypeId} {w : World} {sz n c b off k : Nat} {A : Option Addr} {xs : List Value} {u : Value} (h : Rd w sz (.slice A n c) xs) (ht : isAgg? P t = some false) (hA : A = some ⟨b, off, none⟩) (hx : xs[k]? = some u) :
    Loads P w t ⟨b, off + k, none⟩ u := loads_one ht (h.cell hA hx)
theorem Rd.ldN {P : Program} {t : TypeId} {w : World} {sz n c b off k : Nat} {A : Option Addr} {xs : List Value} {vs : List Value} (h : Rd w sz (.slice A n c) xs) (ht : isAgg? P t = some true) (hs : size? P t = some vs.length) (hA : A = some ⟨b, off, none⟩)
    (hx : ∀ j u, vs[j]? = some u → xs[k + j]? = some u) : Loads P w t ⟨b, off + k, none⟩ (agg vs) := by
  refine loads_agg ht hs fun j u hu => ?_
  rw [add_plain, Nat.add_assoc]
  exact h.cell hA (hx j u hu)
end Go.Q
