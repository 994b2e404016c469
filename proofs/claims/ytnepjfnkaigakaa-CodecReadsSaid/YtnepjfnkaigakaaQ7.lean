/- Slices that come in and are only read: element by element, in every later world. -/
import Derived.Test.YtnepjfnkaigakaaQ6
import Derived.Deep.Slices
import Derived.Deep.Fields
namespace Go.Q
open Go.ChangeShapes Go.WideShapes Go.ChangeAt Go.RowKit Go.Deep

/-- The slice A of n elements of sz cells holds the values vs. -/
def Elems (w : World) (A : Option Addr) (n sz : Nat) (vs : List Value) : Prop :=
  vs.length = n ∧ (0 < n → ∃ b off, A = some ⟨b, off, none⟩ ∧ ∀ i v, vs[i]? = some v → ∀ j u, v.cells.toList[j]? = some u → w.cell? ⟨b, off + i * sz + j, none⟩ = some u)

theorem Elems.at {P : Program} {w : World} {A : Option Addr} {n sz : Nat} {α : Type} {f : α → Value} {l : List α} {t : TypeId} (h : Elems w A n sz (l.map f)) {k : Nat} (hk : k < n)
    (g : α → List Value) (hg : ∀ x, f x = agg (g x)) (ht : isAgg? P t = some true) (hs : ∀ x, size? P t = some (g x).length) :
    ∃ x b off, l[k]? = some x ∧ A = some ⟨b, off, none⟩ ∧ ∀ w', Keeps none_ w w' → Loads P w' t ⟨b, off + k * sz, none⟩ (f x) := by
  obtain ⟨hl, hc⟩ := h
  obtain ⟨b, off, hA, hcell⟩ := hc (by omega)
  have hkl : k < l.length := by simpa using (by rw [hl]; exact hk : k < (l.map f).length)
  refine ⟨l[k], b, off, List.getElem?_eq_getElem hkl, hA, fun w' K => ?_⟩
  rw [hg]
  refine loads_agg ht (hs _) fun j u hu => ?_
  rw [add_plain]
  refine K.cell (hcell k (f l[k]) (by simp [hkl]) j u (by rw [hg]; simpa [Value.cells] using hu)) (fun h => h)

/-- The same of elements of one cell. -/
theorem Elems.at1 {P : Program} {w : World} {A : Option Addr} {n : Nat} {α : Type} {f : α → Value} {l : List α} {t : TypeId} (h : Elems w A n 1 (l.map f)) {k : Nat} (hk : k < n)
    (hg : ∀ x, (f x).cells = #[f x]) (ht : isAgg? P t = some false) :
    ∃ x b off, l[k]? = some x ∧ A = some ⟨b, off, none⟩ ∧ ∀ w', Keeps none_ w w' → Loads P w' t ⟨b, off + k, none⟩ (f x) := by
  obtain ⟨hl, hc⟩ := h
  obtain ⟨b, off, hA, hcell⟩ := hc (by omega)
  have hkl : k < l.length := by simpa using (by rw [hl]; exact hk : k < (l.map f).length)
  refine ⟨l[k], b, off, List.getElem?_eq_getElem hkl, hA, fun w' K => ?_⟩
  refine loads_one ht (K.cell ?_ (fun h => h))
  have := hcell k (f l[k]) (by simp [hkl]) 0 (f l[k]) (by rw [hg]; rfl)
  simpa using this

theorem Runs.ixSliceE {P : Program} {L : Loc} {o : Oper} {w : World} {t : TypeId} {A : Option Addr} {b off len cap s off' : Nat} {k : IntKind} {i : Int} (hA : A = some ⟨b, off, none⟩) (h : ix? L o = some (t, .slice A len cap, .int k i)) (hs : sliceElem? P t = some s)
    (h0 : 0 ≤ i) (h1 : i < len) (ho : off + i.toNat * s = off') : Runs P L o w (.pointer (some ⟨b, off', none⟩)) w := by
  subst hA
  exact Runs.ixSlice h hs h0 h1 ho

/-! ### Opening what comes in -/

section
variable {H : Type} {enc : TypeId × Value → H} {P : Program} {w : World} {base : Nat} {spare : Nat → Bool} {held : Bool}

/-- A slice that comes in, its elements decoded: 'dec' reads one element's cells. -/
theorem open_elems {t e : TypeId} {sz : Nat} {α : Type} [Inhabited α] {f : α → Value} {Good : α → Prop} {v : Value} {d : DataW H} {ps : List MemPlace}
    (ht : P.underlying t = some (.slice e)) (hC : P.cellsOf e = sz) (hsz : 0 < sz) (hv : Value.okWide P w .any 0 t v) (h : DataW.Trod enc P w base spare held t v d ps)
    (dec : ∀ (m : Nat) (cs : List Value) (y : DataW H × List MemPlace), cs.length = sz → DataW.trod enc P w base spare held m e cs = some y → ∃ x, Good x ∧ (f x).cells.toList = cs) :
    ∃ (A : Option Addr) (n cap : Nat) (l : List α), v = .slice A n cap ∧ n ≤ cap ∧ cap ≤ maxLen ∧ l.length = n ∧ (∀ x ∈ l, Good x) ∧ Elems w A n sz (l.map f) := by
  obtain ⟨A, n, cap, rfl⟩ := okWide_slice ht hv
  obtain ⟨fuel, hf⟩ := h
  rcases open_slice ht hf with ⟨hcs, _⟩ | ⟨a, len, cap', m, k, D, Pl, hcs, hb, hl, hm, hmm, _, hi⟩
  · simp [Value.cells] at hcs
    obtain ⟨rfl, rfl, rfl⟩ := hcs
    exact ⟨none, 0, 0, [], rfl, Nat.le_refl _, Nat.zero_le _, rfl, by simp, by simp, fun h0 => absurd h0 (Nat.lt_irrefl 0)⟩
  · simp [Value.cells] at hcs
    obtain ⟨rfl, rfl, rfl⟩ := hcs
    have hlm : n ≤ m := by rw [hmm]; split <;> omega
    have h1 : ∀ i, i < n → ∃ x : α, Good x ∧ ∀ j u, (f x).cells.toList[j]? = some u → w.cell? (a.add (i * sz + j)) = some u := by
      intro i hin
      obtain ⟨cs, hc, htr⟩ := hi i (by omega)
      rw [hC] at hc
      obtain ⟨_, hlen, hcell⟩ := World.cells?_some hc
      obtain ⟨x, hg, hx⟩ := dec _ cs _ hlen htr
      refine ⟨x, hg, fun j u hu => ?_⟩
      rw [hx] at hu
      have hj : j < sz := by rw [← hlen]; exact (List.getElem?_eq_some_iff.1 hu).1
      rw [← Go.Deep.add_add, hcell j hj, hu]
    obtain ⟨g, hg⟩ := choose_lt h1
    refine ⟨some a, n, cap, (List.range n).map g, rfl, hl, hm, by simp, ?_, by simp, fun h0 => ?_⟩
    · intro x hx
      obtain ⟨i, hi, rfl⟩ := List.mem_map.1 hx
      exact (hg i (List.mem_range.1 hi)).1
    · have hspot : a.spot = none := by
        obtain ⟨cs, hc, htr⟩ := hi 0 (by omega)
        rw [hC] at hc
        obtain ⟨_, hlen, hcell⟩ := World.cells?_some hc
        have h2 := hcell 0 hsz
        have h3 : (0 * sz) = 0 := by simp
        rw [h3] at h2
        have h4 : cs[0]? = some (cs[0]'(by omega)) := List.getElem?_eq_getElem (by omega)
        rw [h4] at h2
        have h5 : (a.add 0).add 0 = a := by simp [Addr.add]
        rw [h5] at h2
        unfold World.cell? at h2
        split at h2
        · split at h2
          · cases h2
          · rename_i hns; simpa using hns
        · cases h2
      obtain ⟨b, off, spot⟩ := a
      simp only at hspot
      subst hspot
      refine ⟨b, off, rfl, fun i v hv j u hu => ?_⟩
      have hin : i < n := by
        have := (List.getElem?_eq_some_iff.1 hv).1
        simpa using this
      have hv' : f (g i) = v := by simpa [hin] using hv
      subst hv'
      have := (hg i hin).2 j u hu
      rw [add_plain] at this
      rw [Nat.add_assoc]
      exact this

/-- A struct all of whose fields are numbers of one kind, of one cell each. -/
theorem trod_ints {e : TypeId} {k : IntKind} {fs : Array Field} {m : Nat} {cs : List Value} {y : DataW H × List MemPlace} (he : P.underlying e = some (.struct fs)) (hone : oneCellFields P fs = true)
    (hk : ∀ (j : Nat) (f : Field), fs[j]? = some f → P.underlying f.type = some (.int k)) (hC : P.cellsOf e = fs.size) (h : DataW.trod enc P w base spare held m e cs = some y) :
    ∃ ns : List Int, ns.length = fs.size ∧ cs = ns.map (Value.int k) ∧ ∀ n ∈ ns, (Lit.int k n).wf = true := by
  obtain ⟨xs, m', hm, _, hlen, hxl, hf⟩ := DataW.trod_struct he h
  rw [hC] at hlen
  have h1 : ∀ j, j < fs.size → ∃ n : Int, cs[j]? = some (.int k n) ∧ (Lit.int k n).wf = true := by
    intro j hj
    have hfj : fs[j]? = some fs[j] := by simp [hj]
    obtain ⟨ho, hc⟩ := hone_of hone j _ hfj
    have h2 := hf j _ hfj
    rw [ho, hc] at h2
    have hone' : (cs.drop j).take 1 = [cs[j]'(by omega)] := by
      rw [List.drop_eq_getElem_cons (by omega)]
      rfl
    rw [hone', List.getElem?_eq_getElem (by omega : j < xs.length)] at h2
    obtain ⟨n, hn, _, hw⟩ := DataW.trod_int (hk j _ hfj) h2
    simp only [List.cons.injEq, and_true] at hn
    exact ⟨n, by rw [List.getElem?_eq_getElem (by omega), hn], hw⟩
  obtain ⟨g, hg⟩ := choose_lt h1
  refine ⟨(List.range fs.size).map g, by simp, ?_, ?_⟩
  · apply List.ext_getElem?
    intro j
    rcases Nat.lt_or_ge j fs.size with hj | hj
    · rw [(hg j hj).1]
      simp [hj]
    · rw [List.getElem?_eq_none (by omega), List.getElem?_eq_none (by simp; omega)]
  · intro n hn
    obtain ⟨j, hj, rfl⟩ := List.mem_map.1 hn
    exact (hg j (List.mem_range.1 hj)).2
end

def intFields (P : Program) (fs : Array Field) (k : IntKind) : Bool := fs.toList.all fun f => match P.underlying f.type with
  | some (.int k') => k' == k
  | _ => false
theorem intFields_spec {P : Program} {fs : Array Field} {k : IntKind} (h : intFields P fs k = true) (j : Nat) (f : Field) (hj : fs[j]? = some f) : P.underlying f.type = some (.int k) := by
  have hm : f ∈ fs.toList := by
    have := Array.mem_of_getElem? hj
    simpa using this
  have := List.all_eq_true.1 h f hm
  split at this
  · rename_i k' hk
    rw [hk]
    simp at this
    rw [this]
  · cases this
theorem wf_i64 {n : Int} (h : (Lit.int .i64 n).wf = true) : -9223372036854775808 ≤ n ∧ n ≤ 9223372036854775807 := by
  simp only [Lit.wf, Bool.and_eq_true, decide_eq_true_eq] at h
  have e1 : IntKind.i64.min = -9223372036854775808 := by decide
  have e2 : IntKind.i64.max = 9223372036854775807 := by decide
  rw [e1, e2] at h
  exact h
end Go.Q
