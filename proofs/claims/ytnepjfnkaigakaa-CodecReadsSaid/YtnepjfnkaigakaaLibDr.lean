/- Regions that draw: a load and a new block, in either order. -/
import Derived.Test.YtnepjfnkaigakaaLibRow
set_option linter.unusedVariables false
namespace Go.Q
open Go.RowKit

section
variable {P : Program} {n : Nat} {os : Array Oper} {K : Loc → World → Prop} {L L' : Loc} {w : World} {i j : Nat} {d di dj : Option Tmp} {S : World → Prop} {fuel : Nat} {is : List Nat}

theorem Dr.opStep {v : Value} {w' : World} (h0 : okAt os L i = true) (hx : Runs P L (opn os i) w v w') (hd : dst? os i = some d) (hs : setL n d v L = some L')
    (hS' : S w') (hn : Dr P n os S fuel (i :: is) K L' w') {a : Act} (ha : Rep n a L) : wpOp P os (drPost n K) i (fun a' w' => S w' ∧ wpAnyH P .any os (drPost n K) S fuel (marks os.size (i :: is)) a' w') a w := by
  have h1 := at?_opn h0
  obtain ⟨ho, hw, hp, hkn⟩ := at?_spec h1
  have hd' : (opn os i).dst = d := by simpa [dst?, ho] using hd
  unfold Runs at hx
  unfold wpOp
  simp only [ho, wants_wanted ha hw, if_true, Oper.wp, exec_known ha hp hkn, hx, Oper.upon]
  exact .inl ⟨hS', hn hS' _ (ha.setL (by rw [hd']; exact hs))⟩

theorem Runs.new {o : Obj} {V : Nat → Value} (h : newAt? P os L i = some (o, fun b => some (V b))) : okAt os L i = true ∧ Runs P L (opn os i) w (V w.heap.size) (w.alloc o) := by
  unfold newAt? at h
  cases h0 : at? os L i with
  | none => rw [h0] at h; cases h
  | some o' =>
    rw [h0] at h
    simp only at h
    have hopn : opn os i = o' := by have := (at?_spec h0).1; simp [opn, this]
    exact ⟨by simp [okAt, h0], by rw [hopn]; exact new?_run _ w h rfl⟩

theorem Dr.load_new {t : TypeId} {a : Addr} {v : Value} {o : Obj} {V : Nat → Value} {L1 : Loc} {L2 R : Nat → Loc}
    (hr : Region.ready .any os (marks os.size is) = [i, j]) (hij : Region.ready .any os (marks os.size (i :: is)) = [j]) (hji : Region.ready .any os (marks os.size (j :: is)) = [i]) (hm : marks os.size (i :: j :: is) = marks os.size (j :: i :: is))
    (hi0 : okAt os L i = true) (hld : ld? L (opn os i) = some (t, a)) (hdi : dst? os i = some di) (hsi : setL n di v L = some L1)
    (hn1 : newAt? P os L1 j = some (o, fun b => some (V b))) (hdj : dst? os j = some dj) (hsj1 : ∀ b, ∃ Lx, setL n dj (V b) L1 = some Lx ∧ restrict Lx ((R b).map Prod.fst) = some (R b))
    (hn0 : newAt? P os L j = some (o, fun b => some (V b))) (hsj0 : ∀ b, setL n dj (V b) L = some (L2 b)) (hi2 : ∀ b, okAt os (L2 b) i = true) (hld2 : ∀ b, ld? (L2 b) (opn os i) = some (t, a))
    (hsi2 : ∀ b, ∃ Lx, setL n di v (L2 b) = some Lx ∧ restrict Lx ((R b).map Prod.fst) = some (R b))
    (hl : ∀ w', Keeps none_ w w' → Loads P w' t a v) (hS : S w)
    (hn : ∀ b w', b = w.heap.size → Has w' b o → Keeps none_ w w' → w'.heap.size = b + 1 → S w' ∧ Dr P n os S fuel (j :: i :: is) K (R b) w') : Dr P n os S (fuel + 2) is K L w := by
  intro hS0 act ha
  obtain ⟨hS2, hD⟩ := hn w.heap.size (w.alloc o) rfl (Has.new w o) (Keeps.alloc w o) (by simp)
  refine wpAnyH_all hr (by simp) fun q hq => ?_
  simp only [List.mem_cons, List.not_mem_nil, or_false] at hq
  rcases hq with rfl | rfl
  · refine Dr.opStep hi0 (Runs.load hld (hl w (Keeps.refl w))) hdi hsi hS ?_ ha
    obtain ⟨h1, h2⟩ := Runs.new (w := w) hn1
    obtain ⟨Lx, hx, hx2⟩ := hsj1 w.heap.size
    exact Dr.go hij h1 h2 hdj hx hS2 (Dr.keep hx2 hD)
  · obtain ⟨h1, h2⟩ := Runs.new (w := w) hn0
    refine Dr.opStep h1 h2 hdj (hsj0 _) hS2 ?_ ha
    obtain ⟨Lx, hx, hx2⟩ := hsi2 w.heap.size
    refine Dr.go hji (hi2 _) (Runs.load (hld2 _) (hl _ (Keeps.alloc w o))) hdi hx hS2 (Dr.keep hx2 ?_)
    unfold Dr at hD ⊢
    rw [hm]
    exact hD
end

theorem intsR_at (l : List Int) (rest : List Value) (k : Nat) (hk : k < l.length) : (ints l ++ rest)[k]? = some (i64 (l.getD k 0)) := by
  rw [List.getElem?_append_left (by rw [ints_length]; exact hk), intsL_at _ _ hk]
theorem intsR_set (l : List Int) (rest : List Value) (k : Nat) (hk : k < l.length) (x : Int) : (ints l ++ rest).set k (i64 x) = ints (l.set k x) ++ rest := by
  rw [List.set_append_left _ _ (by rw [ints_length]; exact hk), ints_set]
end Go.Q
