/- What is told of logs: the laws of matching, and of parts; entries that are joined. -/
import Derived.Test.YtncjidepplaocaaMB
set_option linter.unusedVariables false
namespace Go.Q
/-- Where the whole run is met, each of its terms stands there. -/
theorem runK_get {base old : Int} {ks : Ks} : ∀ (ys : Ks) (n : Int) (j : Nat), j < runK base old ks n ys → termK base old ks (n + (j : Int) + 1) = ((ys.getD j (0, [])).1, 0)
  | [], n, j, h => by simp [runK] at h
  | y :: ys, n, j, h => by
    unfold runK at h
    split at h
    · next hc =>
      cases j with
      | zero =>
        rw [show n + ((0 : Nat) : Int) + 1 = n + 1 by omega]
        exact Prod.ext hc.2 hc.1
      | succ j =>
        have := runK_get (base := base) (old := old) (ks := ks) ys (n + 1) j (by omega)
        rw [show n + ((j + 1 : Nat) : Int) + 1 = n + 1 + (j : Int) + 1 by omega, this]
        simp
    · omega
theorem runK_full {base old : Int} {ks : Ks} : ∀ (ys : Ks) (n : Int), (∀ j, j < ys.length → termK base old ks (n + (j : Int) + 1) = ((ys.getD j (0, [])).1, 0)) → runK base old ks n ys = ys.length
  | [], n, h => rfl
  | y :: ys, n, h => by
    have h0 := h 0 (by simp)
    rw [show n + ((0 : Nat) : Int) + 1 = n + 1 by omega] at h0
    have := runK_full ys (n + 1) fun j hj => by
      have := h (j + 1) (by simpa using hj)
      rw [show n + ((j + 1 : Nat) : Int) + 1 = n + 1 + (j : Int) + 1 by omega] at this
      rw [this]
      simp
    unfold runK
    rw [if_pos (by rw [h0]; exact ⟨rfl, by simp⟩), this]
    rfl
theorem runK_le {base old : Int} {ks : Ks} : ∀ (ys : Ks) (n : Int), runK base old ks n ys ≤ ys.length
  | [], n => Nat.le_refl _
  | y :: ys, n => by
    unfold runK
    split
    · have := runK_le (base := base) (old := old) (ks := ks) ys (n + 1)
      simp only [List.length_cons]; omega
    · simp
/-- A place's term behind the base. -/
theorem termK_in {base old n : Int} {ks : Ks} {j : Nat} (hn : n = base + (j : Int) + 1) (hj : j < ks.length) : termK base old ks n = ((ks.getD j (0, [])).1, 0) := by
  unfold termK
  rw [if_neg (by omega), if_neg (by omega), show (n - base - 1).toNat = j by omega]
theorem getD_app1 {a b : Ks} {j : Nat} (h : j < a.length) : (a ++ b).getD j (0, []) = a.getD j (0, []) := by
  rw [List.getD_eq_getElem?_getD, List.getD_eq_getElem?_getD, List.getElem?_append_left h]
theorem getD_app2 {a b : Ks} {j : Nat} (h : a.length ≤ j) : (a ++ b).getD j (0, []) = b.getD (j - a.length) (0, []) := by
  rw [List.getD_eq_getElem?_getD, List.getD_eq_getElem?_getD, List.getElem?_append_right h]
/-- What is the same up to a place has the same terms up to there. -/
theorem termK_pre {base old k : Int} {s a b : Ks} (h : k ≤ base + (s.length : Int)) : termK base old (s ++ a) k = termK base old (s ++ b) k := by
  by_cases h1 : k < base
  · rw [termK_none (.inl h1), termK_none (.inl h1)]
  · by_cases h2 : k = base
    · subst h2; rw [termK_base, termK_base]
    · obtain ⟨j, hj⟩ : ∃ j : Nat, k = base + (j : Int) + 1 := ⟨(k - base - 1).toNat, by omega⟩
      rw [termK_in hj (by rw [List.length_append]; omega), termK_in hj (by rw [List.length_append]; omega), getD_app1 (by omega), getD_app1 (by omega)]
/-- The terms of a part. -/
theorem part_get {base old n most : Int} {ks : Ks} {j : Nat} (h : j < (partK base ks n most).length) (hb : base < n) : termK base old ks (n + (j : Int)) = (((partK base ks n most).getD j (0, [])).1, 0) := by
  unfold partK at h ⊢
  split at h
  · simp at h
  · next hc =>
    rw [if_neg hc]
    rw [List.length_take, List.length_drop] at h
    rw [termK_in (j := (n - base - 1).toNat + j) (by omega) (by omega), getD_take (by omega), getD_drop]
/-- What matching with a part of another log comes to. -/
structure MatchLaw (ks ms : Ks) (n t : Int) (ys : Ks) : Prop where
  err : (matchK 0 0 ks n t ys).1.2.2 = 0 ∨ (matchK 0 0 ks n t ys).1.2.2 = 1
  told : (matchK 0 0 ks n t ys).1.2.2 = 0 → (matchK 0 0 ks n t ys).1.1 = n + (ys.length : Int)
  same : (matchK 0 0 ks n t ys).1.2.2 = 0 → ∀ k, 0 ≤ k → k ≤ n + (ys.length : Int) → termK 0 0 (matchK 0 0 ks n t ys).2 k = termK 0 0 ms k ∧ (termK 0 0 ms k).2 = 0
  again : (matchK 0 0 ks n t ys).1.2.2 = 0 → matchK 0 0 (matchK 0 0 ks n t ys).2 n t ys = ((n + (ys.length : Int), 0, 0), (matchK 0 0 ks n t ys).2)
theorem matches_law {s a b : Ks} {most : Int} (hk : newE 0 0 (s ++ a) = 0) (hm : newE 0 0 (s ++ b) = 0) (hkl : (s ++ a).length ≤ 60) (hml : (s ++ b).length ≤ 60) :
    MatchLaw (s ++ a) (s ++ b) (s.length : Int) (termK 0 0 (s ++ b) (s.length : Int)).1 (partK 0 (s ++ b) ((s.length : Int) + 1) most) := by
  generalize hY : partK 0 (s ++ b) ((s.length : Int) + 1) most = ys
  have hyl : ys.length ≤ 60 := by have := partK_len 0 (s ++ b) ((s.length : Int) + 1) most; rw [hY] at this; omega
  have hys : ∀ j, j < ys.length → termK 0 0 (s ++ b) ((s.length : Int) + (j : Int) + 1) = ((ys.getD j (0, [])).1, 0) := by
    intro j hj
    have := part_get (base := 0) (old := 0) (n := (s.length : Int) + 1) (most := most) (ks := s ++ b) (j := j) (by rw [hY]; exact hj) (by omega)
    rw [hY] at this
    rw [show (s.length : Int) + (j : Int) + 1 = (s.length : Int) + 1 + (j : Int) by omega]
    exact this
  have hyb : ys.length ≤ b.length := by
    rw [← hY]
    unfold partK
    split
    · simp
    · rw [List.length_take, List.length_drop, List.length_append]; omega
  have ht : termK 0 0 (s ++ a) (s.length : Int) = ((termK 0 0 (s ++ b) (s.length : Int)).1, 0) := by
    rw [termK_pre (b := b) (by omega)]
    exact Prod.ext rfl (termK_ok (by rw [List.length_append]; omega))
  have ht0 : 0 ≤ (termK 0 0 (s ++ b) (s.length : Int)).1 := by
    by_cases h0 : s.length = 0
    · rw [h0]; rw [show ((0 : Nat) : Int) = 0 from rfl, termK_base]; exact Int.le_refl _
    · have hr := rising_on (s ++ b) 0 s.length (newE_ok hm).2.2
      rw [termK_in (j := s.length - 1) (by omega) (by rw [List.length_append]; omega)]
      have hall : ∀ (l : Ks) (t : Int), risingK t l = true → ∀ x ∈ l, 1 ≤ x.1 := by
        intro l
        induction l with
        | nil => intro t _ x hx; cases hx
        | cons y l ih =>
          intro t h x hx
          unfold risingK at h
          split at h
          · cases h
          · rcases List.mem_cons.1 hx with rfl | hx
            · omega
            · exact ih _ h x hx
      have hin : (s ++ b).getD (s.length - 1) (0, []) ∈ s ++ b := by
        rw [List.getD_eq_getElem?_getD, List.getElem?_eq_getElem (by rw [List.length_append]; omega)]
        exact List.getElem_mem _
      have := hall _ 0 (newE_ok hm).2.2 _ hin
      show 0 ≤ ((s ++ b).getD (s.length - 1) (0, [])).1
      omega
  generalize hT : (termK 0 0 (s ++ b) (s.length : Int)).1 = t at ht ht0 ⊢
  have into : ∀ ks : Ks, termK 0 0 ks (s.length : Int) = (t, 0) → matchK 0 0 ks (s.length : Int) t ys = matchT 0 0 ks (s.length : Int) ys := by
    intro ks h
    unfold matchK
    rw [if_neg (by omega), if_neg (by omega), if_pos h]
  have one : ∀ ks' : Ks, (∀ k, 0 ≤ k → k ≤ (s.length : Int) + (ys.length : Int) → termK 0 0 ks' k = termK 0 0 (s ++ b) k) →
      matchK 0 0 ks' (s.length : Int) t ys = (((s.length : Int) + (ys.length : Int), 0, 0), ks') := by
    intro ks' h
    rw [into ks' (by rw [h _ (by omega) (by omega), ← hT]; exact Prod.ext rfl (termK_ok (by rw [List.length_append]; omega)))]
    exact matchT_end (runK_full ys _ fun j hj => by rw [h _ (by omega) (by omega)]; exact hys j hj)
  have okm : ∀ k, 0 ≤ k → k ≤ (s.length : Int) + (ys.length : Int) → (termK 0 0 (s ++ b) k).2 = 0 := fun k h1 h2 => termK_ok (by rw [List.length_append]; omega)
  have hle := runK_le (base := 0) (old := 0) (ks := s ++ a) ys (s.length : Int)
  have hget := runK_get (base := 0) (old := 0) (ks := s ++ a) ys (s.length : Int)
  have hto := into (s ++ a) ht
  generalize hr : runK 0 0 (s ++ a) (s.length : Int) ys = r at hle hget
  -- up to where the run went, both are the same
  have run : ∀ k, 0 ≤ k → k ≤ (s.length : Int) + (r : Int) → termK 0 0 (s ++ a) k = termK 0 0 (s ++ b) k := by
    intro k h1 h2
    by_cases h3 : k ≤ (s.length : Int)
    · exact termK_pre (by omega)
    · obtain ⟨j, hj⟩ : ∃ j : Nat, k = (s.length : Int) + (j : Int) + 1 := ⟨(k - s.length - 1).toNat, by omega⟩
      rw [hj, hget j (by omega), hys j (by omega)]
  by_cases hend : r = ys.length
  · subst hend
    have e : matchK 0 0 (s ++ a) (s.length : Int) t ys = (((s.length : Int) + (ys.length : Int), 0, 0), s ++ a) := by rw [hto]; exact matchT_end hr
    exact ⟨by rw [e]; exact .inl rfl, fun _ => by rw [e], fun _ k h1 h2 => by rw [e]; exact ⟨run k h1 h2, okm k h1 h2⟩, fun _ => by rw [e]; exact one _ run⟩
  · have hlt : r < ys.length := by omega
    have hra : s.length + r ≤ (s ++ a).length := by
      by_cases h0 : r = 0
      · rw [List.length_append]; omega
      · have h1 := hget (r - 1) (by omega)
        have h2 : ¬ (0 + ((s ++ a).length : Int) < (s.length : Int) + ((r - 1 : Nat) : Int) + 1) := by
          intro h
          rw [termK_none (.inr h)] at h1
          have := congrArg Prod.snd h1
          simp at this
        omega
    by_cases happ : appE 0 0 ((s ++ a).take (s.length + r)) (ys.drop r) = 0
    · have e : matchK 0 0 (s ++ a) (s.length : Int) t ys = (((s.length : Int) + (ys.length : Int), (s.length : Int) + r + 1, 0), (s ++ a).take (s.length + r) ++ ys.drop r) := by
        rw [hto]; exact matchT_ok hr hlt (by omega) happ
      have htl : ((s ++ a).take (s.length + r)).length = s.length + r := by rw [List.length_take]; omega
      have now : ∀ k, 0 ≤ k → k ≤ (s.length : Int) + (ys.length : Int) → termK 0 0 ((s ++ a).take (s.length + r) ++ ys.drop r) k = termK 0 0 (s ++ b) k := by
        intro k h1 h2
        by_cases h3 : k ≤ (s.length : Int) + (r : Int)
        · rw [← run k h1 h3]
          have := termK_pre (base := 0) (old := 0) (k := k) (s := (s ++ a).take (s.length + r)) (a := ys.drop r) (b := (s ++ a).drop (s.length + r)) (by rw [htl]; omega)
          rw [this, List.take_append_drop]
        · obtain ⟨j, hj⟩ : ∃ j : Nat, k = (s.length : Int) + (j : Int) + 1 := ⟨(k - s.length - 1).toNat, by omega⟩
          rw [termK_in (j := s.length + j) (by omega) (by rw [List.length_append, htl, List.length_drop]; omega), getD_app2 (by omega), htl, getD_drop, hj, hys j (by omega)]
          rw [show r + (s.length + j - (s.length + r)) = j by omega]
      exact ⟨by rw [e]; exact .inl rfl, fun _ => by rw [e], fun _ k h1 h2 => by rw [e]; exact ⟨now k h1 h2, okm k h1 h2⟩, fun _ => by rw [e]; exact one _ now⟩
    · have e : matchK 0 0 (s ++ a) (s.length : Int) t ys = ((0, 0, appE 0 0 ((s ++ a).take (s.length + r)) (ys.drop r)), s ++ a) := by
        rw [hto]; exact matchT_bad hr hlt (by omega) happ
      have h1 : appE 0 0 ((s ++ a).take (s.length + r)) (ys.drop r) = 1 := by
        unfold appE at happ ⊢
        rw [if_neg (by rw [List.length_take, List.length_drop]; omega)] at happ ⊢
        split
        · next h => rw [if_pos h] at happ; exact absurd rfl happ
        · rfl
      have h0 : (matchK 0 0 (s ++ a) (s.length : Int) t ys).1.2.2 ≠ 0 := by rw [e]; exact happ
      exact ⟨by rw [e]; exact .inr h1, fun h => absurd h h0, fun h => absurd h h0, fun h => absurd h h0⟩
/-- Parts that meet are all. -/
theorem parts_law {base : Int} {ks : Ks} {k : Nat} (hk : k ≤ ks.length) (h : ks.length ≤ 60) : (if 0 < k then partK base ks (base + 1) (k : Int) else []) ++ partK base ks (base + 1 + (k : Int)) 99 = ks := by
  rw [part_rest (k := k) (by omega) hk (by omega)]
  by_cases h0 : 0 < k
  · rw [if_pos h0]
    unfold partK
    rw [if_neg (by omega), show (base + 1 - base - 1).toNat = 0 by omega, List.drop_zero, Int.toNat_natCast, List.take_append_drop]
  · rw [if_neg h0, show k = 0 by omega]
    simp
/-- An own row of entries out of entries that are read. -/
theorem Ents.join1 {w : World} {base e : Nat} {v x : Value} {a l : List EntP} {T : Nat → Prop} (hO : OwnT w base e 2 EntP.cells v l) (hl : l = [] ++ a) (ha : Ents w T x a) :
    Ents w (fun i => (T i ∨ v.ownBlock = some i) ∧ i < w.heap.size) v l where
  rd := OwnT.rd hO
  ins y hy := ha.ins y (by rw [hl] at hy; simpa using hy)
  own _ i hi := ⟨.inr hi, (World.ownsRow.lt hO i hi).2⟩
  inn y hy hc i hi := by
    have h := ha.inn y (by rw [hl] at hy; simpa using hy) hc i hi
    exact ⟨.inl h, ha.lt i h⟩
  lt i hi := hi.2
theorem Ents.join2 {w : World} {base e : Nat} {v x y : Value} {a b l0 l : List EntP} {T U : Nat → Prop} (hO : OwnT w base e 2 EntP.cells v l) (hl0 : l0 = [] ++ a) (hl : l = l0 ++ b) (ha : Ents w T x a) (hb : Ents w U y b) :
    Ents w (fun i => (T i ∨ U i ∨ v.ownBlock = some i) ∧ i < w.heap.size) v l where
  rd := OwnT.rd hO
  ins z hz := by
    rw [hl, hl0] at hz
    rcases List.mem_append.1 hz with h | h
    · exact ha.ins z (by simpa using h)
    · exact hb.ins z h
  own _ i hi := ⟨.inr (.inr hi), (World.ownsRow.lt hO i hi).2⟩
  inn z hz hc i hi := by
    rw [hl, hl0] at hz
    rcases List.mem_append.1 hz with h | h
    · have h := ha.inn z (by simpa using h) hc i hi
      exact ⟨.inl h, ha.lt i h⟩
    · have h := hb.inn z h hc i hi
      exact ⟨.inr (.inl h), hb.lt i h⟩
  lt i hi := hi.2
theorem matchK_len {base old n t : Int} {ks ys : Ks} (h : ks.length ≤ 4096) : (matchK base old ks n t ys).2.length ≤ 4096 := by
  have hT : ∀ m zs, (matchT base old ks m zs).2.length ≤ 4096 := by
    intro m zs
    unfold matchT
    split
    · exact h
    · split
      · exact h
      · next ha =>
        have := (appE_ok (Decidable.not_not.1 ha)).1
        simp only [List.length_append]
        exact this
  unfold matchK
  split
  · exact h
  · split
    · split
      · exact h
      · exact hT _ _
    · split
      · exact hT _ _
      · exact h
theorem rising_all : ∀ (l : Ks) (t : Int), risingK t l = true → ∀ x ∈ l, 1 ≤ x.1 ∧ x.1 ≤ 1152921504606846976
  | [], t, _, x, hx => by cases hx
  | y :: l, t, h, x, hx => by
    unfold risingK at h
    split at h
    · cases h
    · rcases List.mem_cons.1 hx with rfl | hx
      · omega
      · exact rising_all l _ h x hx
theorem termK_range {base old n : Int} {ks : Ks} (h : newE base old ks = 0) : 0 ≤ (termK base old ks n).1 ∧ (termK base old ks n).1 ≤ 1152921504606846976 := by
  obtain ⟨h1, h2, h3⟩ := newE_ok h
  unfold termK
  split
  · simp
  · split
    · exact ⟨h2.2.2.1, h2.2.2.2.1⟩
    · have hin : ks.getD (n - base - 1).toNat (0, []) ∈ ks := by
        rw [List.getD_eq_getElem?_getD, List.getElem?_eq_getElem (by omega)]
        exact List.getElem_mem _
      have := rising_all _ _ h3 _ hin
      exact ⟨by show 0 ≤ (ks.getD (n - base - 1).toNat (0, [])).1; omega, this.2⟩
end Go.Q
