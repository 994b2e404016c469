/- Logs of entries: what is told of them. -/
import Derived.Test.YtncjidepplaocaaLY
set_option linter.unusedVariables false
namespace Go.Q
abbrev Ks := List (Int × List UInt8)
/-- Can these entries stand behind a term? -/
def risingK : Int → Ks → Bool
  | _, [] => true
  | t, x :: l => if x.1 < max t 1 ∨ 1152921504606846976 < x.1 then false else risingK x.1 l
/-- The error of a new log. -/
def newE (base term : Int) (ks : Ks) : Int :=
  if 4096 < ks.length then 4 else if base < 0 ∨ 1152921504606846976 < base ∨ term < 0 ∨ 1152921504606846976 < term ∨ (base = 0 ∧ 0 < term) then 1 else if risingK term ks = true then 0 else 1
/-- A place's term, and the error. -/
def termK (base old : Int) (ks : Ks) (n : Int) : Int × Int :=
  if n < base ∨ base + ks.length < n then (0, 1) else if n = base then (old, 0) else ((ks.getD (n - base - 1).toNat (0, [])).1, 0)
def lastK (base old : Int) (ks : Ks) : Int := (termK base old ks (base + ks.length)).1
def appE (base old : Int) (ks ys : Ks) : Int := if 4096 < ks.length + ys.length then 4 else if risingK (lastK base old ks) ys = true then 0 else 1
/-- How many of ys stand in the log from behind n on. -/
def runK (base old : Int) (ks : Ks) : Int → Ks → Nat
  | _, [] => 0
  | n, y :: ys => if (termK base old ks (n + 1)).2 = 0 ∧ (termK base old ks (n + 1)).1 = y.1 then runK base old ks (n + 1) ys + 1 else 0
def matchT (base old : Int) (ks : Ks) (n : Int) (ys : Ks) : (Int × Int × Int) × Ks :=
  if runK base old ks n ys = ys.length then ((n + ys.length, 0, 0), ks)
  else if appE base old (ks.take (n + runK base old ks n ys - base).toNat) (ys.drop (runK base old ks n ys)) ≠ 0 then ((0, 0, appE base old (ks.take (n + runK base old ks n ys - base).toNat) (ys.drop (runK base old ks n ys))), ks)
  else ((n + ys.length, n + runK base old ks n ys + 1, 0), ks.take (n + runK base old ks n ys - base).toNat ++ ys.drop (runK base old ks n ys))
def matchK (base old : Int) (ks : Ks) (n term : Int) (ys : Ks) : (Int × Int × Int) × Ks :=
  if n < 0 ∨ term < 0 then ((0, 0, 1), ks)
  else if n < base then (if (ys.length : Int) < base - n then ((0, 0, 5), ks) else matchT base old ks base (ys.drop (base - n).toNat))
  else if termK base old ks n = (term, 0) then matchT base old ks n ys else ((0, 0, 5), ks)
def partK (base : Int) (ks : Ks) (n most : Int) : Ks := if most < 1 ∨ n ≤ base ∨ base + ks.length < n then [] else (ks.drop (n - base - 1).toNat).take most.toNat
def cutE (base : Int) (ks : Ks) (n : Int) : Int := if n ≤ base ∨ base + ks.length + 1 < n then 1 else 0
theorem at_or (base : Int) (m : Nat) (n : Int) : n < base ∨ base + m < n ∨ n = base ∨ ∃ k : Nat, n = base + (k : Int) + 1 ∧ k < m := by
  by_cases h1 : n < base
  · exact .inl h1
  · by_cases h2 : base + m < n
    · exact .inr (.inl h2)
    · by_cases h3 : n = base
      · exact .inr (.inr (.inl h3))
      · exact .inr (.inr (.inr ⟨(n - base - 1).toNat, by omega, by omega⟩))
theorem termK_none {base old n : Int} {ks : Ks} (h : n < base ∨ base + ks.length < n) : termK base old ks n = (0, 1) := by unfold termK; rw [if_pos h]
theorem termK_base (base old : Int) (ks : Ks) : termK base old ks base = (old, 0) := by unfold termK; rw [if_neg (by omega), if_pos rfl]
theorem termK_at {base old : Int} {ks : Ks} {k : Nat} {x : Int × List UInt8} (h : ks[k]? = some x) : termK base old ks (base + (k : Int) + 1) = (x.1, 0) := by
  have := (List.getElem?_eq_some_iff.1 h).1
  unfold termK
  rw [if_neg (by omega), if_neg (by omega), show (base + (k : Int) + 1 - base - 1).toNat = k by omega, List.getD_eq_getElem?_getD, h]
  rfl
theorem ekey_at {l : List EntP} {k : Nat} {x : EntP} (h : l[k]? = some x) : (l.map EntP.key)[k]? = some (x.term, x.cmd) := by rw [List.getElem?_map, h]; rfl
theorem risingK_drop {ks : Ks} {i : Nat} {x : Int × List UInt8} {t : Int} (h : ks[i]? = some x) : risingK t (ks.drop i) = if x.1 < max t 1 ∨ 1152921504606846976 < x.1 then false else risingK x.1 (ks.drop (i + 1)) := by
  obtain ⟨h1, h2⟩ := List.getElem?_eq_some_iff.1 h
  rw [List.drop_eq_getElem_cons h1, h2]
  rfl
theorem keys_len {l m : List EntP} (h : l.map EntP.key = m.map EntP.key) : l.length = m.length := by have := congrArg List.length h; simpa using this
end Go.Q
namespace Go.Q
theorem keys_len2 {l : List EntP} {ks : Ks} (h : l.map EntP.key = ks) : l.length = ks.length := by have := congrArg List.length h; simpa using this
end Go.Q
namespace Go.Q
theorem partK_here {base n : Int} {l la lb : List EntP} {k m : Nat} (hq : n = base + (k : Int) + 1) (hk : k < l.length) (hm : 1 ≤ m) (ha : la = (l.drop k).take (l.length - k)) (hb : lb = la.take (min m la.length)) :
    partK base (l.map EntP.key) n (m : Int) = lb.map EntP.key := by
  have h1 : la = l.drop k := by rw [ha, List.take_of_length_le (by simp)]
  subst h1
  subst hb
  unfold partK
  rw [List.length_map, if_neg (by omega), show (n - base - 1).toNat = k by omega, Int.toNat_natCast, List.map_take, List.map_drop, List.take_eq_take_iff]
  simp
theorem partK_none {base n most : Int} {l : List EntP} (h : most < 1 ∨ n ≤ base ∨ base + (l.length : Int) < n) : partK base (l.map EntP.key) n most = [] := by
  unfold partK; rw [List.length_map, if_pos h]
end Go.Q
namespace Go.Q
/-- The commands' bytes are not too many. -/
def BigK (ks : Ks) : Prop := ∀ y ∈ ks, y.2.length ≤ 140737488351232
theorem BigK.nil : BigK [] := fun y hy => by cases hy
theorem BigK.l {l : List EntP} (h : BigK (l.map EntP.key)) : ∀ x ∈ l, x.cmd.length ≤ 140737488351232 := fun x hx => h (x.term, x.cmd) (List.mem_map.2 ⟨x, hx, rfl⟩)
theorem BigK.of {l : List EntP} (h : ∀ x ∈ l, x.cmd.length ≤ 140737488351232) : BigK (l.map EntP.key) := fun y hy => by obtain ⟨x, hx, rfl⟩ := List.mem_map.1 hy; exact h x hx
theorem BigK.take {l m : List EntP} {k : Nat} (hl : l = m.take k) (h : BigK (m.map EntP.key)) : BigK (l.map EntP.key) := .of fun x hx => h.l x (List.mem_of_mem_take (hl ▸ hx))
theorem BigK.cut {l m : List EntP} {k j : Nat} (hl : l = (m.drop k).take j) (h : BigK (m.map EntP.key)) : BigK (l.map EntP.key) := .of fun x hx => h.l x (List.mem_of_mem_drop (List.mem_of_mem_take (hl ▸ hx)))
theorem BigK.drop {ks : Ks} (k : Nat) (h : BigK ks) : BigK (ks.drop k) := fun y hy => h y (List.mem_of_mem_drop hy)
theorem BigK.takeK {ks : Ks} (k : Nat) (h : BigK ks) : BigK (ks.take k) := fun y hy => h y (List.mem_of_mem_take hy)
theorem BigK.app {ks ms : Ks} (h : BigK ks) (k : BigK ms) : BigK (ks ++ ms) := fun y hy => (List.mem_append.1 hy).elim (h y) (k y)
theorem BigK.part {ks : Ks} (base n most : Int) (h : BigK ks) : BigK (partK base ks n most) := by unfold partK; split; exact .nil; exact (h.drop _).takeK _
theorem BigK.keys {l : List EntP} {ks : Ks} (hK : l.map EntP.key = ks) (h : BigK ks) : BigK (l.map EntP.key) := hK ▸ h
theorem BigK.match_ {base old n t : Int} {ks ys : Ks} (h : BigK ks) (k : BigK ys) : BigK (matchK base old ks n t ys).2 := by
  have hT : ∀ m zs, BigK zs → BigK (matchT base old ks m zs).2 := by
    intro m zs hz
    unfold matchT
    split
    · exact h
    · split
      · exact h
      · exact (h.takeK _).app (hz.drop _)
  unfold matchK
  split
  · exact h
  · split
    · split
      · exact h
      · exact hT _ _ (k.drop _)
    · split
      · exact hT _ _ k
      · exact h
end Go.Q
namespace Go.Q
theorem newE_ok {base t : Int} {ks : Ks} (h : newE base t ks = 0) : ks.length ≤ 4096 ∧ (0 ≤ base ∧ base ≤ 1152921504606846976 ∧ 0 ≤ t ∧ t ≤ 1152921504606846976 ∧ ¬ (base = 0 ∧ 0 < t)) ∧ risingK t ks = true := by
  unfold newE at h
  split at h
  · cases h
  · split at h
    · cases h
    · split at h
      · exact ⟨by omega, by omega, by assumption⟩
      · cases h
end Go.Q
namespace Go.Q
theorem appE_ok {base old : Int} {ks ys : Ks} (h : appE base old ks ys = 0) : ks.length + ys.length ≤ 4096 ∧ risingK (lastK base old ks) ys = true := by
  unfold appE at h
  split at h
  · cases h
  · split at h
    · exact ⟨by omega, by assumption⟩
    · cases h
theorem cut_or (base : Int) (m : Nat) (n : Int) : (n ≤ base ∨ base + (m : Int) + 1 < n) ∨ ∃ k : Nat, n = base + (k : Int) + 1 ∧ k ≤ m := by
  by_cases h : n ≤ base ∨ base + (m : Int) + 1 < n
  · exact .inl h
  · exact .inr ⟨(n - base - 1).toNat, by omega, by omega⟩
end Go.Q
namespace Go.Q
theorem comp_or (base : Int) (m : Nat) (n : Int) : (n < base ∨ base + (m : Int) < n) ∨ ∃ k : Nat, n = base + (k : Int) ∧ k ≤ m := by
  by_cases h : n < base ∨ base + (m : Int) < n
  · exact .inl h
  · exact .inr ⟨(n - base).toNat, by omega, by omega⟩
theorem termK_ok {base old n : Int} {ks : Ks} (h : base ≤ n ∧ n ≤ base + ks.length) : (termK base old ks n).2 = 0 := by
  unfold termK
  rw [if_neg (by omega)]
  split <;> rfl
theorem runK_high {base old n : Int} {ks : Ks} (h : base + ks.length < n + 1) (zs : Ks) : runK base old ks n zs = 0 := by
  cases zs with
  | nil => rfl
  | cons z zs =>
    unfold runK
    rw [termK_none (.inr h), if_neg (by simp)]
theorem runK_ne {base old n : Int} {ks zs : Ks} {k : Nat} {x y : Int × List UInt8} (hn : n + 1 = base + (k : Int) + 1) (hx : ks[k]? = some x) (hy : zs[0]? = some y) (h : x.1 ≠ y.1) : runK base old ks n zs = 0 := by
  cases zs with
  | nil => rfl
  | cons z zs =>
    simp only [List.getElem?_cons_zero, Option.some.injEq] at hy
    subst hy
    unfold runK
    rw [hn, termK_at hx, if_neg (by simp [h])]
theorem runK_eq {base old n : Int} {ks zs : Ks} {k : Nat} {x y : Int × List UInt8} (hn : n + 1 = base + (k : Int) + 1) (hx : ks[k]? = some x) (hy : zs[0]? = some y) (h : x.1 = y.1) : runK base old ks n zs = runK base old ks (n + 1) (zs.drop 1) + 1 := by
  cases zs with
  | nil => cases hy
  | cons z zs =>
    simp only [List.getElem?_cons_zero, Option.some.injEq] at hy
    subst hy
    have : (termK base old ks (n + 1)).2 = 0 ∧ (termK base old ks (n + 1)).1 = z.1 := by rw [hn, termK_at hx]; exact ⟨rfl, h⟩
    rw [runK, if_pos this, List.drop_succ_cons, List.drop_zero]
theorem matchT_end {base old n : Int} {ks ys : Ks} (h : runK base old ks n ys = ys.length) : matchT base old ks n ys = ((n + ys.length, 0, 0), ks) := by unfold matchT; rw [if_pos h]
theorem matchT_bad {base old n : Int} {ks ys : Ks} {i j : Nat} (h : runK base old ks n ys = i) (hi : i < ys.length) (hj : n + (i : Int) = base + (j : Int)) (ha : appE base old (ks.take j) (ys.drop i) ≠ 0) : matchT base old ks n ys = ((0, 0, appE base old (ks.take j) (ys.drop i)), ks) := by
  unfold matchT
  rw [h, if_neg (by omega), show (n + (i : Int) - base).toNat = j by omega, if_pos ha]
theorem matchT_ok {base old n : Int} {ks ys : Ks} {i j : Nat} (h : runK base old ks n ys = i) (hi : i < ys.length) (hj : n + (i : Int) = base + (j : Int)) (ha : appE base old (ks.take j) (ys.drop i) = 0) : matchT base old ks n ys = ((n + ys.length, n + i + 1, 0), ks.take j ++ ys.drop i) := by
  unfold matchT
  rw [h, if_neg (by omega), show (n + (i : Int) - base).toNat = j by omega, if_neg (not_not_intro ha)]
end Go.Q
namespace Go.Q
theorem partK_len (base : Int) (ks : Ks) (n most : Int) : (partK base ks n most).length ≤ ks.length := by
  unfold partK
  split
  · simp
  · rw [List.length_take, List.length_drop]; omega
end Go.Q
