/- Rows with room behind: their block, what stands in it, and appending. -/
import Derived.Test.YtnepjfnkaigakaaLibStr
set_option linter.unusedVariables false
namespace Go.Q
open Go.RowKit

section
variable {P : Program} {w : World} {t ty e sz bytes n cap g : Nat} {xs rest ys : List Value}

/-- append to nil, of a slice that is read and not empty. -/
theorem app_row0 (T : ElemTy P t e sz bytes) {x : Value} {m : Nat} (hr : Rd w sz x ys) (hm : ys.length = m * sz) (h0 : 0 < m) (hb : m * bytes ≤ 140737488355328) (hl : m ≤ maxLen) :
    ∃ g' cap' rest' w', (Builtin.append_ #[t, t] ty #[.slice none 0 0, x]).run P w = .ok (.slice (some ⟨g', 0, none⟩) m cap') w' ∧ Has w' g' (rowL (ys ++ rest') e) ∧ ys.length + rest'.length = cap' * sz ∧ m ≤ cap' ∧ cap' ≤ maxLen ∧ Keeps none_ w w' ∧ g' = w.heap.size := by
  obtain ⟨A, k, c, rfl, hk, hkc, hcm, hc⟩ := hr
  obtain ⟨i, z, hi, hz, hs, hby, hzs⟩ := T.info
  have hmk : m = k := Nat.eq_of_mul_eq_mul_right T.pos (hm.symm.trans hk)
  subst hmk
  obtain ⟨b, off, rfl, hcell⟩ := hc h0
  subst hs
  subst hby
  have hr := run_append_nil (P := P) w t ty e i z T.slice hi hz ⟨b, off, none⟩ m c ys hm (fun j u hu => by rw [add_plain]; exact hcell j u hu) (by omega) (by simp only [maxLen] at hl; omega) (by omega)
  have hge := grownCap_ge w m 0 e
  have hcm := grownCap_le_maxLen w m 0 e hl
  refine ⟨w.heap.size, _, (Builtin.zeroCells z.cells (grownCap w m 0 e - m)).toList, _, hr, ?_, ?_, hge, hcm, ⟨rfl, rfl, rfl, by simp, fun k hk _ => heap_alloc_old w.drew _ k hk⟩, rfl⟩
  · unfold Has
    rw [show w.heap.size = w.drew.heap.size from rfl, heap_alloc_new w.drew _]
    simp [rowL]
  · simp only [Array.length_toList, size_zeroCells, hzs, hm, ← Nat.add_mul]
    congr 1
    omega

/-- append to a row that is one's own. -/
theorem app_row (T : ElemTy P t e sz bytes) (h : Has w g (rowL (xs ++ rest) e)) (hx : xs.length = n * sz) (hcp : xs.length + rest.length = cap * sz) (hnc : n ≤ cap) (hcm : cap ≤ maxLen) {x : Value} {m : Nat} (hr : Rd w sz x ys) (hm : ys.length = m * sz) (h0 : 0 < m)
    (h1 : oneCells ys = true) (hb : (n + m) * bytes ≤ 140737488355328) (hl : n + m ≤ maxLen) :
    ∃ g' cap' rest' w', (Builtin.append_ #[t, t] ty #[.slice (some ⟨g, 0, none⟩) n cap, x]).run P w = .ok (.slice (some ⟨g', 0, none⟩) (n + m) cap') w' ∧ Has w' g' (rowL ((xs ++ ys) ++ rest') e) ∧ (xs ++ ys).length + rest'.length = cap' * sz ∧ n + m ≤ cap' ∧ cap' ≤ maxLen ∧
      Keeps (fun i => i = g) w w' ∧ (g' = g ∨ g' = w.heap.size) := by
  obtain ⟨A, k, c, rfl, hk, hkc, hcm2, hc⟩ := hr
  obtain ⟨i, z, hi, hz, hs, hby, hzs⟩ := T.info
  have hmk : m = k := Nat.eq_of_mul_eq_mul_right T.pos (hm.symm.trans hk)
  subst hmk
  obtain ⟨b, off, rfl, hcell⟩ := hc h0
  subst hs
  subst hby
  have hcell' : ∀ j u, ys[j]? = some u → w.cell? ((⟨b, off, none⟩ : Addr).add j) = some u := fun j u hu => by rw [add_plain]; exact hcell j u hu
  have hbig : n + m ≤ 9223372036854775807 := by simp only [maxLen] at hl; omega
  by_cases hroom : n + m ≤ cap
  · have hcs : (xs ++ rest).toArray.size = cap * i.size := by simp [hcp]
    have hfit : n * i.size + ys.length ≤ (xs ++ rest).toArray.size := by rw [hm, hcs, ← Nat.add_mul]; exact Nat.mul_le_mul_right _ hroom
    have hr := run_append_room (P := P) w t ty e i T.slice hi g n cap (xs ++ rest).toArray h ⟨b, off, none⟩ m c ys hm hcell' (oneCells_mem h1) hroom hfit
    refine ⟨g, cap, rest.drop (m * i.size), _, hr, ?_, ?_, hroom, hcm, Keeps.setRow w g _, .inl rfl⟩
    · have e1 : (xs ++ rest).toArray.toList.take (n * i.size) ++ ys ++ (xs ++ rest).toArray.toList.drop (n * i.size + ys.length) = (xs ++ ys) ++ rest.drop (m * i.size) := by
        show (xs ++ rest).take (n * i.size) ++ ys ++ (xs ++ rest).drop (n * i.size + ys.length) = _
        rw [← hx, List.take_left, List.drop_append, List.drop_eq_nil_of_le (by omega), List.nil_append, Nat.add_sub_cancel_left, hm]
      have := setRow_heap w g (xs ++ rest).toArray ⟨(xs ++ rest).toArray.toList.take (n * i.size) ++ ys ++ (xs ++ rest).toArray.toList.drop (n * i.size + ys.length)⟩ e (0, 0) h
      unfold Has
      rw [this, e1]
    · have : m * i.size ≤ rest.length := by
        have : (n + m) * i.size ≤ cap * i.size := Nat.mul_le_mul_right _ hroom
        rw [Nat.add_mul] at this
        omega
      simp only [List.length_append, List.length_drop, hm]
      omega
  · have holds : ∀ j u, xs[j]? = some u → w.cell? ((⟨g, 0, none⟩ : Addr).add j) = some u := fun j u hu => by
      rw [add_plain, Nat.zero_add, h.cell, List.getElem?_append_left (List.getElem?_eq_some_iff.1 hu).1]; exact hu
    have hr := run_append_grow (P := P) w t ty e i z T.slice hi hz ⟨g, 0, none⟩ n cap xs hx holds ⟨b, off, none⟩ m c ys hm hcell' (by omega) (by omega) (growslice_fits (by omega) hb)
    have hge := grownCap_ge w (n + m) cap e
    have hcm := grownCap_le_maxLen w (n + m) cap e hl
    refine ⟨w.heap.size, _, (Builtin.zeroCells z.cells (grownCap w (n + m) cap e - (n + m))).toList, _, hr, ?_, ?_, hge, hcm, ⟨rfl, rfl, rfl, by simp, fun k hk _ => heap_alloc_old w.drew _ k hk⟩, .inr rfl⟩
    · unfold Has
      rw [show w.heap.size = w.drew.heap.size from rfl, heap_alloc_new w.drew _]
      simp [rowL]
    · simp only [Array.length_toList, size_zeroCells, hzs, hm, hx, ← Nat.add_mul, List.length_append]
      congr 1
      omega
end
end Go.Q
