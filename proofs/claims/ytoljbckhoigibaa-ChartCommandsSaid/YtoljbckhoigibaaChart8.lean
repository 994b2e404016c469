/- Whole charts loaded and stored; rows of which only the length is known. -/
import Derived.Test.YtoljbckhoigibaaChart7
set_option linter.unusedVariables false
namespace Go.Q
open Go.RowKit

theorem oneCells_append (xs ys : List Value) : oneCells (xs ++ ys) = (oneCells xs && oneCells ys) := by
  induction xs with
  | nil => rfl
  | cons x xs ih => simp [oneCells, ih, Bool.and_assoc]
theorem oneCells_ints (l : List Int) : oneCells (ints l) = true := by
  induction l with
  | nil => rfl
  | cons x l ih => simpa [ints, oneCells, Value.oneCell'] using ih
theorem chL_one (c : Ch) : oneCells (chL c) = true := by
  simp [chL, Ch.moves, oneCells, oneCells_append, oneCells_ints, Value.oneCell']

theorem ownerAt_out {c : Ch} {s : Int} (h : ¬ (0 ≤ s ∧ s < 16)) : c.ownerAt s = 0 := by
  unfold Ch.ownerAt; rw [if_neg (by rw [there_iff]; exact h)]
theorem epochAt_out {c : Ch} {s : Int} (h : ¬ (0 ≤ s ∧ s < 16)) : c.epochAt s = 0 := by
  unfold Ch.epochAt; rw [if_neg (by rw [there_iff]; exact h)]

theorem own_pos {w : World} {base e : Nat} {v : Value} {xs : List UInt8} (h : OwnB w base e v xs) (h0 : 0 < xs.length) :
    ∃ g cap cs, v = .slice (some ⟨g, 0, none⟩) xs.length cap ∧ base ≤ g ∧ Has w g (rowL cs e) ∧ xs.length ≤ cap ∧ cap ≤ maxLen ∧ cs.length = cap := by
  rcases h.2 with ⟨_, hn⟩ | ⟨g, cap, cur, rfl, hb, hg, h1, h2, h3, _⟩
  · omega
  · exact ⟨g, cap, cur.toList, rfl, hb, by unfold Has; rw [hg], h1, h2, by simpa using h3⟩

theorem app_any {P : Program} {w : World} {t ty e bytes n cap g m : Nat} {cs ys : List Value} {x : Value} (T : ElemTy P t e 1 bytes) (h : Has w g (rowL cs e)) (hl : cs.length = cap) (hnc : n ≤ cap) (hcm : cap ≤ maxLen) (hr : Rd w 1 x ys) (hm : ys.length = m) (h0 : 0 < m)
    (h1 : oneCells ys = true) (hb : (n + m) * bytes ≤ 140737488355328) (hm2 : n + m ≤ maxLen) :
    ∃ g' cap' cs' w', (Builtin.append_ #[t, t] ty #[.slice (some ⟨g, 0, none⟩) n cap, x]).run P w = .ok (.slice (some ⟨g', 0, none⟩) (n + m) cap') w' ∧ Has w' g' (rowL cs' e) ∧ cs'.length = cap' ∧ n + m ≤ cap' ∧ cap' ≤ maxLen ∧ Keeps (fun i => i = g) w w' ∧ (g' = g ∨ g' = w.heap.size) := by
  obtain ⟨g', cap', rest', w', hrun, H, f1, f2, f3, K, hg⟩ := app_row (ty := ty) T (xs := cs.take n) (rest := cs.drop n) (cap := cap) (n := n) (by rw [List.take_append_drop]; exact h) (by simp; omega) (by simp; omega) hnc hcm hr (m := m) (by omega) h0 h1 hb hm2
  exact ⟨g', cap', _, w', hrun, H, by rw [List.length_append]; omega, f2, f3, K, hg⟩
theorem image_len (c : Ch) (h : c.Inv) : c.image.length ≤ 1000 := by
  have hs := h.small
  have hb := h.bg
  have hsh := h.sh
  have key : ∀ k, k ≤ 16 → (imgk c k).length ≤ 10 + 20 * k := by
    intro k
    induction k with
    | zero => intro _; exact ivs_length_le (l := [c.shards]) (by intro x hx; simp only [List.mem_cons, List.not_mem_nil, or_false] at hx; omega)
    | succ k ih =>
      intro hk
      have h1 := ih (by omega)
      have h2 := h.own k (by omega)
      have h3 := h.ep k (by omega)
      have h4 : (ivs [c.owner.getD k 0, c.epoch.getD k 0]).length ≤ 20 := ivs_length_le (l := [c.owner.getD k 0, c.epoch.getD k 0]) (by intro x hx; simp only [List.mem_cons, List.not_mem_nil, or_false] at hx; omega)
      show (imgk c k ++ ivs [_, _]).length ≤ _
      rw [List.length_append]; omega
  have h1 := key 16 (by omega)
  have h2 : (ivs [c.began, c.ms, c.mf, c.mt, c.me, c.mp, c.mn, c.audit, c.phase]).length ≤ 90 := ivs_length_le (l := [c.began, c.ms, c.mf, c.mt, c.me, c.mp, c.mn, c.audit, c.phase]) (by intro x hx; simp only [List.mem_cons, List.not_mem_nil, or_false] at hx; omega)
  show (imgk c 16 ++ _).length ≤ _
  rw [List.length_append]; omega
theorem image_pos (c : Ch) : 0 < c.image.length := by
  have := uv_pos (zz c.began)
  simp only [Ch.image, List.length_append, ivs_cons, iv]
  omega
end Go.Q
