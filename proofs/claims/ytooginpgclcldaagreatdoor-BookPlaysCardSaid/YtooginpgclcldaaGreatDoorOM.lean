/- Two maps of accounts held one against the other. -/
import Derived.Test.YtooginpgclcldaaGreatDoorOH
import Derived.Test.YtooginpgclcldaaGreatDoorOB
set_option linter.unusedVariables false
namespace Go.Q
theorem aggB_acc (a b : AccV) : aggB [i64 a.1, .string (str a.2)] [i64 b.1, .string (str b.2)] = true ↔ a = b := by
  obtain ⟨a1, a2⟩ := a
  obtain ⟨b1, b2⟩ := b
  simp only [aggB, Bool.and_eq_true, cellB_str_iff, cellB_int_iff, and_true, Prod.mk.injEq]
theorem book_same {m k : List (List UInt8 × AccV)} {S : List AccM} (h : Book m S) (h2 : Book k S) {x : List UInt8} {a : AccV} (hm : (x, a) ∈ m) : getM k x = some a := by
  obtain ⟨b, hb, e⟩ := List.mem_map.1 (h.perm.mem_iff.2 hm)
  simp only [AccM.pair, Prod.mk.injEq] at e
  rw [h2.get, ← e.1, h.accs.get_of hb, ← e.2]
  rfl
theorem sorted_sub : ∀ {S R : List AccM}, S.Pairwise (fun a b => ltN a.name b.name) → R.Pairwise (fun a b => ltN a.name b.name) → (∀ a ∈ S, a ∈ R) → S.Sublist R
  | [], _, _, _, _ => List.nil_sublist _
  | a :: S, [], _, _, h => absurd (h a (List.mem_cons_self ..)) List.not_mem_nil
  | a :: S, b :: R, hS, hR, h => by
    have hS' := List.pairwise_cons.1 hS
    have hR' := List.pairwise_cons.1 hR
    by_cases hab : a = b
    · subst hab
      refine List.Sublist.cons_cons _ (sorted_sub hS'.2 hR'.2 fun c hc => ?_)
      rcases List.mem_cons.1 (h c (List.mem_cons_of_mem _ hc)) with rfl | hc2
      · exact absurd (hS'.1 _ hc) (ltN_irrefl _)
      · exact hc2
    · have haR : a ∈ R := (List.mem_cons.1 (h a (List.mem_cons_self ..))).resolve_left hab
      refine List.Sublist.cons _ (sorted_sub hS hR'.2 fun c hc => ?_)
      rcases List.mem_cons.1 hc with rfl | hc
      · exact haR
      · rcases List.mem_cons.1 (h c (List.mem_cons_of_mem _ hc)) with rfl | hc2
        · exact absurd (ltN_trans (hR'.1 _ haR) (hS'.1 _ hc)) (ltN_irrefl _)
        · exact hc2
theorem book_eq {m k came : List (List UInt8 × AccV)} {S R : List AccM} (h : Book m S) (h2 : Book k R) (hl : m.length = k.length) (hp : came.Perm m) (ha : ∀ y ∈ came, getM k y.1 = some y.2) : S = R := by
  refine (sorted_sub h.accs.sorted h2.accs.sorted fun a haS => ?_).eq_of_length (by rw [← h.len, ← h2.len]; exact hl)
  have hy := ha a.pair (hp.mem_iff.2 (h.perm.mem_iff.1 (List.mem_map.2 ⟨a, haS, rfl⟩)))
  have hg : (getS R a.name).map (fun a => (a.amt, a.own)) = some (a.amt, a.own) := by rw [← h2.get]; exact hy
  cases hr : getS R a.name with
  | none => rw [hr] at hg; cases hg
  | some b =>
    rw [hr] at hg
    obtain ⟨hb, hn⟩ := getS_some hr
    simp only [Option.map_some, Option.some.injEq, Prod.mk.injEq] at hg
    have : b = a := by cases a; cases b; simp_all
    rw [← this]; exact hb
end Go.Q
