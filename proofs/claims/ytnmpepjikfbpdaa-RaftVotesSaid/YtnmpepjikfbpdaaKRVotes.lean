/- RaftVotes returns true for every input: in one term a replica never agrees to two, whatever messages come, in any order, and to none whose log is elder. No condition. -/
import Derived.Test.YtnmpepjikfbpdaaRows
import Derived.Test.YtnmpepjikfbpdaaKRVotes1
import Derived.Test.YtnmpepjikfbpdaaKRVotes14
import Derived.Test.YtnmpepjikfbpdaaKRVotes13
import Derived.SizedLaws
namespace Go.Proofs.Ytnmpepjikfbpdaa.raftVotes
open Go.ChangeShapes Go.WideShapes Go.ChangeAt Go.RowKit
set_option linter.unusedVariables false

theorem own : ownKnob Try.prog.godebug = none := by kernel_rfl
theorem laid : laidOutB Try.prog = true := by kernel_rfl

set_option maxRecDepth 100000 in
theorem lifted (os : Os) (started : os.Started) (H : Type) (enc : TypeId × Value → H) :
    ReturnsInHanded {} Try.checked os 6 .any (Rows.raftVotesSpec.pre6 enc Try.prog Try.f6 Rows.raftVotesRow.domain false) (Rows.raftVotesSpec.post enc Try.prog Try.f6 false true false false) := by
  refine returnsInHanded_of_change_sized (C := Try.checked) own started (by kernel_rfl) Try.func6
    (ChangeSpec.witness6 (enc := enc) (C := Try.checked) false ⟨#[], #[.int .i64 0, .slice none 0 0, .slice none 0 0], []⟩ 8 (by kernel_rfl) (by kernel_rfl) (by kernel_rfl) (by kernel_rfl)) ?_
  intro W base args ds gs before hval0 hW hcnd hsz0 _
  have hsz : (DataW.weightsEach Try.prog (Try.f6.params.toList ++ []) (ds ++ gs)).all (· ≤ reachBytes) = true := hsz0
  clear hsz0
  have hval : ∀ (j : Nat) t v, Try.f6.params[j]? = some t → args[j]? = some v → Value.okWide Try.prog W .any base t v := hval0
  have hW' := hW
  obtain ⟨p, q, hA0, hV, rfl, hfz, hnd⟩ := hW
  have hA : DataW.TrodAll enc Try.prog W 0 (fun _ => true) true Try.f6.params.toList args.toList ds p := hA0
  rw [Try.params6] at hA hval hsz
  obtain ⟨v0, vs0, d0, ds0, p0, q0, hargs, rfl, rfl, h0, r0⟩ := trodAll_cons hA
  obtain ⟨v1, vs1, d1, ds1, p1, q1, rfl, rfl, rfl, h1, r1⟩ := trodAll_cons r0
  obtain ⟨v2, vs2, d2, ds2, p2, q2, rfl, rfl, rfl, h2, r2⟩ := trodAll_cons r1
  obtain ⟨rfl, rfl, rfl⟩ := trodAll_nil r2
  obtain rfl : args = #[v0, v1, v2] := by cases args; simp_all
  obtain ⟨rfl, rfl⟩ := trodVars_none hV
  obtain ⟨a0, rfl, rfl, rfl, w0⟩ := open_int Try.underlying3 (hval 0 3 v0 rfl rfl) h0
  have okw1 := hval 1 22 v1 rfl rfl
  have okw2 := hval 2 32 v2 rfl rfl
  clear hA0 hval0
  simp only [List.append_nil] at hW'
  have hlt := hW'.lt
  have hi0 := Go.Q.wf_i64 w0
  obtain ⟨l1, A1, c1, rfl, hR1, hC1, hk1, hl1, hb1⟩ := Go.Q.open_entsW (e := 43) (b := 5) (tb := 37) (i0 := 2) Try.underlying22 Try.underlying43 (by kernel_rfl) (by kernel_rfl) (by kernel_rfl) (by kernel_rfl) Try.underlying2 Try.underlying37 Try.underlying5 (by kernel_rfl) (by kernel_rfl) okw1 (Go.Q.weight_in hsz (j := 1) rfl rfl) h1
  obtain ⟨l2, A2, c2, rfl, hR2, hI2⟩ := Go.Q.open_msgsW Try.underlying32 (⟨Try.underlying46, (by kernel_rfl), fun j hj => by rcases j with _|_|_|_|_|_|_|_|_|_|_|_ <;> first | (exfalso; omega) | kernel_rfl, fun j hj => by rcases j with _|_|_|_|_|_|_|_|_ <;> first | (exfalso; omega) | kernel_rfl, (by kernel_rfl), (by kernel_rfl), (by kernel_rfl), Try.underlying43, (by kernel_rfl), (by kernel_rfl), (by kernel_rfl), (by kernel_rfl), (by kernel_rfl), (by kernel_rfl), Try.underlying5, (by kernel_rfl), (by kernel_rfl)⟩ : Go.Q.MsgT Try.prog 46 43 43 5 37 2 _ _ (fun j => ([3, 3, 3, 3, 2, 2, 2, 2, 4, 22, 37] : List Nat).getD j 0)) okw2 (Go.Q.weight_in hsz (j := 2) rfl rfl) h2
  refine (Votes_calls W a0 A1 c1 l1 A2 c2 l2 hR1 hC1 (Go.Q.BigK.of hb1) hl1 hR2 hI2).mono fun e W' ⟨he, hg⟩ => ?_
  subst he
  exact ⟨_, rfl, Go.Q.post_keeps (pa := _) (pv := []) hW' (fun _ _ _ => (trodAll_cons_mk (shut_bool Try.underlying4 _) trodAll_mk0)) (fun sp hsp => (trodAll_cons_mk (shut_int Try.underlying3 w0) (trodAll_cons_mk (Go.Q.trod_keeps laid (by kernel_rfl) (of_decide_eq_true (by kernel_rfl)) h1 hg (fun x hx => hlt x (by simp [hx])) (fun x hx => hsp x (by simp [hx]))) (trodAll_cons_mk (Go.Q.trod_keeps laid (by kernel_rfl) (of_decide_eq_true (by kernel_rfl)) h2 hg (fun x hx => hlt x (by simp [hx])) (fun x hx => hsp x (by simp [hx]))) trodAll_mk0)))) (fun _ _ => rfl) (by simp)
    hg (ok_one (by kernel_rfl) rfl (okWide_bool_mk Try.underlying4 _))⟩

theorem over : Rows.raftVotesRow.holds Try.pinned (OpenSpec.ofChange Rows.raftVotesSpec) :=
  OpenClaim.holds_of_wide 6 Try.f6 rfl rfl rfl rfl rfl rfl rfl ⟨rfl, rfl, rfl, rfl, rfl⟩ rfl rfl rfl rfl rfl (by kernel_rfl) Try.func6 (by kernel_rfl)
    (of_decide_eq_true (by kernel_rfl)) (by unfold Func.isWrapper; first | (rw [if_pos (by decide +kernel)]; kernel_rfl) | (rw [if_neg (by decide +kernel)]; exact ⟨rfl, rfl⟩))
    (fun os started H enc _ => lifted os started H enc)

theorem proved : Rows.RaftVotesSaid :=
  over
#print axioms proved
end Go.Proofs.Ytnmpepjikfbpdaa.raftVotes
