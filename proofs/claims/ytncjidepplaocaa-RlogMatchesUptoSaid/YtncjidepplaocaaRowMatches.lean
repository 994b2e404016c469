/- RlogMatches returns true for every input of bulk at most 1048576: matching with a part of another log, behind a place where both are the same up to there, makes both the same up to the place that is answered; done again it changes nothing. The condition: what comes in holds together at most 1048576 values and letters. -/
import Derived.Test.YtncjidepplaocaaRows
import Derived.Test.YtncjidepplaocaaLA
import Derived.Test.YtncjidepplaocaaN4
import Derived.Test.YtncjidepplaocaaMA
import Derived.WalkKit
import Derived.JoinedCond
namespace Go.Proofs.Ytncjidepplaocaa.rlogMatchesUpto
open Go.ChangeShapes Go.WideShapes Go.ChangeAt Go.RowKit
set_option linter.unusedVariables false

theorem own : ownKnob Try.prog.godebug = none := by kernel_rfl
theorem laid : laidOutB Try.prog = true := by kernel_rfl
theorem one_le {H : Type} (d : DataW H) : 1 ≤ Rows.uptoBulk d := by
  cases d with
  | lit l => cases l <;> simp [Rows.uptoBulk]
  | held _ => simp [Rows.uptoBulk]
  | nil => simp [Rows.uptoBulk]
  | _ => simp [Rows.uptoBulk]
theorem in_all {H : Type} : ∀ {l : List (DataW H)} {d : DataW H}, d ∈ l → Rows.uptoBulk d ≤ Rows.uptoBulkAll l
  | [], d, h => by cases h
  | x :: l, d, h => by
    simp only [Rows.uptoBulkAll]
    rcases List.mem_cons.1 h with rfl | h
    · omega
    · have := in_all h; omega
theorem len_all {H : Type} : ∀ (l : List (DataW H)), l.length ≤ Rows.uptoBulkAll l
  | [] => by simp
  | x :: l => by have h1 := one_le x; have h2 := len_all l; simp only [Rows.uptoBulkAll, List.length_cons]; omega
theorem bulk {H : Type} : Go.Q.Bulk (Rows.uptoBulk (H := H)) where
  str s := by simp [Rows.uptoBulk]
  agg ps z h := by have := in_all h; simp only [Rows.uptoBulk]; omega
  el es sp z h := by have := in_all h; simp only [Rows.uptoBulk]; omega
  len es sp := by have := len_all es; simp only [Rows.uptoBulk]; omega

set_option maxRecDepth 100000 in
theorem contract (H : Type) (enc : TypeId × Value → H) (W : World) (base : Nat) (args : Array Value) (ds gs : List (DataW H)) (before : List MemPlace)
    (hval0 : ∀ (j : Nat) t v, Try.f3.params[j]? = some t → args[j]? = some v → Value.okWide Try.prog W .any base t v)
    (hW : DataW.Whole enc Try.prog Try.f3.params.toList Rows.rlogMatchesSpec.vars false W args.toList ds gs before) (hk0 : Rows.uptoSmall H (ds ++ gs) = true) :
    Calls Try.prog 3 args W fun e W' => ∃ v, e = .returned v ∧ Rows.rlogMatchesSpec.post enc Try.prog Try.f3 false true false false W args v W' := by
  have hval : ∀ (j : Nat) t v, Try.f3.params[j]? = some t → args[j]? = some v → Value.okWide Try.prog W .any base t v := hval0
  have hk : Rows.uptoBulkAll (ds ++ gs) ≤ 1048576 := of_decide_eq_true hk0
  clear hk0
  have hW' := hW
  obtain ⟨p, q, hA0, hV, rfl, hfz, hnd⟩ := hW
  have hA : DataW.TrodAll enc Try.prog W 0 (fun _ => true) true Try.f3.params.toList args.toList ds p := hA0
  rw [Try.params3] at hA hval
  obtain ⟨v0, vs0, d0, ds0, p0, q0, hargs, rfl, rfl, h0, r0⟩ := trodAll_cons hA
  obtain ⟨v1, vs1, d1, ds1, p1, q1, rfl, rfl, rfl, h1, r1⟩ := trodAll_cons r0
  obtain ⟨v2, vs2, d2, ds2, p2, q2, rfl, rfl, rfl, h2, r2⟩ := trodAll_cons r1
  obtain ⟨v3, vs3, d3, ds3, p3, q3, rfl, rfl, rfl, h3, r3⟩ := trodAll_cons r2
  obtain ⟨rfl, rfl, rfl⟩ := trodAll_nil r3
  obtain rfl : args = #[v0, v1, v2, v3] := by cases args; simp_all
  obtain ⟨rfl, rfl⟩ := trodVars_none hV
  simp only [List.append_nil] at hk
  simp only [Rows.uptoBulkAll] at hk
  have okw0 := hval 0 22 v0 rfl rfl
  have okw1 := hval 1 22 v1 rfl rfl
  have okw2 := hval 2 22 v2 rfl rfl
  obtain ⟨a3, rfl, rfl, rfl, w3⟩ := open_int Try.underlying3 (hval 3 3 v3 rfl rfl) h3
  clear hA0 hval0
  simp only [List.append_nil] at hW'
  have hlt := hW'.lt
  obtain ⟨l0, A0, c0, rfl, hR0, hC0, hk0, hl0, hb0⟩ := Go.Q.open_entsB bulk (e := 43) (b := 5) Try.underlying22 Try.underlying43 (by kernel_rfl) (by kernel_rfl) (by kernel_rfl) (by kernel_rfl) (by kernel_rfl) (by kernel_rfl) (by kernel_rfl) okw0 h0
  have hE0 := Go.Q.Ents.given hR0 hC0
  obtain ⟨l1, A1, c1, rfl, hR1, hC1, hk1, hl1, hb1⟩ := Go.Q.open_entsB bulk (e := 43) (b := 5) Try.underlying22 Try.underlying43 (by kernel_rfl) (by kernel_rfl) (by kernel_rfl) (by kernel_rfl) (by kernel_rfl) (by kernel_rfl) (by kernel_rfl) okw1 h1
  have hE1 := Go.Q.Ents.given hR1 hC1
  obtain ⟨l2, A2, c2, rfl, hR2, hC2, hk2, hl2, hb2⟩ := Go.Q.open_entsB bulk (e := 43) (b := 5) Try.underlying22 Try.underlying43 (by kernel_rfl) (by kernel_rfl) (by kernel_rfl) (by kernel_rfl) (by kernel_rfl) (by kernel_rfl) (by kernel_rfl) okw2 h2
  have hE2 := Go.Q.Ents.given hR2 hC2
  have hi3 := Go.Q.wf_i64 w3
  refine (Matches_calls W _ A0 c0 l0 _ A1 c1 l1 _ A2 c2 l2 a3 hE0 (Go.Q.BigK.of (fun x hx => by have := hb0 x hx; omega)) (by omega) hE1 (Go.Q.BigK.of (fun x hx => by have := hb1 x hx; omega)) (by omega) hE2 (Go.Q.BigK.of (fun x hx => by have := hb2 x hx; omega)) (by omega) hi3).mono fun e W' ⟨he, hg⟩ => ?_
  subst he
  exact ⟨_, rfl, Go.Q.post_keeps (pa := _) (pv := []) hW' (fun _ _ _ => (trodAll_cons_mk (shut_bool Try.underlying4 _) trodAll_mk0)) (fun sp hsp => (trodAll_cons_mk (Go.Q.trod_keeps laid (by kernel_rfl) (of_decide_eq_true (by kernel_rfl)) h0 hg (fun x hx => hlt x (by simp [hx])) (fun x hx => hsp x (by simp [hx]))) (trodAll_cons_mk (Go.Q.trod_keeps laid (by kernel_rfl) (of_decide_eq_true (by kernel_rfl)) h1 hg (fun x hx => hlt x (by simp [hx])) (fun x hx => hsp x (by simp [hx]))) (trodAll_cons_mk (Go.Q.trod_keeps laid (by kernel_rfl) (of_decide_eq_true (by kernel_rfl)) h2 hg (fun x hx => hlt x (by simp [hx])) (fun x hx => hsp x (by simp [hx]))) (trodAll_cons_mk (shut_int Try.underlying3 w3) trodAll_mk0))))) (fun _ _ => rfl) (by simp)
    hg (ok_one (by kernel_rfl) rfl (okWide_bool_mk Try.underlying4 _))⟩

set_option maxRecDepth 100000 in
theorem lifted (os : Os) (started : os.Started) (H : Type) (enc : TypeId × Value → H) (F : Stop.Interp) :
    ReturnsInHanded {} Try.checked os 3 .any ((Rows.OpenSpec.upto Rows.rlogMatchesSpec).pre6 enc Try.prog Try.f3 Rows.rlogMatchesUptoRow.domain false) (((Rows.OpenSpec.upto Rows.rlogMatchesSpec).at F).post enc Try.prog Try.f3 false true false false) := by
  refine returnsInHanded_of_cond (C := Try.checked) (s := Rows.OpenSpec.upto Rows.rlogMatchesSpec) (k := Rows.uptoSmall) rfl own started (by kernel_rfl) Try.func3
    (OpenSpec.witness (enc := enc) (C := Try.checked) (s := Rows.OpenSpec.upto Rows.rlogMatchesSpec) (k := Rows.uptoSmall) rfl false ⟨#[], #[.slice none 0 0, .slice none 0 0, .slice none 0 0, .int .i64 0], []⟩ 8 (by kernel_rfl) (by kernel_rfl) (by kernel_rfl)
      (x := ([.nil, .nil, .nil, .lit (.int .i64 0)], [], [])) (by kernel_rfl) rfl (by kernel_rfl)) ?_
  intro W base args ds gs before hval hW _ hk _
  exact contract H enc W base args ds gs before hval hW hk

theorem over : Rows.rlogMatchesUptoRow.holds Try.pinned (Rows.OpenSpec.upto Rows.rlogMatchesSpec) :=
  OpenClaim.holds_of_cond 3 Try.f3 rfl rfl rfl rfl rfl rfl rfl ⟨rfl, rfl, rfl, rfl, rfl⟩ rfl rfl rfl rfl rfl (by kernel_rfl) Try.func3 (by kernel_rfl)
    (of_decide_eq_true (by kernel_rfl)) (by unfold Func.isWrapper; first | (rw [if_pos (by decide +kernel)]; kernel_rfl) | (rw [if_neg (by decide +kernel)]; exact ⟨rfl, rfl⟩))
    (fun os started H enc _ F => lifted os started H enc F)

theorem proved : Rows.RlogMatchesUptoSaid :=
  over
#print axioms proved
end Go.Proofs.Ytncjidepplaocaa.rlogMatchesUpto
