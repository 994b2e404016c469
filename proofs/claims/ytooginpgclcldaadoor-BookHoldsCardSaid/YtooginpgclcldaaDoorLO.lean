/- Operations inside a fence: a region that calls yield. -/
import Derived.Test.YtooginpgclcldaaDoorLN
set_option linter.unusedVariables false
namespace Go.Q
open Go.RowKit

def OpsR (F : Fence) (P : Program) (m n : Nat) (os : Array Oper) (i : Nat) (K : List Deferred → Exit → Loc → World → Prop) (ds : List Deferred) (L : Loc) (w : World) : Prop :=
  ∀ a, Rep n a L → wpOpsIn F m P os (fun e a' w' => ∃ ds2 a2 L', a' = wd ds2 a2 ∧ Rep n a2 L' ∧ K ds2 e L' w') (List.range' i (os.size - i)) (wd ds a) w
section
variable {F : Fence} {P : Program} {m n : Nat} {os : Array Oper} {K : List Deferred → Exit → Loc → World → Prop} {ds : List Deferred} {L : Loc} {w : World} {i : Nat}
theorem OpsR.keep {R : Loc} (hs : restrict L (R.map Prod.fst) = some R) (h : OpsR F P m n os i K ds R w) : OpsR F P m n os i K ds L w :=
  fun a ha => h a (ha.sub (restrict_sub hs))
theorem OpsR.done (hi : Nat.beq os.size i = true) (h : K ds .normal L w) : OpsR F P m n os i K ds L w := by
  intro a ha
  have : os.size - i = 0 := by have := Nat.eq_of_beq_eq_true hi; omega
  rw [this]
  exact ⟨ds, a, L, rfl, ha, h⟩
theorem OpsR.cons {o : Oper} (ho : os[i]? = some o) (h : ∀ a, Rep n a L → wpOpIn F m P os (fun e a' w' => ∃ ds2 a2 L', a' = wd ds2 a2 ∧ Rep n a2 L' ∧ K ds2 e L' w') i
    (fun a' w' => ∃ a2 L', a' = wd ds a2 ∧ Rep n a2 L' ∧ OpsR F P m n os (i + 1) K ds L' w') (wd ds a) w) : OpsR F P m n os i K ds L w := by
  intro a ha
  rw [range'_head ho, wpOpsIn_cons]
  exact wpOpIn_mono (fun a' w' ⟨a2, L', e, r, q⟩ => by subst e; exact q a2 r) (h a ha)
theorem OpsR.unwanted (hF : Open F) {o : Oper} {L' : Loc} (ho : os[i]? = some o) (hw : wants os L o = some false) (hs : setL n o.dst undef L = some L') (h : OpsR F P m n os (i + 1) K ds L' w) :
    OpsR F P m n os i K ds L w := by
  refine OpsR.cons ho fun a ha => ?_
  unfold wpOpIn
  have hww := wants_wanted ha hw
  simp only [ho]
  rw [if_neg (show ¬ Region.wanted o (yielded os (wd ds a).tmps) = true from by rw [show (wd ds a).tmps = a.tmps from rfl, hww]; simp)]
  exact ⟨fun f _ => hF.fn f, a.put o.dst undef, L', wd_put _ _ _ _, ha.setL hs, h⟩
theorem OpsR.regs_go (hF : Open F) (hd : noDefer os = true) : ∀ (k i : Nat) (L L1 : Loc), Q.regs P n os k i L = some L1 → OpsR F P m n os (i + k) K ds L1 w → OpsR F P m n os i K ds L w
  | 0, i, L, L1, h, hn => by simp only [Q.regs, Option.some.injEq] at h; subst h; exact hn
  | k + 1, i, L, L1, h, hn => by
    simp only [Q.regs] at h
    cases ho : os[i]? with
    | none => rw [ho] at h; cases h
    | some o =>
      rw [ho] at h
      simp only at h
      have hn' : OpsR F P m n os (i + 1 + k) K ds L1 w := by rw [show i + 1 + k = i + (k + 1) from by omega]; exact hn
      cases hw : wants os L o with
      | none => rw [hw] at h; cases h
      | some b =>
        rw [hw] at h
        cases b with
        | false =>
          simp only at h
          cases hs : setL n o.dst undef L with
          | none => rw [hs] at h; cases h
          | some L' => rw [hs] at h; exact OpsR.unwanted hF ho hw hs (OpsR.regs_go hF hd k (i + 1) L' L1 h hn')
        | true =>
          simp only at h
          cases hx : next? P L o with
          | none => rw [hx] at h; cases h
          | some x =>
            rw [hx] at h
            cases x with
            | value v =>
              simp only at h
              cases hs : setL n o.dst v L with
              | none => rw [hs] at h; cases h
              | some L' =>
                rw [hs] at h
                refine OpsR.cons ho fun a ha => ?_
                unfold wpOpIn
                have hww := wants_wanted ha hw
                simp only [ho]
                rw [if_pos (show Region.wanted o (yielded os (wd ds a).tmps) = true from by rw [show (wd ds a).tmps = a.tmps from rfl, hww])]
                have hsem : o.semAt F.round (wd ds a).eval = execOp a.eval o := by
                  cases hr : F.round with
                  | none => rw [Oper.semAt_none]; rfl
                  | some l => exact Oper.semAt_some l _ _ (noDefer_op hd i o ho)
                refine ⟨fun f _ => hF.fn f, ?_⟩
                rw [hsem, next?_run ha hx]
                exact ⟨a.put o.dst v, L', wd_put _ _ _ _, ha.setL hs, OpsR.regs_go hF hd k (i + 1) L' L1 h hn'⟩
            | _ => cases h
/-- k operations at once; only what 'R' names is kept. -/
theorem OpsR.regs (hF : Open F) (hd : noDefer os = true) {j : Nat} (k : Nat) (R : Loc) (hj : Nat.beq (i + k) j = true) (h : (match Q.regs P n os k i L with | some L1 => restrict L1 (R.map Prod.fst) | none => none) = some R)
    (hn : OpsR F P m n os j K ds R w) : OpsR F P m n os i K ds L w := by
  cases h1 : Q.regs P n os k i L with
  | none => rw [h1] at h; cases h
  | some L1 =>
    rw [h1] at h
    have := Nat.eq_of_beq_eq_true hj
    subst this
    exact OpsR.regs_go hF hd k i L L1 h1 (OpsR.keep h hn)
/-- An operation whose run is known. -/
theorem OpsR.run (hF : Open F) (hd : noDefer os = true) {o : Oper} {x : Next} {w' : World} (ho : at? os L i = some o) (hr : (execOp (ev L) o).run P w = .ok x w')
    (h : ∀ a, Rep n a L → o.uponIn F m P (wd ds a) (fun a' w' => ∃ a2 L', a' = wd ds a2 ∧ Rep n a2 L' ∧ OpsR F P m n os (i + 1) K ds L' w') (fun e a' w' => ∃ ds2 a2 L', a' = wd ds2 a2 ∧ Rep n a2 L' ∧ K ds2 e L' w') (.ok x w')) : OpsR F P m n os i K ds L w := by
  obtain ⟨h0, hw, hp, hk⟩ := at?_spec ho
  refine OpsR.cons h0 fun a ha => ?_
  unfold wpOpIn
  have hww := wants_wanted ha hw
  simp only [h0]
  rw [if_pos (show Region.wanted o (yielded os (wd ds a).tmps) = true from by rw [show (wd ds a).tmps = a.tmps from rfl, hww])]
  have hsem : o.semAt F.round (wd ds a).eval = execOp a.eval o := by
    cases hr : F.round with
    | none => rw [Oper.semAt_none]; rfl
    | some l => exact Oper.semAt_some l _ _ (noDefer_op hd i o h0)
  refine ⟨fun f _ => hF.fn f, ?_⟩
  rw [hsem, exec_known ha hp hk, hr]
  exact h a ha
/-- A call of yield: what the round says. -/
theorem OpsR.yield (hF : Open F) (hd : noDefer os = true) {o : Oper} {l : Nat} {args : Array Value} {R : Ending → World → Prop} (ho : at? os L i = some o) (hx : (execOp (ev L) o).run P w = (Instr.yield l args).run P w) (hY : YieldAt F (m - 1) P l args w R)
    (h : ∀ e w', R e w' → ∃ v L', e = .returned v ∧ setL n o.dst v L = some L' ∧ OpsR F P m n os (i + 1) K ds L' w') : OpsR F P m n os i K ds L w := by
  obtain ⟨fn, tmps, assign, body, hy, hR⟩ := hY
  refine OpsR.run hF hd ho (hx.trans hy) fun a ha => ?_
  refine ⟨fun q => (by rw [hF.depth] at q; cases q), hR.mono fun e w' he => ?_⟩
  obtain ⟨v, L', rfl, hs, hn⟩ := h e w' he
  exact ⟨a.put o.dst v, L', wd_put _ _ _ _, ha.setL hs, hn⟩
end
section
variable {F : Fence} {P : Program} {m n : Nat} {Q : List Deferred → Exit → Loc → World → Prop} {L : Loc} {w : World} {f : Func} {p : List Nat} {ds : List Deferred}
/-- A region, its operations one by one inside the fence. -/
theorem qr_opsR (hc : isRegion (cd f p) = true) (h : OpsR F P m n (opsOf (cd f p)) 0 Q ds L w) : wpR F P m n (cd f p) Q ds L w := by
  intro a ha
  cases e : cd f p with
  | region id os dr =>
    rw [e] at hc h
    cases dr with
    | true => cases hc
    | false =>
      have h1 := h a ha
      simp only [opsOf] at h1
      refine wpIn_region ?_
      rw [List.range_eq_range']
      exact h1
  | _ => rw [e] at hc; cases hc
end
end Go.Q
