/- What the claim stands on, part 8: rules of the walk, contracts of the functions, plain laws. -/
import Derived.Test.YtnbcghbgeiocbaaDoorKHRecords7
import Derived.RangeFuncNested
import Derived.Test.YtnbcghbgeiocbaaDoorKHRecords4
import Derived.Test.YtnbcghbgeiocbaaDoorKHRecords6
import Derived.Test.YtnbcghbgeiocbaaDoorKHRecords3
import Derived.Test.YtnbcghbgeiocbaaDoorProg
set_option linter.unusedVariables false
namespace Go.Q
open Go.RowKit
def isRange : Code → Option (Operand × Array Tmp)
 | .rangeFunc g ps _ _ => some (g, ps)
 | _ => none
end Go.Q
namespace Go.Q
open Go.RowKit
def OpsR (F : Fence) (P : Program) (m n : Nat) (os : Array Oper) (i : Nat) (K : List Deferred → Exit → Loc → World → Prop) (ds : List Deferred) (L : Loc) (w : World) : Prop :=
 ∀ a, Rep n a L → wpOpsIn F m P os (fun e a' w' => ∃ ds2 a2 L', a' = wd ds2 a2 ∧ Rep n a2 L' ∧ K ds2 e L' w') (List.range' i (os.size - i)) (wd ds a) w
section
variable {F : Fence} {P : Program} {m n : Nat} {os : Array Oper} {K : List Deferred → Exit → Loc → World → Prop} {ds : List Deferred} {L : Loc} {w : World} {i : Nat}
theorem OpsR.keep {R : Loc} (hs : restrict L (R.map Prod.fst) = some R) (h : OpsR F P m n os i K ds R w) : OpsR F P m n os i K ds L w :=
 fun a ha => h a (ha.sub (restrict_sub hs))
theorem OpsR.done (hi : Nat.beq os.size i = true) (h : K ds .normal L w) : OpsR F P m n os i K ds L w := by
 intro a ha
 have : os.size - i = 0 := by have := Nat.eq_of_beq_eq_true hi; omega
 rw [this]
 exact ⟨ds, a, L, rfl, ha, h⟩
theorem OpsR.cons {o : Oper} (ho : os[i]? = some o) (h : ∀ a, Rep n a L → wpOpIn F m P os (fun e a' w' => ∃ ds2 a2 L', a' = wd ds2 a2 ∧ Rep n a2 L' ∧ K ds2 e L' w') i
  (fun a' w' => ∃ a2 L', a' = wd ds a2 ∧ Rep n a2 L' ∧ OpsR F P m n os (i + 1) K ds L' w') (wd ds a) w) : OpsR F P m n os i K ds L w := by
 intro a ha
 rw [range'_head ho, wpOpsIn_cons]
 exact wpOpIn_mono (fun a' w' ⟨a2, L', e, r, q⟩ => by subst e; exact q a2 r) (h a ha)
theorem OpsR.unwanted (hF : Open F) {o : Oper} {L' : Loc} (ho : os[i]? = some o) (hw : wants os L o = some false) (hs : setL n o.dst undef L = some L') (h : OpsR F P m n os (i + 1) K ds L' w) :
  OpsR F P m n os i K ds L w := by
 refine OpsR.cons ho fun a ha => ?_
 unfold wpOpIn
 have hww := wants_wanted ha hw
 simp only [ho]
 rw [if_neg (show ¬ Region.wanted o (yielded os (wd ds a).tmps) = true from by rw [show (wd ds a).tmps = a.tmps from rfl, hww]; simp)]
 exact ⟨fun f _ => hF.fn f, a.put o.dst undef, L', wd_put _ _ _ _, ha.setL hs, h⟩
theorem OpsR.regs_go (hF : Open F) (hd : noDefer os = true) : ∀ (k i : Nat) (L L1 : Loc), Q.regs P n os k i L = some L1 → OpsR F P m n os (i + k) K ds L1 w → OpsR F P m n os i K ds L w
 | 0, i, L, L1, h, hn => by simp only [Q.regs, Option.some.injEq] at h; subst h; exact hn
 | k + 1, i, L, L1, h, hn => by
  simp only [Q.regs] at h
  cases ho : os[i]? with
  | none => rw [ho] at h; cases h
  | some o =>
   rw [ho] at h
   simp only at h
   have hn' : OpsR F P m n os (i + 1 + k) K ds L1 w := by rw [show i + 1 + k = i + (k + 1) from by omega]; exact hn
   cases hw : wants os L o with
   | none => rw [hw] at h; cases h
   | some b =>
    rw [hw] at h
    cases b with
    | false =>
     simp only at h
     cases hs : setL n o.dst undef L with
     | none => rw [hs] at h; cases h
     | some L' => rw [hs] at h; exact OpsR.unwanted hF ho hw hs (OpsR.regs_go hF hd k (i + 1) L' L1 h hn')
    | true =>
     simp only at h
     cases hx : next? P L o with
     | none => rw [hx] at h; cases h
     | some x =>
      rw [hx] at h
      cases x with
      | value v =>
       simp only at h
       cases hs : setL n o.dst v L with
       | none => rw [hs] at h; cases h
       | some L' =>
        rw [hs] at h
        refine OpsR.cons ho fun a ha => ?_
        unfold wpOpIn
        have hww := wants_wanted ha hw
        simp only [ho]
        rw [if_pos (show Region.wanted o (yielded os (wd ds a).tmps) = true from by rw [show (wd ds a).tmps = a.tmps from rfl, hww])]
        have hsem : o.semAt F.round (wd ds a).eval = execOp a.eval o := by
         cases hr : F.round with
         | none => rw [Oper.semAt_none]; rfl
         | some l => exact Oper.semAt_some l _ _ (noDefer_op hd i o ho)
        refine ⟨fun f _ => hF.fn f, ?_⟩
        rw [hsem, next?_run ha hx]
        exact ⟨a.put o.dst v, L', wd_put _ _ _ _, ha.setL hs, OpsR.regs_go hF hd k (i + 1) L' L1 h hn'⟩
      | _ => cases h
theorem OpsR.regs (hF : Open F) (hd : noDefer os = true) {j : Nat} (k : Nat) (R : Loc) (hj : Nat.beq (i + k) j = true) (h : (match Q.regs P n os k i L with | some L1 => restrict L1 (R.map Prod.fst) | none => none) = some R)
  (hn : OpsR F P m n os j K ds R w) : OpsR F P m n os i K ds L w := by
 cases h1 : Q.regs P n os k i L with
 | none => rw [h1] at h; cases h
 | some L1 =>
  rw [h1] at h
  have := Nat.eq_of_beq_eq_true hj
  subst this
  exact OpsR.regs_go hF hd k i L L1 h1 (OpsR.keep h hn)
theorem OpsR.run (hF : Open F) (hd : noDefer os = true) {o : Oper} {x : Next} {w' : World} (ho : at? os L i = some o) (hr : (execOp (ev L) o).run P w = .ok x w')
  (h : ∀ a, Rep n a L → o.uponIn F m P (wd ds a) (fun a' w' => ∃ a2 L', a' = wd ds a2 ∧ Rep n a2 L' ∧ OpsR F P m n os (i + 1) K ds L' w') (fun e a' w' => ∃ ds2 a2 L', a' = wd ds2 a2 ∧ Rep n a2 L' ∧ K ds2 e L' w') (.ok x w')) : OpsR F P m n os i K ds L w := by
 obtain ⟨h0, hw, hp, hk⟩ := at?_spec ho
 refine OpsR.cons h0 fun a ha => ?_
 unfold wpOpIn
 have hww := wants_wanted ha hw
 simp only [h0]
 rw [if_pos (show Region.wanted o (yielded os (wd ds a).tmps) = true from by rw [show (wd ds a).tmps = a.tmps from rfl, hww])]
 have hsem : o.semAt F.round (wd ds a).eval = execOp a.eval o := by
  cases hr : F.round with
  | none => rw [Oper.semAt_none]; rfl
  | some l => exact Oper.semAt_some l _ _ (noDefer_op hd i o h0)
 refine ⟨fun f _ => hF.fn f, ?_⟩
 rw [hsem, exec_known ha hp hk, hr]
 exact h a ha
theorem OpsR.yield (hF : Open F) (hd : noDefer os = true) {o : Oper} {l : Nat} {args : Array Value} {R : Ending → World → Prop} (ho : at? os L i = some o) (hx : (execOp (ev L) o).run P w = (Instr.yield l args).run P w) (hY : YieldAt F (m - 1) P l args w R)
  (h : ∀ e w', R e w' → ∃ v L', e = .returned v ∧ setL n o.dst v L = some L' ∧ OpsR F P m n os (i + 1) K ds L' w') : OpsR F P m n os i K ds L w := by
 obtain ⟨fn, tmps, assign, body, hy, hR⟩ := hY
 refine OpsR.run hF hd ho (hx.trans hy) fun a ha => ?_
 refine ⟨fun q => (by rw [hF.depth] at q; cases q), hR.mono fun e w' he => ?_⟩
 obtain ⟨v, L', rfl, hs, hn⟩ := h e w' he
 exact ⟨a.put o.dst v, L', wd_put _ _ _ _, ha.setL hs, hn⟩
end
section
variable {F : Fence} {P : Program} {m n : Nat} {Q : List Deferred → Exit → Loc → World → Prop} {L : Loc} {w : World} {f : Func} {p : List Nat} {ds : List Deferred}
theorem qr_opsR (hc : isRegion (cd f p) = true) (h : OpsR F P m n (opsOf (cd f p)) 0 Q ds L w) : wpR F P m n (cd f p) Q ds L w := by
 intro a ha
 cases e : cd f p with
 | region id os dr =>
  rw [e] at hc h
  cases dr with
  | true => cases hc
  | false =>
   have h1 := h a ha
   simp only [opsOf] at h1
   refine wpIn_region ?_
   rw [List.range_eq_range']
   exact h1
 | _ => rw [e] at hc; cases hc
end
end Go.Q
namespace Go.Q
open Go.RowKit
def SH (B : World → Prop) (hs : List (Nat × (World → Prop))) (listed : Array Bool) (w : World) : Prop := B w ∧ ∀ h ∈ hs, listed.getD h.1 true = false → h.2 w
theorem SH.nil {B : World → Prop} {listed : Array Bool} {w : World} (h : B w) : SH B [] listed w := ⟨h, fun x hx => (by cases hx)⟩
theorem SH.cons {B p : World → Prop} {hs : List (Nat × (World → Prop))} {s : Nat} {listed : Array Bool} {w : World} (h : SH B hs listed w) (hp : listed.getD s true = true ∨ p w) : SH B ((s, p) :: hs) listed w :=
 ⟨h.1, fun x hx hl => by
  rcases List.mem_cons.1 hx with rfl | hx
  ·rcases hp with hp | hp
   ·rw [hp] at hl; cases hl
   ·exact hp
  ·exact h.2 x hx hl⟩
theorem getD_set_ne' {l : Array Bool} {i s : Nat} (h : i ≠ s) : (l.setIfInBounds i true).getD s true = l.getD s true := by
 simp only [Array.getD_eq_getD_getElem?, Array.getElem?_setIfInBounds_ne h]
theorem SH.unset {B : World → Prop} {hs : List (Nat × (World → Prop))} {i : Nat} {listed : Array Bool} {w : World} (hi : ∀ h ∈ hs, h.1 ≠ i) (h : SH B hs (listed.setIfInBounds i true) w) : SH B hs listed w :=
 ⟨h.1, fun x hx hl => h.2 x hx (by rw [getD_set_ne' (Ne.symm (hi x hx))]; exact hl)⟩
section
variable {P : Program} {ops : Array Oper} {Q : Exit → Act → World → Prop} {md : Region.Mode} {S : Array Bool → World → Prop}
def wpAnyS (P : Program) (md : Region.Mode) (ops : Array Oper) (Q : Exit → Act → World → Prop) (S : Array Bool → World → Prop) : Nat → Array Bool → Act → World → Prop
 | 0, listed, a, w => Region.ready md ops listed = [] ∧ Q .normal a w
 | fuel + 1, listed, a, w =>
  (Region.ready md ops listed = [] → Q .normal a w) ∧
  ∀ i ∈ Region.ready md ops listed, wpOp P ops Q i (fun a' w' => S (listed.setIfInBounds i true) w' ∧ wpAnyS P md ops Q S fuel (listed.setIfInBounds i true) a' w') a w
theorem wpAny_of_S : ∀ (fuel : Nat) (listed : Array Bool) (a : Act) (w : World), wpAnyS P md ops Q S fuel listed a w → wpAny P md ops Q fuel listed a w
 | 0, _, _, _, h => h
 | fuel + 1, _, _, _, h => ⟨h.1, fun i hi => wpOp_mono (fun a' w' h' => wpAny_of_S fuel _ a' w' h'.2) (h.2 i hi)⟩
theorem wpAnyS_done {listed : Array Bool} {a : Act} {w : World} (hr : Region.ready md ops listed = []) (h : Q .normal a w) : ∀ fuel, wpAnyS P md ops Q S fuel listed a w
 | 0 => ⟨hr, h⟩
 | _ + 1 => ⟨fun _ => h, by rw [hr]; simp⟩
def waitOk (md : Region.Mode) (ops : Array Oper) (listed : Array Bool) (i : Nat) (stops : List Nat) : Bool :=
 stops.all fun s => !listed.getD s true && match ops[s]? with | some o => o.after.any (fun e => Region.binds md e && e.on == i) | none => false
theorem ready_stop {listed : Array Bool} {i j s : Nat} (hr : i ∈ Region.ready md ops listed) (hj : j ∈ Region.ready md ops listed) (h : (match ops[s]? with | some o => o.after.any (fun e => Region.binds md e && e.on == i) | none => false) = true) : j ≠ s := by
 rintro rfl
 obtain ⟨_, oj, hoj, hall⟩ := mem_ready.1 hj
 rw [hoj] at h
 simp only at h
 obtain ⟨k, hk, he⟩ := Array.any_eq_true.1 h
 rw [Bool.and_eq_true, beq_iff_eq] at he
 have h1 := hall _ (Array.getElem_mem hk) he.1
 have h0 := (mem_ready.1 hr).1
 rw [he.2] at h1
 rcases Nat.lt_or_ge i listed.size with h' | h'
 ·simp [h'] at h0 h1; rw [h0] at h1; cases h1
 ·simp [Array.getElem?_eq_none h'] at h1
theorem wpAnyS_first {B : World → Prop} {hs : List (Nat × (World → Prop))} {i : Nat} {oi : Oper} {v : Value} {stops : List Nat} (hi : ops[i]? = some oi) (hsel : ∀ (j : Nat) (o : Oper) cs b, ops[j]? = some o → o.op ≠ .select cs b)
  (hQ : ∀ c a w, Q (.panic c) (a.put oi.dst v) w → Q (.panic c) a w) (hns : ∀ h ∈ hs, h.1 ≠ i)
  (hst : ∀ s ∈ stops, (match ops[s]? with | some o => o.after.any (fun e => Region.binds md e && e.on == i) | none => false) = true) :
  ∀ (fuel : Nat) (listed : Array Bool) (a : Act) (w : World),
   (∀ j oj, ops[j]? = some oj → j ≠ i → listed.getD j true = false → (∀ e ∈ oj.after, Region.binds md e = true → e.on ≠ i) → oi.apart ops oj = true) →
   i ∈ Region.ready md ops listed → YieldsIf P ops (fun w => ∃ L, (∀ s ∈ stops, L.getD s true = false) ∧ SH B hs L w) oi v a → SH B hs listed w → (∀ s ∈ stops, listed.getD s true = false) →
   wpAnyS P md ops Q (SH B hs) fuel (listed.setIfInBounds i true) (a.put oi.dst v) w → wpAnyS P md ops Q (SH B hs) (fuel + 1) listed a w := by
 intro fuel
 have ss : ∀ {listed : Array Bool} {w : World}, SH B hs listed w → SH B hs (listed.setIfInBounds i true) w := fun {listed w} h =>
  ⟨h.1, fun x hx hl => h.2 x hx (by rw [getD_set_ne' (Ne.symm (hns x hx))] at hl; exact hl)⟩
 induction fuel with
 | zero =>
  intro listed a w _ hr hy hS hg H
  refine ⟨fun h => (by rw [h] at hr; cases hr), fun j hj => ?_⟩
  by_cases hji : j = i
  ·subst hji; exact hy.wpOp hi ⟨listed, hg, hS⟩ ⟨ss hS, H⟩
  ·have := ready_mono hj hji
   rw [H.1] at this
   cases this
 | succ fuel ih =>
  intro listed a w hfree hr hy hS hg H
  refine ⟨fun h => (by rw [h] at hr; cases hr), fun j hj => ?_⟩
  by_cases hji : j = i
  ·subst hji; exact hy.wpOp hi ⟨listed, hg, hS⟩ ⟨ss hS, H⟩
  ·have h1 := H.2 j (ready_mono hj hji)
   obtain ⟨hjun, oj, hoj, hall⟩ := mem_ready.1 hj
   have hnot : ∀ e ∈ oj.after, Region.binds md e = true → e.on ≠ i := fun e he hb heq => by
    have h1 := hall e he hb
    have h0 := (mem_ready.1 hr).1
    rw [heq] at h1
    rcases Nat.lt_or_ge i listed.size with h' | h'
    ·simp [h'] at h0 h1; rw [h0] at h1; cases h1
    ·simp [Array.getElem?_eq_none h'] at h1
   have h2 := wpOp_putIf hoj (hfree j oj hoj hji hjun hnot) (fun cs b => hsel i oi cs b hi) (fun cs b => hsel j oj cs b hoj) hQ hy h1
   have hfree' : ∀ k ok, ops[k]? = some ok → k ≠ i → (listed.setIfInBounds j true).getD k true = false →
     (∀ e ∈ ok.after, Region.binds md e = true → e.on ≠ i) → oi.apart ops ok = true := fun k ok hk hki hun hno => by
    refine hfree k ok hk hki ?_ hno
    by_cases hjk : j = k
    ·subst hjk; exact hjun
    ·rw [getD_set_ne' hjk] at hun; exact hun
   refine wpOp_mono (fun a' w' h3 => ?_) h2
   have hc : (listed.setIfInBounds i true).setIfInBounds j true = (listed.setIfInBounds j true).setIfInBounds i true := Array.setIfInBounds_comm _ _ (Ne.symm hji)
   have hS2 : SH B hs (listed.setIfInBounds j true) w' := SH.unset hns (hc ▸ h3.2.1)
   refine ⟨hS2, ih (listed.setIfInBounds j true) a' w' hfree' (ready_mono hr (Ne.symm hji)) h3.1 hS2 (fun s hs' => ?_) ?_⟩
   ·rw [getD_set_ne' (ready_stop hr hj (hst s hs'))]; exact hg s hs'
   ·rw [← hc]
    exact h3.2.2
theorem wpAnyS_all {rs : List Nat} {fuel : Nat} {listed : Array Bool} {a : Act} {w : World} (hr : Region.ready md ops listed = rs) (hne : rs ≠ [])
  (h : ∀ i ∈ rs, wpOp P ops Q i (fun a' w' => S (listed.setIfInBounds i true) w' ∧ wpAnyS P md ops Q S fuel (listed.setIfInBounds i true) a' w') a w) : wpAnyS P md ops Q S (fuel + 1) listed a w :=
 ⟨fun h0 => absurd (hr ▸ h0) hne, hr ▸ h⟩
end
def DrS (P : Program) (n : Nat) (os : Array Oper) (B : World → Prop) (hs : List (Nat × (World → Prop))) (fuel : Nat) (is : List Nat) (K : Loc → World → Prop) (L : Loc) (w : World) : Prop :=
 SH B hs (marks os.size is) w → ∀ a, Rep n a L → wpAnyS P .any os (drPost n K) (SH B hs) fuel (marks os.size is) a w
def Dr1 (P : Program) (n : Nat) (os : Array Oper) (B : World → Prop) (hs : List (Nat × (World → Prop))) (fuel : Nat) (is : List Nat) (i : Nat) (K : Loc → World → Prop) (L : Loc) (w : World) : Prop :=
 SH B hs (marks os.size is) w → ∀ a, Rep n a L → wpOp P os (drPost n K) i (fun a' w' => SH B hs (marks os.size (i :: is)) w' ∧ wpAnyS P .any os (drPost n K) (SH B hs) fuel (marks os.size (i :: is)) a' w') a w
section
variable {P : Program} {n : Nat} {os : Array Oper} {K : Loc → World → Prop} {L L' : Loc} {w : World} {i : Nat} {d : Option Tmp} {B : World → Prop} {hs : List (Nat × (World → Prop))} {fuel : Nat} {is : List Nat}
theorem DrS.keep {R : Loc} (hr : restrict L (R.map Prod.fst) = some R) (h : DrS P n os B hs fuel is K R w) : DrS P n os B hs fuel is K L w :=
 fun hS a ha => h hS a (ha.sub (restrict_sub hr))
theorem DrS.done (hr : Region.ready .any os (marks os.size is) = []) (h : K L w) : DrS P n os B hs fuel is K L w :=
 fun _ _ ha => wpAnyS_done hr ⟨L, ha, h⟩ _
theorem DrS.split (b : Bool) (ht : b = true → DrS P n os B hs fuel is K L w) (hf : b = false → DrS P n os B hs fuel is K L w) : DrS P n os B hs fuel is K L w := by
 cases b
 ·exact hf rfl
 ·exact ht rfl
def takeOkS (os : Array Oper) (hn : List Nat) (is : List Nat) (i : Nat) : Bool := takeOk os is i && !hn.contains i
theorem hn_ne {i : Nat} (h : (!(hs.map Prod.fst).contains i) = true) : ∀ x ∈ hs, x.1 ≠ i := by
 rintro x hx rfl
 have h1 : (hs.map Prod.fst).contains x.1 = true := by
  rw [List.contains_iff_mem]; exact List.mem_map.2 ⟨x, hx, rfl⟩
 rw [h1] at h
 cases h
theorem DrS.first {v : Value} (stops : List Nat) (hk : takeOkS os (hs.map Prod.fst) is i = true) (hw0 : waitOk .any os (marks os.size is) i stops = true) {o : Oper} (ho : os[i]? = some o)
  (hy : ∀ a, Rep n a L → YieldsIf P os (fun w => ∃ L, (∀ s ∈ stops, L.getD s true = false) ∧ SH B hs L w) o v a) (hset : setL n o.dst v L = some L')
  (hn : DrS P n os B hs fuel (i :: is) K L' w) : DrS P n os B hs (fuel + 1) is K L w := by
 intro hS a ha
 simp only [takeOkS, takeOk, Bool.and_eq_true] at hk
 obtain ⟨⟨hk1, hk2, hk3⟩, hk4⟩ := hk
 unfold waitOk at hw0
 have hst : ∀ s ∈ stops, _ := List.all_eq_true.1 hw0
 have hne := hn_ne hk4
 have hS2 : SH B hs (marks os.size (i :: is)) w := ⟨hS.1, fun x hx hl => hS.2 x hx (by
  have : (marks os.size (i :: is)).getD x.1 true = (marks os.size is).getD x.1 true := getD_set_ne' (Ne.symm (hne x hx))
  rw [this] at hl; exact hl)⟩
 refine wpAnyS_first ho (Region.noSelect_spec hk1) (fun c a w h => by obtain ⟨_, _, q⟩ := h; exact q.elim) hne (fun s hs' => ?_) fuel _ a w (Region.free_spec ho hk2) (by simpa using hk3) (hy a ha) hS (fun s hs' => ?_) (hn hS2 _ (ha.setL hset))
 ·have := hst s hs'
  rw [Bool.and_eq_true] at this
  exact this.2
 ·have := hst s hs'
  rw [Bool.and_eq_true] at this
  simpa using this.1
theorem DrS.take {v : Value} (hk : takeOkS os (hs.map Prod.fst) is i = true) (h0 : okAt os L i = true) (hr : ∀ w', B w' → Runs P L (opn os i) w' v w') (hd : dst? os i = some d) (hset : setL n d v L = some L')
  (hn : DrS P n os B hs fuel (i :: is) K L' w) : DrS P n os B hs (fuel + 1) is K L w := by
 obtain ⟨ho, hw, hp, hkn⟩ := at?_spec (at?_opn h0)
 have hd' : (opn os i).dst = d := by simpa [dst?, ho] using hd
 refine DrS.first [] hk rfl ho (v := v) (fun a ha => .inl ⟨wants_wanted ha hw, fun w' hw' => ?_⟩) (by rw [hd']; exact hset) hn
 obtain ⟨_, _, h⟩ := hw'
 rw [exec_known ha hp hkn]; exact hr w' h.1
theorem DrS.takeH {v : Value} {s : Nat} {p : World → Prop} (hm : (s, p) ∈ hs) (hk : takeOkS os (hs.map Prod.fst) is i = true) (hw0 : waitOk .any os (marks os.size is) i [s] = true) (h0 : okAt os L i = true) (hr : ∀ w', B w' → p w' → Runs P L (opn os i) w' v w') (hd : dst? os i = some d) (hset : setL n d v L = some L')
  (hn : DrS P n os B hs fuel (i :: is) K L' w) : DrS P n os B hs (fuel + 1) is K L w := by
 obtain ⟨ho, hw, hp, hkn⟩ := at?_spec (at?_opn h0)
 have hd' : (opn os i).dst = d := by simpa [dst?, ho] using hd
 refine DrS.first [s] hk hw0 ho (v := v) (fun a ha => .inl ⟨wants_wanted ha hw, fun w' hw' => ?_⟩) (by rw [hd']; exact hset) hn
 obtain ⟨l, hl, h⟩ := hw'
 rw [exec_known ha hp hkn]; exact hr w' h.1 (h.2 _ hm (hl s (List.mem_singleton.2 rfl)))
theorem DrS.unwanted (hk : takeOkS os (hs.map Prod.fst) is i = true) {o : Oper} (ho : os[i]? = some o) (hw : wants os L o = some false) (hset : setL n o.dst undef L = some L')
  (hn : DrS P n os B hs fuel (i :: is) K L' w) : DrS P n os B hs (fuel + 1) is K L w :=
 DrS.first [] hk rfl ho (v := undef) (fun a ha => .inr ⟨wants_wanted ha hw, rfl⟩) hset hn
def takesS (P : Program) (n : Nat) (os : Array Oper) (hn : List Nat) : List Nat → List Nat → Loc → Option Loc
 | [], _, L => some L
 | i :: todo, is, L => bif takeOkS os hn is i then
   match os[i]? with
   | none => none
   | some o => match wants os L o with
    | none => none
    | some false => match setL n o.dst undef L with
     | some L' => takesS P n os hn todo (i :: is) L'
     | none => none
    | some true => match next? P L o with
     | some (.value v) => match setL n o.dst v L with
      | some L' => takesS P n os hn todo (i :: is) L'
      | none => none
     | _ => none
  else none
theorem DrS.takes_go : ∀ (todo is : List Nat) (fuel : Nat) (L L1 : Loc), takesS P n os (hs.map Prod.fst) todo is L = some L1 → DrS P n os B hs fuel (todo.reverse ++ is) K L1 w → DrS P n os B hs (fuel + todo.length) is K L w
 | [], is, fuel, L, L1, h, hn => by simp only [takesS, Option.some.injEq] at h; subst h; simpa using hn
 | i :: todo, is, fuel, L, L1, h, hn => by
  simp only [takesS] at h
  cases hk : takeOkS os (hs.map Prod.fst) is i with
  | false => rw [hk] at h; cases h
  | true =>
   rw [hk] at h
   simp only [cond_true] at h
   have hn' : DrS P n os B hs fuel (todo.reverse ++ (i :: is)) K L1 w := by simpa using hn
   cases ho : os[i]? with
   | none => rw [ho] at h; cases h
   | some o =>
    rw [ho] at h
    simp only at h
    rw [show fuel + (i :: todo).length = (fuel + todo.length) + 1 from by simp; omega]
    cases hw : wants os L o with
    | none => rw [hw] at h; cases h
    | some b =>
     rw [hw] at h
     cases b with
     | false =>
      simp only at h
      cases hset : setL n o.dst undef L with
      | none => rw [hset] at h; cases h
      | some L' => rw [hset] at h; exact DrS.unwanted hk ho hw hset (DrS.takes_go todo (i :: is) fuel L' L1 h hn')
     | true =>
      simp only at h
      cases hx : next? P L o with
      | none => rw [hx] at h; cases h
      | some x =>
       rw [hx] at h
       cases x with
       | value v =>
        simp only at h
        cases hset : setL n o.dst v L with
        | none => rw [hset] at h; cases h
        | some L' =>
         rw [hset] at h
         have hd : dst? os i = some o.dst := by simp [dst?, ho]
         have hop : opn os i = o := by simp [opn, ho]
         have hok : okAt os L i = true := by
          unfold next? at hx
          cases hc : plainOp o.op && knows L o.op.operands.toList with
          | false => rw [hc] at hx; cases hx
          | true => simp [okAt, at?, ho, hw, hc]
         exact DrS.take hk hok (fun w' _ => by rw [hop]; exact Runs.pure hx) hd hset (DrS.takes_go todo (i :: is) fuel L' L1 h hn')
       | _ => cases h
theorem DrS.takes {fuel' : Nat} {is' : List Nat} (todo : List Nat) (R : Loc) (hf : Nat.beq (fuel' + todo.length) fuel = true) (hi : todo.reverse ++ is = is')
  (h : (match takesS P n os (hs.map Prod.fst) todo is L with | some L1 => restrict L1 (R.map Prod.fst) | none => none) = some R) (hn : DrS P n os B hs fuel' is' K R w) : DrS P n os B hs fuel is K L w := by
 cases h1 : takesS P n os (hs.map Prod.fst) todo is L with
 | none => rw [h1] at h; cases h
 | some L1 =>
  rw [h1] at h
  have := Nat.eq_of_beq_eq_true hf
  subst this
  subst hi
  exact DrS.takes_go todo is fuel' L L1 h1 (DrS.keep h hn)
theorem DrS.one (hr : Region.ready .any os (marks os.size is) = [i]) (h : Dr1 P n os B hs fuel is i K L w) : DrS P n os B hs (fuel + 1) is K L w := by
 intro hS a ha
 refine wpAnyS_all hr (by simp) fun q hq => ?_
 obtain rfl : q = i := by simpa using hq
 exact h hS a ha
theorem DrS.two {j : Nat} (hr : Region.ready .any os (marks os.size is) = [i, j]) (h : Dr1 P n os B hs fuel is i K L w) (h2 : Dr1 P n os B hs fuel is j K L w) : DrS P n os B hs (fuel + 1) is K L w := by
 intro hS a ha
 refine wpAnyS_all hr (by simp) fun q hq => ?_
 have hq : q = i ∨ q = j := by simpa using hq
 rcases hq with rfl | rfl
 ·exact h hS a ha
 ·exact h2 hS a ha
theorem DrS.three {j k : Nat} (hr : Region.ready .any os (marks os.size is) = [i, j, k]) (h : Dr1 P n os B hs fuel is i K L w) (h2 : Dr1 P n os B hs fuel is j K L w) (h3 : Dr1 P n os B hs fuel is k K L w) : DrS P n os B hs (fuel + 1) is K L w := by
 intro hS a ha
 refine wpAnyS_all hr (by simp) fun q hq => ?_
 have hq : q = i ∨ q = j ∨ q = k := by simpa using hq
 rcases hq with rfl | rfl | rfl
 ·exact h hS a ha
 ·exact h2 hS a ha
 ·exact h3 hS a ha
theorem Dr1.call {f : Nat} {args : Array Value} {R : Ending → World → Prop} (hc : call? P os L i = some (f, args)) (hd : dst? os i = some d) (C : Calls P f args w R)
  (h : ∀ e w', R e w' → ∃ v L', e = .returned v ∧ setL n d v L = some L' ∧ SH B hs (marks os.size (i :: is)) w' ∧ DrS P n os B hs fuel (i :: is) K L' w') : Dr1 P n os B hs fuel is i K L w := by
 intro hS a ha
 unfold call? at hc
 cases h0 : at? os L i with
 | none => rw [h0] at hc; cases hc
 | some o =>
  rw [h0] at hc
  simp only at hc
  cases hx : next? P L o with
  | none => rw [hx] at hc; cases hc
  | some x =>
   rw [hx] at hc
   cases x with
   | enter f' args' =>
    simp only [Option.some.injEq, Prod.mk.injEq] at hc
    obtain ⟨rfl, rfl⟩ := hc
    obtain ⟨ho, hw, _, _⟩ := at?_spec h0
    have hd' : o.dst = d := by simpa [dst?, ho] using hd
    unfold wpOp
    simp only [ho, wants_wanted ha hw, if_true, Oper.wp, next?_run ha hx, Oper.upon]
    refine .inl (Calls.mono C fun e w' he => ?_)
    obtain ⟨v, L', rfl, hset, hS', hn⟩ := h e w' he
    exact ⟨hS', hn hS' _ (ha.setL (by rw [hd']; exact hset))⟩
   | _ => cases hc
theorem Dr1.go {v : Value} {w' : World} (h0 : okAt os L i = true) (hx : Runs P L (opn os i) w v w') (hd : dst? os i = some d) (hset : setL n d v L = some L')
  (hS' : SH B hs (marks os.size (i :: is)) w') (hn : DrS P n os B hs fuel (i :: is) K L' w') : Dr1 P n os B hs fuel is i K L w := by
 intro hS a ha
 obtain ⟨ho, hw, hp, hkn⟩ := at?_spec (at?_opn h0)
 have hd' : (opn os i).dst = d := by simpa [dst?, ho] using hd
 unfold Runs at hx
 unfold wpOp
 simp only [ho, wants_wanted ha hw, if_true, Oper.wp, exec_known ha hp hkn, hx, Oper.upon]
 exact .inl ⟨hS', hn hS' _ (ha.setL (by rw [hd']; exact hset))⟩
theorem Dr1.goU {w' : World} (h0 : okAt os L i = true) (hx : RunsU P L (opn os i) w w') (hd : dst? os i = some d) (hset : setL n d undef L = some L')
  (hS' : SH B hs (marks os.size (i :: is)) w') (hn : DrS P n os B hs fuel (i :: is) K L' w') : Dr1 P n os B hs fuel is i K L w := by
 intro hS a ha
 obtain ⟨ho, hw, hp, hkn⟩ := at?_spec (at?_opn h0)
 have hd' : (opn os i).dst = d := by simpa [dst?, ho] using hd
 unfold RunsU at hx
 unfold wpOp
 simp only [ho, wants_wanted ha hw, if_true, Oper.wp, exec_known ha hp hkn, hx, Oper.upon]
 exact .inl ⟨hS', hn hS' _ (ha.setL (by rw [hd']; exact hset))⟩
theorem Dr1.put {t : TypeId} {b off : Nat} {v : Value} {xs ys : List Value} {E : TypeId} (h0 : okAt os L i = true) (h : st? L (opn os i) = some (t, ⟨b, off, none⟩, v)) (H : Has w b (rowL xs E)) (hst : storeC P t xs off v = some ys)
  (hd : dst? os i = some d) (hset : setL n d undef L = some L') (hn : ∀ w', Has w' b (rowL ys E) → Keeps (fun j => j = b) w w' → SH B hs (marks os.size (i :: is)) w' ∧ DrS P n os B hs fuel (i :: is) K L' w') : Dr1 P n os B hs fuel is i K L w := by
 obtain ⟨hS, hD⟩ := hn _ (H.set ys) (Keeps.setRow w b ⟨ys⟩)
 exact Dr1.goU h0 (RunsU.stored h H hst) hd hset hS hD
theorem Dr1.new {o : Obj} {V : Nat → Value} {Ln : Nat → Loc} (h : newAt? P os L i = some (o, fun b => some (V b))) (hd : dst? os i = some d) (hset : ∀ b, setL n d (V b) L = some (Ln b))
  (hn : ∀ b w', b = w.heap.size → Has w' b o → Keeps none_ w w' → w'.heap.size = b + 1 → SH B hs (marks os.size (i :: is)) w' ∧ DrS P n os B hs fuel (i :: is) K (Ln b) w') : Dr1 P n os B hs fuel is i K L w := by
 unfold newAt? at h
 cases h0 : at? os L i with
 | none => rw [h0] at h; cases h
 | some o' =>
  rw [h0] at h
  simp only at h
  have hopn : opn os i = o' := by have := (at?_spec h0).1; simp [opn, this]
  have hok : okAt os L i = true := by simp [okAt, h0]
  have hrun : Runs P L (opn os i) w (V w.heap.size) (w.alloc o) := by rw [hopn]; exact new?_run _ w h rfl
  obtain ⟨h1, h2⟩ := hn w.heap.size _ rfl (Has.new w o) (Keeps.alloc w o) (by simp)
  exact Dr1.go hok hrun hd (hset _) h1 h2
end
section
variable {P : Program} {n : Nat} {Q : Exit → Loc → World → Prop} {L : Loc} {w : World} {f : Func} {p : List Nat}
theorem q_drawS (fuel : Nat) (hm : P.follows .mixedOrders = true) (hc : isDraw (cd f p) = true) (hf : Nat.beq (opsOf (cd f p)).size fuel = true)
  (h : ∀ w', Keeps none_ w w' → w'.heap.size = w.heap.size → w'.heap = w.heap → ∃ B hs, SH B hs (marks (opsOf (cd f p)).size []) w' ∧ DrS P n (opsOf (cd f p)) B hs fuel [] (Q .normal) L w') : wp P n (cd f p) Q L w := by
 intro a ha
 cases e : cd f p with
 | region id os dr =>
  rw [e] at hc h hf
  cases dr with
  | false => cases hc
  | true =>
   simp only [opsOf] at h hf
   have hfu := Nat.eq_of_beq_eq_true hf
   obtain ⟨B, hs, hS, hD⟩ := h { w with drawn := w.drawn + 1 } (Keeps.refl w).drew rfl rfl
   refine Go.wp_mono (Go.wp_region_any (Q := drPost n (Q .normal)) hm ?_) fun ex a' w' hq => ?_
   ·have := wpAny_of_S _ _ _ _ (hD hS a ha)
    rw [← hfu] at this
    exact this
   ·obtain ⟨L', r, q⟩ := hq
    cases ex with
    | normal => exact ⟨L', r, q⟩
    | _ => exact q.elim
 | _ => rw [e] at hc; cases hc
end
theorem qr_drawS {F : Fence} {ds : List Deferred} {P : Program} {m n : Nat} {Q : List Deferred → Exit → Loc → World → Prop} {L : Loc} {w : World} {f : Func} {p : List Nat} (hF : Open F) (fuel : Nat) (hm : P.follows .mixedOrders = true) (hc : isDraw (cd f p) = true) (hd : noDefer (opsOf (cd f p)) = true) (hf : Nat.beq (opsOf (cd f p)).size fuel = true)
  (h : ∀ w', Keeps none_ w w' → w'.heap.size = w.heap.size → w'.heap = w.heap → ∃ B hs, SH B hs (marks (opsOf (cd f p)).size []) w' ∧ DrS P n (opsOf (cd f p)) B hs fuel [] (Q ds .normal) L w') : wpR F P m n (cd f p) Q ds L w := by
 intro a ha
 cases e : cd f p with
 | region id os dr =>
  rw [e] at hc h hf hd
  cases dr with
  | false => cases hc
  | true =>
   simp only [opsOf] at h hf hd
   have hfu := Nat.eq_of_beq_eq_true hf
   obtain ⟨B, hs, hS, hD⟩ := h { w with drawn := w.drawn + 1 } (Keeps.refl w).drew rfl rfl
   have hA := wpAny_of_S _ _ _ _ (hD hS a ha)
   rw [← hfu] at hA
   refine wpIn_region_draw fun t => ?_
   simp only [Region.schedule, hm, Bool.true_or, if_true]
   exact opsIn hF m ds (noDefer_op hd) (fun a w q => drPost_fin q) drPost_no _ _ _ (wpAny_sound os.size t _ a _ hA)
 | _ => rw [e] at hc; cases hc
section
variable {F : Fence} {ds : List Deferred} {P : Program} {m n : Nat} {Q : List Deferred → Exit → Loc → World → Prop} {L : Loc} {w : World} {f : Func} {p : List Nat}
theorem qr_scope (hc : isScope (cd f p) = true) (h : wpR Fence.wide P m n (cd f (0 :: p)) (fun ds => nogo (Q ds)) ds L w) : wpR Fence.wide P m n (cd f p) Q ds L w := by
 intro a ha
 have h1 := h a ha
 simp only [cd] at h1
 cases e : cd f p with
 | scope x =>
  rw [e] at h1
  simp only [sub] at h1
  refine wpIn_wide.2 (Go.wp_scope_straight (Go.wp_mono (wpIn_wide.1 h1) fun ex a' w' hq => ?_))
  obtain ⟨d2, a2, L', rfl, r, q⟩ := hq
  cases ex with
  | goto l => exact q.elim
  | _ => exact ⟨d2, a2, L', rfl, r, q⟩
 | _ => rw [e] at hc; cases hc
theorem qr_label (hc : isLabel (cd f p) = true) (h : Q ds .normal L w) : wpR F P m n (cd f p) Q ds L w := by
 intro a ha
 cases e : cd f p with
 | label l => exact wpIn_label ⟨ds, a, L, rfl, ha, h⟩
 | _ => rw [e] at hc; cases hc
end
end Go.Q
namespace Go.Q
section
variable {P : Program} {n : Nat} {Q : Exit → Loc → World → Prop} {L L' : Loc} {w w' : World} {f : Func} {p : List Nat} {os : Array Oper} {i : Nat} {K : Loc → World → Prop}
theorem ogo (v : Value) (d : Tmp) (hr : Runs P L (opn os i) w v w') (hs : setL n (some d) v L = some L') (hn : Ops P n os (i + 1) K L' w') (h0 : okAt os L i = true := by kernel_rfl) (hd : dst? os i = some (some d) := by kernel_rfl) : Ops P n os i K L w := Ops.go h0 hr hd hs hn
theorem rld (t : TypeId) (b off : Nat) {xs : List Value} {E : TypeId} {v : Value} {o : Oper} (H : Has w b (rowL xs E)) (h1 : ld? L o = some (t, ⟨b, off, none⟩) := by kernel_rfl) (h2 : loadC P t xs off = some v := by kernel_rfl) : Runs P L o w v w := Runs.load h1 (H.loads h2)
theorem ocQ (d : Tmp) {g : Nat} {args : Array Value} {R : Ending → World → Prop} (C : Calls P g args w R) (h : ∀ e w', R e w' → ∃ v L', e = .returned v ∧ setL n (some d) v L = some L' ∧ Ops P n os (i + 1) K L' w') (hc : call? P os L i = some (g, args) := by kernel_rfl) (hd : dst? os i = some (some d) := by kernel_rfl) : Ops P n os i K L w := Ops.call hc hd C h
theorem qcQ (t : Tmp) (b : Bool) (hv : evo L (.tmp t) = some (.bool b)) (ht : b = true → wp P n (cd f (0 :: p)) Q L w) (hf : b = false → wp P n (cd f (1 :: p)) Q L w) (hc : isCond (cd f p) = some (.tmp t) := by kernel_rfl) : wp P n (cd f p) Q L w := q_cond hc hv ht hf
theorem qtQ (h : Q .ret L w) (hc : isRet (cd f p) = true := by kernel_rfl) : wp P n (cd f p) Q L w := q_ret hc h
theorem qkQ (h : Q .normal L w) (hc : isSkip (cd f p) = true := by kernel_rfl) : wp P n (cd f p) Q L w := q_skip hc h
theorem ok_ (R : Loc) (h : Ops P n os i K R w) (hs : restrict L (R.map Prod.fst) = some R := by kernel_rfl) : Ops P n os i K L w := Ops.keep hs h
theorem oput (t : TypeId) (b : Nat) {xs : List Value} (ys : List Value) {E : TypeId} (H : Has w b (rowL xs E)) (hs : setL n none undef L = some L') (hn : ∀ w', Has w' b (rowL ys E) → Keeps (fun j => j = b) w w' → Ops P n os (i + 1) K L' w') (h0 : okAt os L i = true := by kernel_rfl) (h : st? L (opn os i) = some (t, ⟨b, 0, none⟩, agg ys) := by kernel_rfl) (hst : storeC P t xs 0 (agg ys) = some ys := by kernel_rfl) (hd : dst? os i = some none := by kernel_rfl) : Ops P n os i K L w := Ops.put h0 h H hst hd hs hn
theorem onew (o : Obj) (V : Nat → Value) (d : Tmp) {Ln : Nat → Loc} (hs : ∀ b, setL n (some d) (V b) L = some (Ln b)) (hn : ∀ b w', b = w.heap.size → Has w' b o → Keeps none_ w w' → w'.heap.size = b + 1 → Ops P n os (i + 1) K (Ln b) w') (h : newAt? P os L i = some (o, fun b => some (V b)) := by kernel_rfl) (hd : dst? os i = some (some d) := by kernel_rfl) : Ops P n os i K L w := Ops.new h hd hs hn
theorem qsg (h : Ops P n (opsOf (cd f (0 :: p))) 0 (wp P n (cd f (1 :: p)) Q) L w) (hc : isSeq (cd f p) = true := by kernel_rfl) (hr : isRegion (cd f (0 :: p)) = true := by kernel_rfl) : wp P n (cd f p) Q L w := q_seq hc (q_region hr h)
theorem ogd (k : Nat) (R : Loc) (hn : K R w) (hj : Nat.beq (i + k) os.size = true := by kernel_rfl) (h : (match Go.Q.regs P n os k i L with | some L1 => restrict L1 (R.map Prod.fst) | none => none) = some R := by kernel_rfl) : Ops P n os i K L w := Ops.regs k R (j := os.size) hj h (Ops.done (Nat.beq_refl _) hn)
theorem oid (k : Nat) (R : Int → Loc) (x : Nat) (hn : K (R ((x + 1 : Nat) : Int)) w) (hj : Nat.beq (i + k) os.size = true := by kernel_rfl) (h : (match Go.Q.regs P n os k i L with | some L1 => restrict L1 ((R (IntKind.i64.wrap ((x : Int) + 1))).map Prod.fst) | none => none) = some (R (IntKind.i64.wrap ((x : Int) + 1))) := by kernel_rfl) (hx : x + 1 ≤ 9223372036854775807 := by omega) : Ops P n os i K L w := by
 have e : IntKind.i64.wrap ((x : Int) + 1) = ((x + 1 : Nat) : Int) := by rw [wrap_i64 (by omega) (by omega)]; omega
 rw [e] at h
 exact Ops.regs k _ (j := os.size) hj h (Ops.done (Nat.beq_refl _) hn)
theorem odz (k : Nat) (hn : K ((Go.Q.regs P n os k i L).getD []) w) (hj : Nat.beq (i + k) os.size = true := by kernel_rfl) (h : (Go.Q.regs P n os k i L).isSome = true := by kernel_rfl) : Ops P n os i K L w := by
 cases e : Go.Q.regs P n os k i L with
 | none => rw [e] at h; cases h
 | some L1 => rw [e] at hn; exact Ops.regs_go k i L L1 e (by rw [Nat.eq_of_beq_eq_true hj]; exact Ops.done (Nat.beq_refl _) hn)
abbrev Ow (v : Value) (i : Nat) : Prop := v.ownBlock = some i
theorem Has.kn {a b : World} {x : Nat} {o : Obj} (h : Has a x o) (k : Keeps none_ a b) : Has b x o := h.keep k (fun h => h)
end
section
variable {P : Program} {n : Nat} {os : Array Oper} {K : Loc → World → Prop} {L L' : Loc} {w : World} {i : Nat} {S : World → Prop} {fuel : Nat} {is : List Nat}
theorem dtQ (i : Nat) (v : Value) (d : Tmp) (hr : ∀ w', S w' → Runs P L (opn os i) w' v w') (hs : setL n (some d) v L = some L') (hn : Dr P n os S fuel (i :: is) K L' w) (hk : takeOk os is i = true := by kernel_rfl) (h0 : okAt os L i = true := by kernel_rfl) (hd : dst? os i = some (some d) := by kernel_rfl) : Dr P n os S (fuel + 1) is K L w := Dr.take hk h0 hr hd hs hn
theorem dkQ (fuel' : Nat) (todo : List Nat) (R : Loc) (hn : Dr P n os S fuel' (todo.reverse ++ is) K R w) (hf : Nat.beq (fuel' + todo.length) fuel = true := by kernel_rfl) (h : (match Q.takes P n os todo is L with | some L1 => restrict L1 (R.map Prod.fst) | none => none) = some R := by kernel_rfl) : Dr P n os S fuel is K L w := Dr.takes todo R hf rfl h hn
end
section
variable {P : Program} {n : Nat} {os : Array Oper} {K : Loc → World → Prop} {L L' : Loc} {w : World} {i : Nat} {B : World → Prop} {hs : List (Nat × (World → Prop))} {fuel : Nat} {is : List Nat}
theorem stQ (i : Nat) (v : Value) (d : Tmp) (hr : ∀ w', B w' → Runs P L (opn os i) w' v w') (hset : setL n (some d) v L = some L') (hn : DrS P n os B hs fuel (i :: is) K L' w) (hk : takeOkS os (hs.map Prod.fst) is i = true := by kernel_rfl) (h0 : okAt os L i = true := by kernel_rfl) (hd : dst? os i = some (some d) := by kernel_rfl) : DrS P n os B hs (fuel + 1) is K L w := DrS.take hk h0 hr hd hset hn
theorem skQ (fuel' : Nat) (todo : List Nat) (R : Loc) (hn : DrS P n os B hs fuel' (todo.reverse ++ is) K R w) (hf : Nat.beq (fuel' + todo.length) fuel = true := by kernel_rfl) (h : (match takesS P n os (hs.map Prod.fst) todo is L with | some L1 => restrict L1 (R.map Prod.fst) | none => none) = some R := by kernel_rfl) : DrS P n os B hs fuel is K L w := DrS.takes todo R hf rfl h hn
theorem soQ (i : Nat) (h : Dr1 P n os B hs fuel is i K L w) (hr : Region.ready .any os (marks os.size is) = [i] := by kernel_rfl) : DrS P n os B hs (fuel + 1) is K L w := DrS.one hr h
end
section
variable {F : Fence} {ds : List Deferred} {P : Program} {m n : Nat} {Q : List Deferred → Exit → Loc → World → Prop} {L : Loc} {w : World} {f : Func} {p : List Nat}
theorem rsQ (h : wpR F P m n (cd f (0 :: p)) (fun ds => thn (wpR F P m n (cd f (1 :: p)) Q ds) (Q ds)) ds L w) (hc : isSeq (cd f p) = true := by kernel_rfl) : wpR F P m n (cd f p) Q ds L w := qr_seq hc h
theorem rgQ (hF : Open F) (h : Ops P n (opsOf (cd f p)) 0 (Q ds .normal) L w) (hc : isRegion (cd f p) = true := by kernel_rfl) (hd : noDefer (opsOf (cd f p)) = true := by kernel_rfl) : wpR F P m n (cd f p) Q ds L w := qr_region hF hc hd h
theorem rsg (hF : Open F) (h : Ops P n (opsOf (cd f (0 :: p))) 0 (wpR F P m n (cd f (1 :: p)) Q ds) L w) (hc : isSeq (cd f p) = true := by kernel_rfl) (hr : isRegion (cd f (0 :: p)) = true := by kernel_rfl) (hd : noDefer (opsOf (cd f (0 :: p))) = true := by kernel_rfl) : wpR F P m n (cd f p) Q ds L w := qr_seq hc (qr_region hF hr hd h)
theorem rcQ (t : Tmp) (b : Bool) (hv : evo L (.tmp t) = some (.bool b)) (ht : b = true → wpR F P m n (cd f (0 :: p)) Q ds L w) (hf : b = false → wpR F P m n (cd f (1 :: p)) Q ds L w) (hc : isCond (cd f p) = some (.tmp t) := by kernel_rfl) : wpR F P m n (cd f p) Q ds L w := qr_cond hc hv ht hf
theorem rkQ (h : Q ds .normal L w) (hc : isSkip (cd f p) = true := by kernel_rfl) : wpR F P m n (cd f p) Q ds L w := qr_skip hc h
theorem rtQ (h : Q ds .ret L w) (hc : isRet (cd f p) = true := by kernel_rfl) : wpR F P m n (cd f p) Q ds L w := qr_ret hc h
end
theorem HasMap.kn {κ α : Type} {w w' : World} {b : Nat} {kf : κ → Value} {vf : α → Value} {m : List (κ × α)} (h : HasMap w b kf vf m) (k : Keeps none_ w w') : HasMap w' b kf vf m := h.keep k (fun h => h)
end Go.Q
namespace Go.Proofs.YtnbcghbgeiocbaaDoor
open Go.Q Go.RowKit
theorem KT : KeyTy Tryd.prog 9 kstr := keyTy_str Tryd.underlying9
theorem KT2 : KeyTy Tryd.prog 116 kpair := keyTy_pair Tryd.underlying116 Tryd.underlying9 Tryd.underlying9 rfl rfl (fun _ _ _ _ => by kernel_rfl)
theorem New_calls (w : World)   : Calls Tryd.prog 27 ⟨[]⟩ w (fun e w' => ∃ b mb kb, e = .returned (ptr b) ∧ Keeps none_ w w' ∧ Has w' b (rowL [.map (some mb), .map (some kb)] 110) ∧ HasMap w' mb kstr ki64 ([] : List (List UInt8 × Int)) ∧ HasMap w' kb kpair keptv (([] : List KeptM).map KeptM.kv) ∧ w.heap.size ≤ b ∧ w.heap.size ≤ mb ∧ w.heap.size ≤ kb ∧ b ≠ mb ∧ b ≠ kb ∧ mb ≠ kb) := by
 have K0 : Keeps none_ w w := Keeps.refl w
 refine q_calls Tryd.func27 (by kernel_rfl) (by kernel_rfl) ?_
 refine qsg ?_
 refine ogd 1 [(0, .pointer none)] ?_
 refine qsg ?_
 obtain ⟨mb5, w1, hr2, K3, hb6, H4⟩ := HasMap.made Tryd.prog w 107 kstr (ki64)
 refine ogo (Value.map (some mb5)) 1 (Runs.of_makeMap (by kernel_rfl) hr2) rfl ?_
 have nmb5 : w.heap.size ≤ mb5 := by have := K0.size; omega
 replace K0 := K0.t0 K3
 clear K3 hr2
 obtain ⟨mb11, w7, hr8, K9, hb12, H10⟩ := HasMap.made Tryd.prog w1 108 kpair (keptv)
 refine ogo (Value.map (some mb11)) 2 (Runs.of_makeMap (by kernel_rfl) hr8) rfl ?_
 have lmb11mb5 : mb5 < mb11 := by have := H4.lt; omega
 have nmb11 : w.heap.size ≤ mb11 := by have := K0.size; omega
 replace K0 := K0.t0 K9
 replace H4 := H4.kn K9
 clear K9 hr8
 refine og 1 [(0, .pointer none), (3, (agg [(Value.map (some mb5)), (Value.map (some mb11))]))] 3 ?_
 refine onew (rowL [(Value.map (some mb5)), (Value.map (some mb11))] 110) (fun b => (ptr b)) 4 (fun b => rfl) (fun b13 w14 hb15 H16 K17 hs18 => ?_)
 have lb13mb5 : mb5 < b13 := by have := H4.lt; omega
 have lb13mb11 : mb11 < b13 := by have := H10.lt; omega
 have nb13 : w.heap.size ≤ b13 := by have := K0.size; omega
 replace K0 := K0.t0 K17
 replace H4 := H4.kn K17
 replace H10 := H10.kn K17
 clear K17 hs18
 refine ogd 1 [(0, ptr b13)] ?_
 refine qtQ ?_
 refine ⟨(ptr b13), retv_tmp rfl rfl, ?_⟩
 exact ⟨b13, mb5, mb11, rfl, K0, H16, H4, H10, nb13, nmb5, nmb11, by omega, by omega, by omega⟩
theorem plain_calls (w : World) (o : Opm)  : Calls Tryd.prog 59 ⟨[(agg (Opm.cells o))]⟩ w (fun e w' => e = .returned (agg [(i64 o.kind), (Value.string (str o.frm)), (Value.string (str ((plainE o).to))), (i64 ((plainE o).amount)), (Value.string (str o.key)), (i64 0), (i64 0)]) ∧ Keeps none_ w w') := by
 have K0 : Keeps none_ w w := Keeps.refl w
 refine q_calls Tryd.func59 (by kernel_rfl) (by kernel_rfl) ?_
 refine qsg ?_
 refine onew (rowL (Opm.cells o) 24) (fun b => (ptr b)) 1 (fun b => rfl) (fun b1 w2 hb3 H4 K5 hs6 => ?_)
 have nb1 : w.heap.size ≤ b1 := by have := K0.size; omega
 replace K0 := K0.t0 K5
 clear K5 hs6
 refine onew (rowL [(i64 0), (Value.string ByteArray.empty), (Value.string ByteArray.empty), (i64 0), (Value.string ByteArray.empty), (i64 0), (i64 0)] 24) (fun b => (ptr b)) 2 (fun b => rfl) (fun b7 w8 hb9 H10 K11 hs12 => ?_)
 have lb7b1 : b1 < b7 := by have := H4.lt; omega
 have nb7 : w.heap.size ≤ b7 := by have := K0.size; omega
 replace K0 := K0.t0 K11
 replace H4 := H4.kn K11
 clear K11 hs12
 refine od ?_
 refine qsg ?_
 refine og 1 [(1, ptr b1), (2, ptr b7), (3, .pointer (some ⟨b1, 5, none⟩))] 1 ?_
 refine Ops.put (t := 3) (b := b1) (off := 5) (v := (i64 0)) (ys := [(i64 o.kind), (Value.string (str o.frm)), (Value.string (str o.to)), (i64 o.amount), (Value.string (str o.key)), (i64 0), (i64 o.shard)]) (by kernel_rfl) (by kernel_rfl) H4 (by kernel_rfl) (d := none) (by kernel_rfl) rfl (fun w13 H14 K15 => ?_)
 clear H4
 replace K0 := K0.t1 K15 fun _ => by omega
 replace H10 := H10.k1 K15 (by omega)
 refine og 1 [(1, ptr b1), (2, ptr b7), (4, .pointer (some ⟨b1, 6, none⟩))] 3 ?_
 refine Ops.put (t := 3) (b := b1) (off := 6) (v := (i64 0)) (ys := [(i64 o.kind), (Value.string (str o.frm)), (Value.string (str o.to)), (i64 o.amount), (Value.string (str o.key)), (i64 0), (i64 0)]) (by kernel_rfl) (by kernel_rfl) H14 (by kernel_rfl) (d := none) (by kernel_rfl) rfl (fun w16 H17 K18 => ?_)
 replace K0 := K0.t1 K18 fun _ => by omega
 replace H10 := H10.k1 K18 (by omega)
 refine od ?_
 refine qs ?_
 refine qsg ?_
 refine og 1 [(1, ptr b1), (2, ptr b7), (5, ptr b1)] 1 ?_
 refine ogo (i64 o.kind) 6 (rld 3 b1 0 H17) rfl ?_
 refine ogd 1 [(1, ptr b1), (2, ptr b7), (7, .bool (o.kind != 4))] ?_
 refine qcQ 7 (o.kind != 4) rfl (fun h19 => ?_) (fun h19 => ?_)
 ·rw [h19]
  have p20 := of_bne_t h19
  refine qg ?_
  refine og 1 [(1, ptr b1), (2, ptr b7), (8, .pointer (some ⟨b1, 2, none⟩))] 1 ?_
  refine Ops.put (t := 9) (b := b1) (off := 2) (v := (Value.string (str ([] : List UInt8)))) (ys := [(i64 o.kind), (Value.string (str o.frm)), (Value.string (str ([] : List UInt8))), (i64 o.amount), (Value.string (str o.key)), (i64 0), (i64 0)]) (by kernel_rfl) (by kernel_rfl) H17 (by kernel_rfl) (d := none) (by kernel_rfl) rfl (fun w21 H22 K23 => ?_)
  replace K0 := K0.t1 K23 fun _ => by omega
  replace H10 := H10.k1 K23 (by omega)
  refine od ?_
  refine qs ?_
  refine qsg ?_
  refine og 1 [(1, ptr b1), (2, ptr b7), (9, ptr b1)] 1 ?_
  refine ogo (i64 o.kind) 10 (rld 3 b1 0 H22) rfl ?_
  refine ogd 1 [(1, ptr b1), (2, ptr b7), (11, .bool (o.kind == 1))] ?_
  refine qcQ 11 (o.kind == 1) rfl (fun h24 => ?_) (fun h24 => ?_)
  ·rw [h24]
   have p25 := of_beq_t h24
   refine qg ?_
   refine og 1 [(1, ptr b1), (2, ptr b7), (12, .pointer (some ⟨b1, 3, none⟩))] 1 ?_
   refine Ops.put (t := 2) (b := b1) (off := 3) (v := (i64 0)) (ys := [(i64 o.kind), (Value.string (str o.frm)), (Value.string (str ([] : List UInt8))), (i64 0), (Value.string (str o.key)), (i64 0), (i64 0)]) (by kernel_rfl) (by kernel_rfl) H22 (by kernel_rfl) (d := none) (by kernel_rfl) rfl (fun w26 H27 K28 => ?_)
   replace K0 := K0.t1 K28 fun _ => by omega
   replace H10 := H10.k1 K28 (by omega)
   refine od ?_
   refine qsg ?_
   refine ogo (agg [(i64 o.kind), (Value.string (str o.frm)), (Value.string (str ([] : List UInt8))), (i64 0), (Value.string (str o.key)), (i64 0), (i64 0)]) 13 (rld 24 b1 0 H27) rfl ?_
   refine oput 24 b7 [(i64 o.kind), (Value.string (str o.frm)), (Value.string (str ([] : List UInt8))), (i64 0), (Value.string (str o.key)), (i64 0), (i64 0)] H10 rfl (fun w29 H30 K31 => ?_)
   replace K0 := K0.t1 K31 fun _ => by omega
   refine od ?_
   refine qtQ ?_
   refine ⟨(agg [(i64 o.kind), (Value.string (str o.frm)), (Value.string (str ([] : List UInt8))), (i64 0), (Value.string (str o.key)), (i64 0), (i64 0)]), retv_cell rfl rfl (H30.loads (by kernel_rfl)), ?_⟩
   exact ⟨by unfold plainE; simp only; first | (rw [if_pos (by omega), if_pos (by omega)]; done) | (rw [if_pos (by omega), if_neg (by omega)]; done) | (rw [if_neg (by omega), if_pos (by omega)]; done) | (rw [if_neg (by omega), if_neg (by omega)]; done) | (rw [if_pos (by omega), if_pos (by omega)]; rfl) | (rw [if_pos (by omega), if_neg (by omega)]; rfl) | (rw [if_neg (by omega), if_pos (by omega)]; rfl) | (rw [if_neg (by omega), if_neg (by omega)]; rfl), K0⟩
  ·rw [h24]
   have p32 := of_beq_f h24
   refine qkQ ?_
   refine qsg ?_
   refine ogo (agg [(i64 o.kind), (Value.string (str o.frm)), (Value.string (str ([] : List UInt8))), (i64 o.amount), (Value.string (str o.key)), (i64 0), (i64 0)]) 13 (rld 24 b1 0 H22) rfl ?_
   refine oput 24 b7 [(i64 o.kind), (Value.string (str o.frm)), (Value.string (str ([] : List UInt8))), (i64 o.amount), (Value.string (str o.key)), (i64 0), (i64 0)] H10 rfl (fun w33 H34 K35 => ?_)
   replace K0 := K0.t1 K35 fun _ => by omega
   refine od ?_
   refine qtQ ?_
   refine ⟨(agg [(i64 o.kind), (Value.string (str o.frm)), (Value.string (str ([] : List UInt8))), (i64 o.amount), (Value.string (str o.key)), (i64 0), (i64 0)]), retv_cell rfl rfl (H34.loads (by kernel_rfl)), ?_⟩
   exact ⟨by unfold plainE; simp only; first | (rw [if_pos (by omega), if_pos (by omega)]; done) | (rw [if_pos (by omega), if_neg (by omega)]; done) | (rw [if_neg (by omega), if_pos (by omega)]; done) | (rw [if_neg (by omega), if_neg (by omega)]; done) | (rw [if_pos (by omega), if_pos (by omega)]; rfl) | (rw [if_pos (by omega), if_neg (by omega)]; rfl) | (rw [if_neg (by omega), if_pos (by omega)]; rfl) | (rw [if_neg (by omega), if_neg (by omega)]; rfl), K0⟩
 ·rw [h19]
  have p36 := of_bne_f h19
  refine qkQ ?_
  refine qs ?_
  refine qsg ?_
  refine og 1 [(1, ptr b1), (2, ptr b7), (9, ptr b1)] 1 ?_
  refine ogo (i64 o.kind) 10 (rld 3 b1 0 H17) rfl ?_
  refine ogd 1 [(1, ptr b1), (2, ptr b7), (11, .bool (o.kind == 1))] ?_
  refine qcQ 11 (o.kind == 1) rfl (fun h37 => ?_) (fun h37 => ?_)
  ·rw [h37]
   have p38 := of_beq_t h37
   refine qg ?_
   refine og 1 [(1, ptr b1), (2, ptr b7), (12, .pointer (some ⟨b1, 3, none⟩))] 1 ?_
   refine Ops.put (t := 2) (b := b1) (off := 3) (v := (i64 0)) (ys := [(i64 o.kind), (Value.string (str o.frm)), (Value.string (str o.to)), (i64 0), (Value.string (str o.key)), (i64 0), (i64 0)]) (by kernel_rfl) (by kernel_rfl) H17 (by kernel_rfl) (d := none) (by kernel_rfl) rfl (fun w39 H40 K41 => ?_)
   replace K0 := K0.t1 K41 fun _ => by omega
   replace H10 := H10.k1 K41 (by omega)
   refine od ?_
   refine qsg ?_
   refine ogo (agg [(i64 o.kind), (Value.string (str o.frm)), (Value.string (str o.to)), (i64 0), (Value.string (str o.key)), (i64 0), (i64 0)]) 13 (rld 24 b1 0 H40) rfl ?_
   refine oput 24 b7 [(i64 o.kind), (Value.string (str o.frm)), (Value.string (str o.to)), (i64 0), (Value.string (str o.key)), (i64 0), (i64 0)] H10 rfl (fun w42 H43 K44 => ?_)
   replace K0 := K0.t1 K44 fun _ => by omega
   refine od ?_
   refine qtQ ?_
   refine ⟨(agg [(i64 o.kind), (Value.string (str o.frm)), (Value.string (str o.to)), (i64 0), (Value.string (str o.key)), (i64 0), (i64 0)]), retv_cell rfl rfl (H43.loads (by kernel_rfl)), ?_⟩
   exact ⟨by unfold plainE; simp only; first | (rw [if_pos (by omega), if_pos (by omega)]; done) | (rw [if_pos (by omega), if_neg (by omega)]; done) | (rw [if_neg (by omega), if_pos (by omega)]; done) | (rw [if_neg (by omega), if_neg (by omega)]; done) | (rw [if_pos (by omega), if_pos (by omega)]; rfl) | (rw [if_pos (by omega), if_neg (by omega)]; rfl) | (rw [if_neg (by omega), if_pos (by omega)]; rfl) | (rw [if_neg (by omega), if_neg (by omega)]; rfl), K0⟩
  ·rw [h37]
   have p45 := of_beq_f h37
   refine qkQ ?_
   refine qsg ?_
   refine ogo (agg [(i64 o.kind), (Value.string (str o.frm)), (Value.string (str o.to)), (i64 o.amount), (Value.string (str o.key)), (i64 0), (i64 0)]) 13 (rld 24 b1 0 H17) rfl ?_
   refine oput 24 b7 [(i64 o.kind), (Value.string (str o.frm)), (Value.string (str o.to)), (i64 o.amount), (Value.string (str o.key)), (i64 0), (i64 0)] H10 rfl (fun w46 H47 K48 => ?_)
   replace K0 := K0.t1 K48 fun _ => by omega
   refine od ?_
   refine qtQ ?_
   refine ⟨(agg [(i64 o.kind), (Value.string (str o.frm)), (Value.string (str o.to)), (i64 o.amount), (Value.string (str o.key)), (i64 0), (i64 0)]), retv_cell rfl rfl (H47.loads (by kernel_rfl)), ?_⟩
   exact ⟨by unfold plainE; simp only; first | (rw [if_pos (by omega), if_pos (by omega)]; done) | (rw [if_pos (by omega), if_neg (by omega)]; done) | (rw [if_neg (by omega), if_pos (by omega)]; done) | (rw [if_neg (by omega), if_neg (by omega)]; done) | (rw [if_pos (by omega), if_pos (by omega)]; rfl) | (rw [if_pos (by omega), if_neg (by omega)]; rfl) | (rw [if_neg (by omega), if_pos (by omega)]; rfl) | (rw [if_neg (by omega), if_neg (by omega)]; rfl), K0⟩
theorem room_calls (w : World) (p : Nat) (o : Opm) (x : Int) (Hp : Has w p (rowL o.cells 24)) (ha : 0 ≤ o.amount ∧ o.amount ≤ 9223372036854775807) (hx : 0 ≤ x ∧ x ≤ 9223372036854775807) : Calls Tryd.prog 66 ⟨[(i64 x), (ptr p)]⟩ w (fun e w' => e = .returned (.bool (decide (x ≤ 9223372036854775807 - o.amount))) ∧ Keeps none_ w w') := by
 have Hpl := Hp.lt
 have K0 : Keeps none_ w w := Keeps.refl w
 refine q_calls Tryd.func66 (by kernel_rfl) (by kernel_rfl) ?_
 refine qsg ?_
 refine odz 1 ?_
 refine qsg ?_
 refine og 2 [(3, .bool false), (4, i64 x), (5, .pointer (some ⟨p, 3, none⟩))] 2 ?_
 refine ogo (i64 o.amount) 6 (rld 2 p 3 Hp) rfl ?_
 refine og 1 [(3, .bool false), (4, i64 x), (7, (i64 (IntKind.i64.wrap (9223372036854775807 - o.amount))))] 4 ?_
 have e1 : IntKind.i64.wrap (9223372036854775807 - o.amount) = 9223372036854775807 - o.amount := wrap_i64 (by omega) (by omega)
 rw [e1]
 refine ogd 2 [(3, (Value.bool (decide (x ≤ 9223372036854775807 - o.amount))))] ?_
 refine qtQ ?_
 refine ⟨(Value.bool (decide (x ≤ 9223372036854775807 - o.amount))), retv_tmp rfl rfl, ?_⟩
 exact ⟨rfl, K0⟩
theorem act_none (w : World) (b mb kb : Nat) (m : List (List UInt8 × Int)) (S : List RowM) (o : Opm) (Hb : Has w b (rowL [.map (some mb), .map (some kb)] 110)) (Hm : HasMap w mb kstr ki64 m) (hne : b ≠ mb) (hL : LMap m S) (hk : 1 ≤ o.kind ∧ o.kind ≤ 4) (hf : nameOk o.frm = true) (ha : o.kind ≠ 1 → 1 ≤ o.amount) (hr : -9223372036854775808 ≤ o.amount ∧ o.amount ≤ 9223372036854775807) (hft : o.kind = 4 → o.frm ≠ o.to) (hg : getM m o.frm = none) : Calls Tryd.prog 60 ⟨[(ptr b), (agg (Opm.cells o)), (i64 0), (Value.bool false)]⟩ w (fun e w' => ∃ m', e = .returned (i64 (actE S o)) ∧ Keeps (fun i => i = mb) w w' ∧ HasMap w' mb kstr ki64 m' ∧ LMap m' (actS S o)) := by
 have Hbl := Hb.lt
 have Hml := Hm.lt
 have hgS := hL.got_none hg
 have K0 : Keeps (fun i => i = mb) w w := (Keeps.refl w).mono (fun _ _ h => h.elim)
 refine q_calls Tryd.func60 (by kernel_rfl) (by kernel_rfl) ?_
 refine qsg ?_
 refine onew (rowL (Opm.cells o) 24) (fun b => (ptr b)) 5 (fun b => rfl) (fun b1 w2 hb3 H4 K5 hs6 => ?_)
 have lb1b : b < b1 := by have := Hb.lt; omega
 have lb1mb : mb < b1 := by have := Hm.lt; omega
 have nb1 : w.heap.size ≤ b1 := by have := K0.size; omega
 replace K0 := K0.tn K5
 replace Hb := Hb.kn K5
 replace Hm := Hm.kn K5
 clear K5 hs6
 refine odz 1 ?_
 refine qsg ?_
 refine ogd 2 [(0, ptr b), (2, i64 0), (3, .bool false), (5, ptr b1), (8, i64 0), (9, .func (Fn.func 66) ⟨[]⟩ ⟨[(ptr b1)]⟩)] ?_
 refine qs ?_
 refine q_block (id := 0) (by kernel_rfl) ?_
 refine qsg ?_
 refine og 1 [(0, ptr b), (2, i64 0), (3, .bool false), (5, ptr b1), (8, i64 0), (9, .func (Fn.func 66) ⟨[]⟩ ⟨[(ptr b1)]⟩), (14, ptr b1)] 1 ?_
 refine ogo (i64 o.kind) 15 (rld 3 b1 0 H4) rfl ?_
 refine ogd 2 [(0, ptr b), (2, i64 0), (3, .bool false), (5, ptr b1), (8, i64 0), (9, .func (Fn.func 66) ⟨[]⟩ ⟨[(ptr b1)]⟩), (13, .bool (o.kind == 1))] ?_
 refine qcQ 13 (o.kind == 1) rfl (fun h7 => ?_) (fun h7 => ?_)
 ·rw [h7]
  have p8 := of_beq_t h7
  refine qs ?_
  refine qsg ?_
  refine ogd 1 [(0, ptr b), (2, i64 0), (3, .bool false), (5, ptr b1), (8, i64 0), (9, .func (Fn.func 66) ⟨[]⟩ ⟨[(ptr b1)]⟩), (17, .bool false)] ?_
  refine q_else (o := .tmp 17) (by kernel_rfl) rfl ?_
  refine qkQ ?_
  refine qs ?_
  refine q_draw (fun wz => Keeps (fun i => i = mb) w2 wz) 7 (by kernel_rfl) (by kernel_rfl) (by kernel_rfl) (fun w9 K10 _ _ => ⟨(K10.mono (fun _ _ h => h.elim)), ?_⟩)
  replace K0 := K0.tn K10
  replace Hb := Hb.kn K10
  replace Hm := Hm.kn K10
  replace H4 := H4.kn K10
  refine Dr.strong (S' := (fun wz => Keeps (fun i => i = mb) w9 wz)) ((Keeps.refl w9).mono (fun _ _ h => h.elim)) (fun wz hx => K10.trans hx (fun i _ h => h.elim) (fun _ _ h => h)) ?_
  refine dkQ 4 [0, 1, 2] [(0, ptr b), (2, i64 0), (3, .bool false), (5, ptr b1), (8, i64 0), (9, .func (Fn.func 66) ⟨[]⟩ ⟨[(ptr b1)]⟩), (20, ptr b)] ?_
  refine dtQ 3 (Value.map (some mb)) 21 (fun wz hS => rld 107 b 0 (Hb.keep hS (by intro h; change b = mb at h; omega))) rfl ?_
  refine dkQ 2 [4] [(0, ptr b), (2, i64 0), (3, .bool false), (5, ptr b1), (8, i64 0), (9, .func (Fn.func 66) ⟨[]⟩ ⟨[(ptr b1)]⟩), (21, .map (some mb)), (22, .pointer (some ⟨b1, 1, none⟩))] ?_
  refine dtQ 5 (Value.string (str o.frm)) 23 (fun wz hS => rld 9 b1 1 (H4.keep hS (by intro h; change b1 = mb at h; omega))) rfl ?_
  obtain ⟨w11, hr12, K13, H14⟩ := HasMap.update KT Tryd.underlying107 Hm o.frm 0
  refine Dr.goU (i := 6) (by kernel_rfl) (by kernel_rfl) (RunsU.of_update (by kernel_rfl) hr12) (d := none) (by kernel_rfl) rfl K13 ?_
  clear Hm
  replace K0 := K0.t1 K13 (fun _ => rfl)
  refine Dr.strong (S' := (fun wz => Keeps (fun i => i = mb) w11 wz)) ((Keeps.refl w11).mono (fun _ _ h => h.elim)) (fun wz hx => K13.trans hx (fun i _ h => by have h : i = mb := h; show i = mb; omega) (fun _ _ h => h)) ?_
  clear K13 hr12
  refine Dr.done (by kernel_rfl) ?_
  refine qsg ?_
  refine ogd 1 [(0, ptr b), (2, i64 0), (3, .bool false), (5, ptr b1), (8, i64 0), (9, .func (Fn.func 66) ⟨[]⟩ ⟨[(ptr b1)]⟩)] ?_
  refine qtQ ?_
  refine ⟨(i64 0), retv_tmp rfl rfl, ?_⟩
  have e1 : actE S o = 0 := by unfold actE; simp only [hgS]; (repeat' split) <;> first | rfl | (exfalso; omega) | (exfalso; simp_all; done)
  have e2 := hL.ins hf hg
  refine ⟨putM m o.frm 0, by rw [e1], K0, H14, ?_⟩
  unfold actS; simp only [hgS]; (repeat' split) <;> first | (exfalso; omega) | (exfalso; simp_all; done) | exact e2
 ·rw [h7]
  have p15 := of_beq_f h7
  refine qsg ?_
  refine ogd 3 [(0, ptr b), (2, i64 0), (5, ptr b1), (8, i64 0), (9, .func (Fn.func 66) ⟨[]⟩ ⟨[(ptr b1)]⟩), (24, .bool true)] ?_
  refine q_then (o := .tmp 24) (by kernel_rfl) rfl ?_
  refine qsg ?_
  refine ogd 1 [(0, ptr b), (2, i64 0), (5, ptr b1), (8, i64 40), (9, .func (Fn.func 66) ⟨[]⟩ ⟨[(ptr b1)]⟩)] ?_
  refine qtQ ?_
  refine ⟨(i64 40), retv_tmp rfl rfl, ?_⟩
  have e1 : actE S o = 40 := by unfold actE; simp only [hgS]; (repeat' split) <;> first | rfl | (exfalso; omega) | (exfalso; simp_all; done)
  have e2 := hL
  refine ⟨m, by rw [e1], K0, Hm, ?_⟩
  unfold actS; simp only [hgS]; (repeat' split) <;> first | (exfalso; omega) | (exfalso; simp_all; done) | exact e2
theorem act_some (w : World) (b mb kb : Nat) (m : List (List UInt8 × Int)) (S : List RowM) (o : Opm) (Hb : Has w b (rowL [.map (some mb), .map (some kb)] 110)) (Hm : HasMap w mb kstr ki64 m) (hne : b ≠ mb) (hL : LMap m S) (hk : 1 ≤ o.kind ∧ o.kind ≤ 4) (hf : nameOk o.frm = true) (ha : o.kind ≠ 1 → 1 ≤ o.amount) (hr : -9223372036854775808 ≤ o.amount ∧ o.amount ≤ 9223372036854775807) (hft : o.kind = 4 → o.frm ≠ o.to) (x : Int) (hg : getM m o.frm = some x) : Calls Tryd.prog 60 ⟨[(ptr b), (agg (Opm.cells o)), (i64 x), (Value.bool true)]⟩ w (fun e w' => ∃ m', e = .returned (i64 (actE S o)) ∧ Keeps (fun i => i = mb) w w' ∧ HasMap w' mb kstr ki64 m' ∧ LMap m' (actS S o)) := by
 have Hbl := Hb.lt
 have Hml := Hm.lt
 obtain ⟨hgS, hx0, hx1⟩ := hL.got_some hg
 have K0 : Keeps (fun i => i = mb) w w := (Keeps.refl w).mono (fun _ _ h => h.elim)
 refine q_calls Tryd.func60 (by kernel_rfl) (by kernel_rfl) ?_
 refine qsg ?_
 refine onew (rowL (Opm.cells o) 24) (fun b => (ptr b)) 5 (fun b => rfl) (fun b1 w2 hb3 H4 K5 hs6 => ?_)
 have lb1b : b < b1 := by have := Hb.lt; omega
 have lb1mb : mb < b1 := by have := Hm.lt; omega
 have nb1 : w.heap.size ≤ b1 := by have := K0.size; omega
 replace K0 := K0.tn K5
 replace Hb := Hb.kn K5
 replace Hm := Hm.kn K5
 clear K5 hs6
 refine odz 1 ?_
 refine qsg ?_
 refine ogd 2 [(0, ptr b), (2, i64 x), (3, .bool true), (5, ptr b1), (8, i64 0), (9, .func (Fn.func 66) ⟨[]⟩ ⟨[(ptr b1)]⟩)] ?_
 refine qs ?_
 refine q_block (id := 0) (by kernel_rfl) ?_
 refine qsg ?_
 refine og 1 [(0, ptr b), (2, i64 x), (3, .bool true), (5, ptr b1), (8, i64 0), (9, .func (Fn.func 66) ⟨[]⟩ ⟨[(ptr b1)]⟩), (14, ptr b1)] 1 ?_
 refine ogo (i64 o.kind) 15 (rld 3 b1 0 H4) rfl ?_
 refine ogd 2 [(0, ptr b), (2, i64 x), (3, .bool true), (5, ptr b1), (8, i64 0), (9, .func (Fn.func 66) ⟨[]⟩ ⟨[(ptr b1)]⟩), (13, .bool (o.kind == 1))] ?_
 refine qcQ 13 (o.kind == 1) rfl (fun h7 => ?_) (fun h7 => ?_)
 ·rw [h7]
  have p8 := of_beq_t h7
  refine qs ?_
  refine qsg ?_
  refine ogd 1 [(0, ptr b), (2, i64 x), (3, .bool true), (5, ptr b1), (8, i64 0), (9, .func (Fn.func 66) ⟨[]⟩ ⟨[(ptr b1)]⟩), (17, .bool true)] ?_
  refine q_then (o := .tmp 17) (by kernel_rfl) rfl ?_
  refine qsg ?_
  refine ogd 1 [(0, ptr b), (2, i64 x), (3, .bool true), (5, ptr b1), (8, i64 41), (9, .func (Fn.func 66) ⟨[]⟩ ⟨[(ptr b1)]⟩)] ?_
  refine qtQ ?_
  refine ⟨(i64 41), retv_tmp rfl rfl, ?_⟩
  have e1 : actE S o = 41 := by unfold actE; simp only [hgS]; (repeat' split) <;> first | rfl | (exfalso; omega) | (exfalso; simp_all; done)
  have e2 := hL
  refine ⟨m, by rw [e1], K0, Hm, ?_⟩
  unfold actS; simp only [hgS]; (repeat' split) <;> first | (exfalso; omega) | (exfalso; simp_all; done) | exact e2
 ·rw [h7]
  have p9 := of_beq_f h7
  refine qsg ?_
  refine ogd 3 [(0, ptr b), (2, i64 x), (5, ptr b1), (8, i64 0), (9, .func (Fn.func 66) ⟨[]⟩ ⟨[(ptr b1)]⟩), (24, .bool false)] ?_
  refine q_else (o := .tmp 24) (by kernel_rfl) rfl ?_
  refine qsg ?_
  refine og 1 [(0, ptr b), (2, i64 x), (5, ptr b1), (8, i64 0), (9, .func (Fn.func 66) ⟨[]⟩ ⟨[(ptr b1)]⟩), (28, ptr b1)] 1 ?_
  refine ogo (i64 o.kind) 29 (rld 3 b1 0 H4) rfl ?_
  refine ogd 2 [(0, ptr b), (2, i64 x), (5, ptr b1), (8, i64 0), (9, .func (Fn.func 66) ⟨[]⟩ ⟨[(ptr b1)]⟩), (27, .bool (o.kind == 2))] ?_
  refine qcQ 27 (o.kind == 2) rfl (fun h10 => ?_) (fun h10 => ?_)
  ·rw [h10]
   have p11 := of_beq_t h10
   refine qs ?_
   refine qsg ?_
   refine og 2 [(0, ptr b), (2, i64 x), (5, ptr b1), (8, i64 0), (9, .func (Fn.func 66) ⟨[]⟩ ⟨[(ptr b1)]⟩), (31, .func (Fn.func 66) ⟨[]⟩ ⟨[(ptr b1)]⟩), (32, i64 x)] 2 ?_
   refine ocQ 33 (room_calls _ b1 o x H4 (by omega) (by omega)) ?_
   rintro _ w13 ⟨rfl, K12⟩
   refine ⟨_, _, rfl, rfl, ?_⟩
   replace K0 := K0.tn K12
   replace Hb := Hb.kn K12
   replace Hm := Hm.kn K12
   replace H4 := H4.kn K12
   refine ogd 1 [(0, ptr b), (2, i64 x), (5, ptr b1), (8, i64 0), (9, .func (Fn.func 66) ⟨[]⟩ ⟨[(ptr b1)]⟩), (34, (Value.bool (!(decide (x ≤ 9223372036854775807 - o.amount)))))] ?_
   refine qcQ 34 (!(decide (x ≤ 9223372036854775807 - o.amount))) rfl (fun h14 => ?_) (fun h14 => ?_)
   ·rw [h14]
    have p15 : ¬ (x ≤ 9223372036854775807 - o.amount) := of_decide_eq_false (bnot_true h14)
    refine qsg ?_
    refine ogd 1 [(0, ptr b), (2, i64 x), (5, ptr b1), (8, i64 43), (9, .func (Fn.func 66) ⟨[]⟩ ⟨[(ptr b1)]⟩)] ?_
    refine qtQ ?_
    refine ⟨(i64 43), retv_tmp rfl rfl, ?_⟩
    have e1 : actE S o = 43 := by unfold actE; simp only [hgS]; (repeat' split) <;> first | rfl | (exfalso; omega) | (exfalso; simp_all; done)
    have e2 := hL
    refine ⟨m, by rw [e1], K0, Hm, ?_⟩
    unfold actS; simp only [hgS]; (repeat' split) <;> first | (exfalso; omega) | (exfalso; simp_all; done) | exact e2
   ·rw [h14]
    have p16 : x ≤ 9223372036854775807 - o.amount := of_decide_eq_true (bnot_false h14)
    refine qkQ ?_
    refine qs ?_
    refine q_draw (fun wz => Keeps (fun i => i = mb) w13 wz) 11 (by kernel_rfl) (by kernel_rfl) (by kernel_rfl) (fun w17 K18 _ _ => ⟨(K18.mono (fun _ _ h => h.elim)), ?_⟩)
    replace K0 := K0.tn K18
    replace Hb := Hb.kn K18
    replace Hm := Hm.kn K18
    replace H4 := H4.kn K18
    refine Dr.strong (S' := (fun wz => Keeps (fun i => i = mb) w17 wz)) ((Keeps.refl w17).mono (fun _ _ h => h.elim)) (fun wz hx => K18.trans hx (fun i _ h => h.elim) (fun _ _ h => h)) ?_
    refine dkQ 8 [0, 1, 2] [(0, ptr b), (2, i64 x), (5, ptr b1), (8, i64 0), (9, .func (Fn.func 66) ⟨[]⟩ ⟨[(ptr b1)]⟩), (37, ptr b)] ?_
    refine dtQ 3 (Value.map (some mb)) 38 (fun wz hS => rld 107 b 0 (Hb.keep hS (by intro h; change b = mb at h; omega))) rfl ?_
    refine dkQ 6 [4] [(0, ptr b), (2, i64 x), (5, ptr b1), (8, i64 0), (9, .func (Fn.func 66) ⟨[]⟩ ⟨[(ptr b1)]⟩), (38, .map (some mb)), (39, .pointer (some ⟨b1, 1, none⟩))] ?_
    refine dtQ 5 (Value.string (str o.frm)) 40 (fun wz hS => rld 9 b1 1 (H4.keep hS (by intro h; change b1 = mb at h; omega))) rfl ?_
    refine dkQ 3 [6, 7] [(0, ptr b), (2, i64 x), (5, ptr b1), (8, i64 0), (9, .func (Fn.func 66) ⟨[]⟩ ⟨[(ptr b1)]⟩), (38, .map (some mb)), (40, .string (str o.frm)), (41, i64 x), (42, .pointer (some ⟨b1, 3, none⟩))] ?_
    refine dtQ 8 (i64 o.amount) 43 (fun wz hS => rld 2 b1 3 (H4.keep hS (by intro h; change b1 = mb at h; omega))) rfl ?_
    refine dkQ 1 [9] [(0, ptr b), (2, i64 x), (5, ptr b1), (8, i64 0), (9, .func (Fn.func 66) ⟨[]⟩ ⟨[(ptr b1)]⟩), (38, .map (some mb)), (40, .string (str o.frm)), (44, (i64 (IntKind.i64.wrap (x + o.amount))))] ?_
    have e19 : IntKind.i64.wrap (x + o.amount) = x + o.amount := wrap_i64 (by omega) (by omega)
    rw [e19]
    obtain ⟨w20, hr21, K22, H23⟩ := HasMap.update KT Tryd.underlying107 Hm o.frm (x + o.amount)
    refine Dr.goU (i := 10) (by kernel_rfl) (by kernel_rfl) (RunsU.of_update (by kernel_rfl) hr21) (d := none) (by kernel_rfl) rfl K22 ?_
    clear Hm
    replace K0 := K0.t1 K22 (fun _ => rfl)
    refine Dr.strong (S' := (fun wz => Keeps (fun i => i = mb) w20 wz)) ((Keeps.refl w20).mono (fun _ _ h => h.elim)) (fun wz hx => K22.trans hx (fun i _ h => by have h : i = mb := h; show i = mb; omega) (fun _ _ h => h)) ?_
    clear K22 hr21
    refine Dr.done (by kernel_rfl) ?_
    refine qsg ?_
    refine ogd 1 [(0, ptr b), (2, i64 x), (5, ptr b1), (8, i64 0), (9, .func (Fn.func 66) ⟨[]⟩ ⟨[(ptr b1)]⟩)] ?_
    refine qtQ ?_
    refine ⟨(i64 0), retv_tmp rfl rfl, ?_⟩
    have e1 : actE S o = 0 := by unfold actE; simp only [hgS]; (repeat' split) <;> first | rfl | (exfalso; omega) | (exfalso; simp_all; done)
    have e2 := hL.set hg (x := (x + o.amount)) (by omega)
    refine ⟨putM m o.frm (x + o.amount), by rw [e1], K0, H23, ?_⟩
    unfold actS; simp only [hgS]; (repeat' split) <;> first | (exfalso; omega) | (exfalso; simp_all; done) | exact e2
  ·rw [h10]
   have p24 := of_beq_f h10
   refine qsg ?_
   refine og 2 [(0, ptr b), (2, i64 x), (5, ptr b1), (8, i64 0), (9, .func (Fn.func 66) ⟨[]⟩ ⟨[(ptr b1)]⟩), (46, i64 x), (47, .pointer (some ⟨b1, 3, none⟩))] 2 ?_
   refine ogo (i64 o.amount) 48 (rld 2 b1 3 H4) rfl ?_
   refine ogd 2 [(0, ptr b), (2, i64 x), (5, ptr b1), (8, i64 0), (9, .func (Fn.func 66) ⟨[]⟩ ⟨[(ptr b1)]⟩), (45, (Value.bool (decide (x < o.amount))))] ?_
   refine qcQ 45 (decide (x < o.amount)) rfl (fun h25 => ?_) (fun h25 => ?_)
   ·rw [h25]
    have p26 := of_decide_eq_true h25
    refine qsg ?_
    refine ogd 1 [(0, ptr b), (2, i64 x), (5, ptr b1), (8, i64 42), (9, .func (Fn.func 66) ⟨[]⟩ ⟨[(ptr b1)]⟩)] ?_
    refine qtQ ?_
    refine ⟨(i64 42), retv_tmp rfl rfl, ?_⟩
    have e1 : actE S o = 42 := by unfold actE; simp only [hgS]; (repeat' split) <;> first | rfl | (exfalso; omega) | (exfalso; simp_all; done)
    have e2 := hL
    refine ⟨m, by rw [e1], K0, Hm, ?_⟩
    unfold actS; simp only [hgS]; (repeat' split) <;> first | (exfalso; omega) | (exfalso; simp_all; done) | exact e2
   ·rw [h25]
    have p27 := of_decide_eq_false h25
    refine qkQ ?_
    refine qs ?_
    refine qsg ?_
    refine og 1 [(0, ptr b), (2, i64 x), (5, ptr b1), (8, i64 0), (9, .func (Fn.func 66) ⟨[]⟩ ⟨[(ptr b1)]⟩), (50, ptr b1)] 1 ?_
    refine ogo (i64 o.kind) 51 (rld 3 b1 0 H4) rfl ?_
    refine ogd 1 [(0, ptr b), (2, i64 x), (5, ptr b1), (8, i64 0), (9, .func (Fn.func 66) ⟨[]⟩ ⟨[(ptr b1)]⟩), (52, .bool (o.kind == 4))] ?_
    refine qcQ 52 (o.kind == 4) rfl (fun h28 => ?_) (fun h28 => ?_)
    ·rw [h28]
     have p29 := of_beq_t h28
     refine qs ?_
     refine q_draw (fun wz => Keeps none_ w2 wz) 12 (by kernel_rfl) (by kernel_rfl) (by kernel_rfl) (fun w30 K31 _ _ => ⟨K31, ?_⟩)
     replace K0 := K0.tn K31
     replace Hb := Hb.kn K31
     replace Hm := Hm.kn K31
     replace H4 := H4.kn K31
     refine Dr.strong (S' := (fun wz => Keeps none_ w30 wz)) (Keeps.refl w30) (fun wz hx => K31.trans hx (fun i _ h => h) (fun _ _ h => h)) ?_
     refine dkQ 9 [0, 1, 2] [(0, ptr b), (2, i64 x), (5, ptr b1), (8, i64 0), (9, .func (Fn.func 66) ⟨[]⟩ ⟨[(ptr b1)]⟩), (56, ptr b)] ?_
     refine dtQ 3 (Value.map (some mb)) 57 (fun wz hS => rld 107 b 0 (Hb.keep hS (fun h => h))) rfl ?_
     refine dkQ 7 [4] [(0, ptr b), (2, i64 x), (5, ptr b1), (8, i64 0), (9, .func (Fn.func 66) ⟨[]⟩ ⟨[(ptr b1)]⟩), (57, .map (some mb)), (58, .pointer (some ⟨b1, 2, none⟩))] ?_
     refine dtQ 5 (Value.string (str o.to)) 59 (fun wz hS => rld 9 b1 2 (H4.keep hS (fun h => h))) rfl ?_
     rcases hg32 : getM m o.to with _ | y33
     ·skip
      have hw34 := hL.got_none hg32
      refine dtQ 6 (Value.tuple #[(i64 0), (Value.bool false)]) 60 (fun wz hS => Runs.lookup_none (ok := true) (z := (i64 0)) KT Tryd.underlying107 (by kernel_rfl) (Hm.keep hS (fun h => h)) hg32 (by kernel_rfl)) rfl ?_
      refine dkQ 0 [7, 8, 9, 10, 11] [(0, ptr b), (2, i64 x), (5, ptr b1), (8, i64 0), (9, .func (Fn.func 66) ⟨[]⟩ ⟨[(ptr b1)]⟩), (10, i64 0), (11, .bool false)] ?_
      refine Dr.done (by kernel_rfl) ?_
      refine qs ?_
      refine qsg ?_
      refine ogd 2 [(0, ptr b), (2, i64 x), (5, ptr b1), (8, i64 0), (9, .func (Fn.func 66) ⟨[]⟩ ⟨[(ptr b1)]⟩), (10, i64 0), (64, .bool true)] ?_
      refine q_then (o := .tmp 64) (by kernel_rfl) rfl ?_
      refine qsg ?_
      refine ogd 1 [(0, ptr b), (2, i64 x), (5, ptr b1), (8, i64 40), (9, .func (Fn.func 66) ⟨[]⟩ ⟨[(ptr b1)]⟩), (10, i64 0)] ?_
      refine qtQ ?_
      refine ⟨(i64 40), retv_tmp rfl rfl, ?_⟩
      have e1 : actE S o = 40 := by unfold actE; simp only [hgS, hw34]; (repeat' split) <;> first | rfl | (exfalso; omega) | (exfalso; simp_all; done)
      have e2 := hL
      refine ⟨m, by rw [e1], K0, Hm, ?_⟩
      unfold actS; simp only [hgS, hw34]; (repeat' split) <;> first | (exfalso; omega) | (exfalso; simp_all; done) | exact e2
     ·skip
      obtain ⟨hw35, hr36, hr37⟩ := hL.got_some hg32
      refine dtQ 6 (Value.tuple #[(i64 y33), (Value.bool true)]) 60 (fun wz hS => Runs.lookup_some (ok := true) (vf := ki64) (a := y33) KT Tryd.underlying107 (Hm.keep hS (fun h => h)) hg32 (by kernel_rfl)) rfl ?_
      refine dkQ 0 [7, 8, 9, 10, 11] [(0, ptr b), (2, i64 x), (5, ptr b1), (8, i64 0), (9, .func (Fn.func 66) ⟨[]⟩ ⟨[(ptr b1)]⟩), (10, i64 y33), (11, .bool true)] ?_
      refine Dr.done (by kernel_rfl) ?_
      refine qs ?_
      refine qsg ?_
      refine ogd 2 [(0, ptr b), (2, i64 x), (5, ptr b1), (8, i64 0), (9, .func (Fn.func 66) ⟨[]⟩ ⟨[(ptr b1)]⟩), (10, i64 y33), (64, .bool false)] ?_
      refine q_else (o := .tmp 64) (by kernel_rfl) rfl ?_
      refine qkQ ?_
      refine qs ?_
      refine qsg ?_
      refine og 2 [(0, ptr b), (2, i64 x), (5, ptr b1), (8, i64 0), (10, i64 y33), (65, .func (Fn.func 66) ⟨[]⟩ ⟨[(ptr b1)]⟩), (66, i64 y33)] 2 ?_
      refine ocQ 67 (room_calls _ b1 o y33 H4 (by omega) (by omega)) ?_
      rintro _ w39 ⟨rfl, K38⟩
      refine ⟨_, _, rfl, rfl, ?_⟩
      replace K0 := K0.tn K38
      replace Hb := Hb.kn K38
      replace Hm := Hm.kn K38
      replace H4 := H4.kn K38
      refine ogd 1 [(0, ptr b), (2, i64 x), (5, ptr b1), (8, i64 0), (10, i64 y33), (68, (Value.bool (!(decide (y33 ≤ 9223372036854775807 - o.amount)))))] ?_
      refine qcQ 68 (!(decide (y33 ≤ 9223372036854775807 - o.amount))) rfl (fun h40 => ?_) (fun h40 => ?_)
      ·rw [h40]
       have p41 : ¬ (y33 ≤ 9223372036854775807 - o.amount) := of_decide_eq_false (bnot_true h40)
       refine qsg ?_
       refine ogd 1 [(0, ptr b), (2, i64 x), (5, ptr b1), (8, i64 43), (10, i64 y33)] ?_
       refine qtQ ?_
       refine ⟨(i64 43), retv_tmp rfl rfl, ?_⟩
       have e1 : actE S o = 43 := by unfold actE; simp only [hgS, hw35]; (repeat' split) <;> first | rfl | (exfalso; omega) | (exfalso; simp_all; done)
       have e2 := hL
       refine ⟨m, by rw [e1], K0, Hm, ?_⟩
       unfold actS; simp only [hgS, hw35]; (repeat' split) <;> first | (exfalso; omega) | (exfalso; simp_all; done) | exact e2
      ·rw [h40]
       have p42 : y33 ≤ 9223372036854775807 - o.amount := of_decide_eq_true (bnot_false h40)
       refine qkQ ?_
       refine q_draw (fun wz => Keeps (fun i => i = mb) w39 wz) 11 (by kernel_rfl) (by kernel_rfl) (by kernel_rfl) (fun w43 K44 _ _ => ⟨(K44.mono (fun _ _ h => h.elim)), ?_⟩)
       replace K0 := K0.tn K44
       replace Hb := Hb.kn K44
       replace Hm := Hm.kn K44
       replace H4 := H4.kn K44
       refine Dr.strong (S' := (fun wz => Keeps (fun i => i = mb) w43 wz)) ((Keeps.refl w43).mono (fun _ _ h => h.elim)) (fun wz hx => K44.trans hx (fun i _ h => h.elim) (fun _ _ h => h)) ?_
       refine dkQ 8 [0, 1, 2] [(0, ptr b), (2, i64 x), (5, ptr b1), (8, i64 0), (10, i64 y33), (71, ptr b)] ?_
       refine dtQ 3 (Value.map (some mb)) 72 (fun wz hS => rld 107 b 0 (Hb.keep hS (by intro h; change b = mb at h; omega))) rfl ?_
       refine dkQ 6 [4] [(0, ptr b), (2, i64 x), (5, ptr b1), (8, i64 0), (10, i64 y33), (72, .map (some mb)), (73, .pointer (some ⟨b1, 2, none⟩))] ?_
       refine dtQ 5 (Value.string (str o.to)) 74 (fun wz hS => rld 9 b1 2 (H4.keep hS (by intro h; change b1 = mb at h; omega))) rfl ?_
       refine dkQ 3 [6, 7] [(0, ptr b), (2, i64 x), (5, ptr b1), (8, i64 0), (72, .map (some mb)), (74, .string (str o.to)), (75, i64 y33), (76, .pointer (some ⟨b1, 3, none⟩))] ?_
       refine dtQ 8 (i64 o.amount) 77 (fun wz hS => rld 2 b1 3 (H4.keep hS (by intro h; change b1 = mb at h; omega))) rfl ?_
       refine dkQ 1 [9] [(0, ptr b), (2, i64 x), (5, ptr b1), (8, i64 0), (72, .map (some mb)), (74, .string (str o.to)), (78, (i64 (IntKind.i64.wrap (y33 + o.amount))))] ?_
       have e45 : IntKind.i64.wrap (y33 + o.amount) = y33 + o.amount := wrap_i64 (by omega) (by omega)
       rw [e45]
       obtain ⟨w46, hr47, K48, H49⟩ := HasMap.update KT Tryd.underlying107 Hm o.to (y33 + o.amount)
       refine Dr.goU (i := 10) (by kernel_rfl) (by kernel_rfl) (RunsU.of_update (by kernel_rfl) hr47) (d := none) (by kernel_rfl) rfl K48 ?_
       clear Hm
       replace K0 := K0.t1 K48 (fun _ => rfl)
       replace Hb := Hb.k1 K48 (by omega)
       replace H4 := H4.k1 K48 (by omega)
       refine Dr.strong (S' := (fun wz => Keeps (fun i => i = mb) w46 wz)) ((Keeps.refl w46).mono (fun _ _ h => h.elim)) (fun wz hx => K48.trans hx (fun i _ h => by have h : i = mb := h; show i = mb; omega) (fun _ _ h => h)) ?_
       clear K48 hr47
       refine Dr.done (by kernel_rfl) ?_
       refine qs ?_
       refine q_draw (fun wz => Keeps (fun i => i = mb) w46 wz) 11 (by kernel_rfl) (by kernel_rfl) (by kernel_rfl) (fun w50 K51 _ _ => ⟨(K51.mono (fun _ _ h => h.elim)), ?_⟩)
       replace K0 := K0.tn K51
       replace Hb := Hb.kn K51
       replace H49 := H49.kn K51
       replace H4 := H4.kn K51
       refine Dr.strong (S' := (fun wz => Keeps (fun i => i = mb) w50 wz)) ((Keeps.refl w50).mono (fun _ _ h => h.elim)) (fun wz hx => K51.trans hx (fun i _ h => h.elim) (fun _ _ h => h)) ?_
       refine dkQ 8 [0, 1, 2] [(2, i64 x), (5, ptr b1), (8, i64 0), (81, ptr b)] ?_
       refine dtQ 3 (Value.map (some mb)) 82 (fun wz hS => rld 107 b 0 (Hb.keep hS (by intro h; change b = mb at h; omega))) rfl ?_
       refine dkQ 6 [4] [(2, i64 x), (5, ptr b1), (8, i64 0), (82, .map (some mb)), (83, .pointer (some ⟨b1, 1, none⟩))] ?_
       refine dtQ 5 (Value.string (str o.frm)) 84 (fun wz hS => rld 9 b1 1 (H4.keep hS (by intro h; change b1 = mb at h; omega))) rfl ?_
       refine dkQ 3 [6, 7] [(8, i64 0), (82, .map (some mb)), (84, .string (str o.frm)), (85, i64 x), (86, .pointer (some ⟨b1, 3, none⟩))] ?_
       refine dtQ 8 (i64 o.amount) 87 (fun wz hS => rld 2 b1 3 (H4.keep hS (by intro h; change b1 = mb at h; omega))) rfl ?_
       refine dkQ 1 [9] [(8, i64 0), (82, .map (some mb)), (84, .string (str o.frm)), (88, (i64 (IntKind.i64.wrap (x - o.amount))))] ?_
       have e52 : IntKind.i64.wrap (x - o.amount) = x - o.amount := wrap_i64 (by omega) (by omega)
       rw [e52]
       obtain ⟨w53, hr54, K55, H56⟩ := HasMap.update KT Tryd.underlying107 H49 o.frm (x - o.amount)
       refine Dr.goU (i := 10) (by kernel_rfl) (by kernel_rfl) (RunsU.of_update (by kernel_rfl) hr54) (d := none) (by kernel_rfl) rfl K55 ?_
       replace K0 := K0.t1 K55 (fun _ => rfl)
       refine Dr.strong (S' := (fun wz => Keeps (fun i => i = mb) w53 wz)) ((Keeps.refl w53).mono (fun _ _ h => h.elim)) (fun wz hx => K55.trans hx (fun i _ h => by have h : i = mb := h; show i = mb; omega) (fun _ _ h => h)) ?_
       clear K55 hr54
       refine Dr.done (by kernel_rfl) ?_
       refine qsg ?_
       refine ogd 1 [(8, i64 0)] ?_
       refine qtQ ?_
       refine ⟨(i64 0), retv_tmp rfl rfl, ?_⟩
       have e1 : actE S o = 0 := by unfold actE; simp only [hgS, hw35]; (repeat' split) <;> first | rfl | (exfalso; omega) | (exfalso; simp_all; done)
       have e2 := (hL.set hg32 (x := (y33 + o.amount)) (by omega)).set (x := (x - o.amount)) ((getM_put_ne (hft (by omega))).trans hg) (by omega)
       refine ⟨putM (putM m o.to (y33 + o.amount)) o.frm (x - o.amount), by rw [e1], K0, H56, ?_⟩
       unfold actS; simp only [hgS, hw35]; (repeat' split) <;> first | (exfalso; omega) | (exfalso; simp_all; done) | exact e2
    ·rw [h28]
     have p57 := of_beq_f h28
     refine qkQ ?_
     refine qs ?_
     refine q_draw (fun wz => Keeps (fun i => i = mb) w2 wz) 11 (by kernel_rfl) (by kernel_rfl) (by kernel_rfl) (fun w58 K59 _ _ => ⟨(K59.mono (fun _ _ h => h.elim)), ?_⟩)
     replace K0 := K0.tn K59
     replace Hb := Hb.kn K59
     replace Hm := Hm.kn K59
     replace H4 := H4.kn K59
     refine Dr.strong (S' := (fun wz => Keeps (fun i => i = mb) w58 wz)) ((Keeps.refl w58).mono (fun _ _ h => h.elim)) (fun wz hx => K59.trans hx (fun i _ h => h.elim) (fun _ _ h => h)) ?_
     refine dkQ 8 [0, 1, 2] [(2, i64 x), (5, ptr b1), (8, i64 0), (81, ptr b)] ?_
     refine dtQ 3 (Value.map (some mb)) 82 (fun wz hS => rld 107 b 0 (Hb.keep hS (by intro h; change b = mb at h; omega))) rfl ?_
     refine dkQ 6 [4] [(2, i64 x), (5, ptr b1), (8, i64 0), (82, .map (some mb)), (83, .pointer (some ⟨b1, 1, none⟩))] ?_
     refine dtQ 5 (Value.string (str o.frm)) 84 (fun wz hS => rld 9 b1 1 (H4.keep hS (by intro h; change b1 = mb at h; omega))) rfl ?_
     refine dkQ 3 [6, 7] [(8, i64 0), (82, .map (some mb)), (84, .string (str o.frm)), (85, i64 x), (86, .pointer (some ⟨b1, 3, none⟩))] ?_
     refine dtQ 8 (i64 o.amount) 87 (fun wz hS => rld 2 b1 3 (H4.keep hS (by intro h; change b1 = mb at h; omega))) rfl ?_
     refine dkQ 1 [9] [(8, i64 0), (82, .map (some mb)), (84, .string (str o.frm)), (88, (i64 (IntKind.i64.wrap (x - o.amount))))] ?_
     have e60 : IntKind.i64.wrap (x - o.amount) = x - o.amount := wrap_i64 (by omega) (by omega)
     rw [e60]
     obtain ⟨w61, hr62, K63, H64⟩ := HasMap.update KT Tryd.underlying107 Hm o.frm (x - o.amount)
     refine Dr.goU (i := 10) (by kernel_rfl) (by kernel_rfl) (RunsU.of_update (by kernel_rfl) hr62) (d := none) (by kernel_rfl) rfl K63 ?_
     clear Hm
     replace K0 := K0.t1 K63 (fun _ => rfl)
     refine Dr.strong (S' := (fun wz => Keeps (fun i => i = mb) w61 wz)) ((Keeps.refl w61).mono (fun _ _ h => h.elim)) (fun wz hx => K63.trans hx (fun i _ h => by have h : i = mb := h; show i = mb; omega) (fun _ _ h => h)) ?_
     clear K63 hr62
     refine Dr.done (by kernel_rfl) ?_
     refine qsg ?_
     refine ogd 1 [(8, i64 0)] ?_
     refine qtQ ?_
     refine ⟨(i64 0), retv_tmp rfl rfl, ?_⟩
     have e1 : actE S o = 0 := by unfold actE; simp only [hgS]; (repeat' split) <;> first | rfl | (exfalso; omega) | (exfalso; simp_all; done)
     have e2 := hL.set hg (x := (x - o.amount)) (by omega)
     refine ⟨putM m o.frm (x - o.amount), by rw [e1], K0, H64, ?_⟩
     unfold actS; simp only [hgS]; (repeat' split) <;> first | (exfalso; omega) | (exfalso; simp_all; done) | exact e2
end Go.Proofs.YtnbcghbgeiocbaaDoor
namespace Go.Q
open Go.RowKit
theorem sorted_namesW {S : List RowM} {ss : List (List UInt8)} (h : S.Pairwise (fun a b => ltN a.name b.name)) (hp : ss.Perm (S.map (·.name))) : ss.mergeSort (fun x y => decide (x ≤ y)) = S.map (·.name) := by
 rw [mergeSort_of_perm hp]
 refine List.mergeSort_of_pairwise ?_
 refine List.pairwise_map.2 (h.imp fun {a b} hlt => ?_)
 simp only [decide_eq_true_eq]
 exact List.le_of_lt hlt
theorem LMap.names_ok {m : List (List UInt8 × Int)} {S : List RowM} (h : LMap m S) : ∀ x ∈ m, x.1.length ≤ 24 := by
 intro x hx
 obtain ⟨a, ha, rfl⟩ := List.mem_map.1 (h.perm.mem_iff.2 hx)
 exact (nameOk_len (h.led.ok a ha).name).2
theorem nameW_at {S : List RowM} {i : Nat} {a : RowM} (h : S[i]? = some a) : (S.map (·.name))[i]? = some a.name := by rw [List.getElem?_map, h]; rfl
theorem Led.get_of {S : List RowM} (h : Led S) {a : RowM} (ha : a ∈ S) : getW S a.name = some a := by
 unfold getW
 have hs := h.sorted
 clear h
 induction S with
 | nil => cases ha
 | cons b S ih =>
  rw [List.pairwise_cons] at hs
  rcases List.mem_cons.1 ha with rfl | ha
  ·simp
  ·rw [List.find?_cons_of_neg, ih ha hs.2]
   have := hs.1 a ha
   intro e
   have e : b.name = a.name := by simpa using e
   rw [e] at this
   exact ltN_irrefl _ this
theorem LMap.at_ {m : List (List UInt8 × Int)} {S : List RowM} (h : LMap m S) {i : Nat} {a : RowM} (ha : S[i]? = some a) : getM m a.name = some a.amount := by
 rw [h.get, h.led.get_of (List.mem_of_getElem? ha)]; rfl
theorem takeR {S : List RowM} {i : Nat} {a : RowM} (h : S[i]? = some a) : S.take (i + 1) = S.take i ++ [a] := by rw [List.take_add_one, h]; rfl
end Go.Q
