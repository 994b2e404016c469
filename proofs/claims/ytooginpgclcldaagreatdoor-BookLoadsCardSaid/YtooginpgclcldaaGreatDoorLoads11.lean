/- What the claim stands on, part 11: rules of the walk, contracts of the functions, plain laws. -/
import Derived.Test.YtooginpgclcldaaGreatDoorLoads10
import Derived.RangeFuncNested
import Derived.Test.YtooginpgclcldaaGreatDoorLoads2
import Derived.Test.YtooginpgclcldaaGreatDoorLoads3
import Derived.Test.YtooginpgclcldaaGreatDoorProg
import Derived.Test.YtooginpgclcldaaGreatDoorLoads8
import Derived.Test.YtooginpgclcldaaGreatDoorLoads9
import Derived.Test.YtooginpgclcldaaGreatDoorLoads7
import Derived.Test.YtooginpgclcldaaGreatDoorLoads4
set_option linter.unusedVariables false
namespace Go.Q
open Go.RowKit

def isRange : Code → Option (Operand × Array Tmp)
  | .rangeFunc g ps _ _ => some (g, ps)
  | _ => none
end Go.Q
namespace Go.Q
open Go.RowKit

def OpsR (F : Fence) (P : Program) (m n : Nat) (os : Array Oper) (i : Nat) (K : List Deferred → Exit → Loc → World → Prop) (ds : List Deferred) (L : Loc) (w : World) : Prop :=
  ∀ a, Rep n a L → wpOpsIn F m P os (fun e a' w' => ∃ ds2 a2 L', a' = wd ds2 a2 ∧ Rep n a2 L' ∧ K ds2 e L' w') (List.range' i (os.size - i)) (wd ds a) w
section
variable {F : Fence} {P : Program} {m n : Nat} {os : Array Oper} {K : List Deferred → Exit → Loc → World → Prop} {ds : List Deferred} {L : Loc} {w : World} {i : Nat}
theorem OpsR.keep {R : Loc} (hs : restrict L (R.map Prod.fst) = some R) (h : OpsR F P m n os i K ds R w) : OpsR F P m n os i K ds L w :=
  fun a ha => h a (ha.sub (restrict_sub hs))
theorem OpsR.done (hi : Nat.beq os.size i = true) (h : K ds .normal L w) : OpsR F P m n os i K ds L w := by
  intro a ha
  have : os.size - i = 0 := by have := Nat.eq_of_beq_eq_true hi; omega
  rw [this]
  exact ⟨ds, a, L, rfl, ha, h⟩
theorem OpsR.cons {o : Oper} (ho : os[i]? = some o) (h : ∀ a, Rep n a L → wpOpIn F m P os (fun e a' w' => ∃ ds2 a2 L', a' = wd ds2 a2 ∧ Rep n a2 L' ∧ K ds2 e L' w') i
    (fun a' w' => ∃ a2 L', a' = wd ds a2 ∧ Rep n a2 L' ∧ OpsR F P m n os (i + 1) K ds L' w') (wd ds a) w) : OpsR F P m n os i K ds L w := by
  intro a ha
  rw [range'_head ho, wpOpsIn_cons]
  exact wpOpIn_mono (fun a' w' ⟨a2, L', e, r, q⟩ => by subst e; exact q a2 r) (h a ha)
theorem OpsR.unwanted (hF : Open F) {o : Oper} {L' : Loc} (ho : os[i]? = some o) (hw : wants os L o = some false) (hs : setL n o.dst undef L = some L') (h : OpsR F P m n os (i + 1) K ds L' w) :
    OpsR F P m n os i K ds L w := by
  refine OpsR.cons ho fun a ha => ?_
  unfold wpOpIn
  have hww := wants_wanted ha hw
  simp only [ho]
  rw [if_neg (show ¬ Region.wanted o (yielded os (wd ds a).tmps) = true from by rw [show (wd ds a).tmps = a.tmps from rfl, hww]; simp)]
  exact ⟨fun f _ => hF.fn f, a.put o.dst undef, L', wd_put _ _ _ _, ha.setL hs, h⟩
theorem OpsR.regs_go (hF : Open F) (hd : noDefer os = true) : ∀ (k i : Nat) (L L1 : Loc), Q.regs P n os k i L = some L1 → OpsR F P m n os (i + k) K ds L1 w → OpsR F P m n os i K ds L w
  | 0, i, L, L1, h, hn => by simp only [Q.regs, Option.some.injEq] at h; subst h; exact hn
  | k + 1, i, L, L1, h, hn => by
    simp only [Q.regs] at h
    cases ho : os[i]? with
    | none => rw [ho] at h; cases h
    | some o =>
      rw [ho] at h
      simp only at h
      have hn' : OpsR F P m n os (i + 1 + k) K ds L1 w := by rw [show i + 1 + k = i + (k + 1) from by omega]; exact hn
      cases hw : wants os L o with
      | none => rw [hw] at h; cases h
      | some b =>
        rw [hw] at h
        cases b with
        | false =>
          simp only at h
          cases hs : setL n o.dst undef L with
          | none => rw [hs] at h; cases h
          | some L' => rw [hs] at h; exact OpsR.unwanted hF ho hw hs (OpsR.regs_go hF hd k (i + 1) L' L1 h hn')
        | true =>
          simp only at h
          cases hx : next? P L o with
          | none => rw [hx] at h; cases h
          | some x =>
            rw [hx] at h
            cases x with
            | value v =>
              simp only at h
              cases hs : setL n o.dst v L with
              | none => rw [hs] at h; cases h
              | some L' =>
                rw [hs] at h
                refine OpsR.cons ho fun a ha => ?_
                unfold wpOpIn
                have hww := wants_wanted ha hw
                simp only [ho]
                rw [if_pos (show Region.wanted o (yielded os (wd ds a).tmps) = true from by rw [show (wd ds a).tmps = a.tmps from rfl, hww])]
                have hsem : o.semAt F.round (wd ds a).eval = execOp a.eval o := by
                  cases hr : F.round with
                  | none => rw [Oper.semAt_none]; rfl
                  | some l => exact Oper.semAt_some l _ _ (noDefer_op hd i o ho)
                refine ⟨fun f _ => hF.fn f, ?_⟩
                rw [hsem, next?_run ha hx]
                exact ⟨a.put o.dst v, L', wd_put _ _ _ _, ha.setL hs, OpsR.regs_go hF hd k (i + 1) L' L1 h hn'⟩
            | _ => cases h
/-- k operations at once; only what 'R' names is kept. -/
theorem OpsR.regs (hF : Open F) (hd : noDefer os = true) {j : Nat} (k : Nat) (R : Loc) (hj : Nat.beq (i + k) j = true) (h : (match Q.regs P n os k i L with | some L1 => restrict L1 (R.map Prod.fst) | none => none) = some R)
    (hn : OpsR F P m n os j K ds R w) : OpsR F P m n os i K ds L w := by
  cases h1 : Q.regs P n os k i L with
  | none => rw [h1] at h; cases h
  | some L1 =>
    rw [h1] at h
    have := Nat.eq_of_beq_eq_true hj
    subst this
    exact OpsR.regs_go hF hd k i L L1 h1 (OpsR.keep h hn)
/-- An operation whose run is known. -/
theorem OpsR.run (hF : Open F) (hd : noDefer os = true) {o : Oper} {x : Next} {w' : World} (ho : at? os L i = some o) (hr : (execOp (ev L) o).run P w = .ok x w')
    (h : ∀ a, Rep n a L → o.uponIn F m P (wd ds a) (fun a' w' => ∃ a2 L', a' = wd ds a2 ∧ Rep n a2 L' ∧ OpsR F P m n os (i + 1) K ds L' w') (fun e a' w' => ∃ ds2 a2 L', a' = wd ds2 a2 ∧ Rep n a2 L' ∧ K ds2 e L' w') (.ok x w')) : OpsR F P m n os i K ds L w := by
  obtain ⟨h0, hw, hp, hk⟩ := at?_spec ho
  refine OpsR.cons h0 fun a ha => ?_
  unfold wpOpIn
  have hww := wants_wanted ha hw
  simp only [h0]
  rw [if_pos (show Region.wanted o (yielded os (wd ds a).tmps) = true from by rw [show (wd ds a).tmps = a.tmps from rfl, hww])]
  have hsem : o.semAt F.round (wd ds a).eval = execOp a.eval o := by
    cases hr : F.round with
    | none => rw [Oper.semAt_none]; rfl
    | some l => exact Oper.semAt_some l _ _ (noDefer_op hd i o h0)
  refine ⟨fun f _ => hF.fn f, ?_⟩
  rw [hsem, exec_known ha hp hk, hr]
  exact h a ha
/-- A call of yield: what the round says. -/
theorem OpsR.yield (hF : Open F) (hd : noDefer os = true) {o : Oper} {l : Nat} {args : Array Value} {R : Ending → World → Prop} (ho : at? os L i = some o) (hx : (execOp (ev L) o).run P w = (Instr.yield l args).run P w) (hY : YieldAt F (m - 1) P l args w R)
    (h : ∀ e w', R e w' → ∃ v L', e = .returned v ∧ setL n o.dst v L = some L' ∧ OpsR F P m n os (i + 1) K ds L' w') : OpsR F P m n os i K ds L w := by
  obtain ⟨fn, tmps, assign, body, hy, hR⟩ := hY
  refine OpsR.run hF hd ho (hx.trans hy) fun a ha => ?_
  refine ⟨fun q => (by rw [hF.depth] at q; cases q), hR.mono fun e w' he => ?_⟩
  obtain ⟨v, L', rfl, hs, hn⟩ := h e w' he
  exact ⟨a.put o.dst v, L', wd_put _ _ _ _, ha.setL hs, hn⟩
end
section
variable {F : Fence} {P : Program} {m n : Nat} {Q : List Deferred → Exit → Loc → World → Prop} {L : Loc} {w : World} {f : Func} {p : List Nat} {ds : List Deferred}
/-- A region, its operations one by one inside the fence. -/
theorem qr_opsR (hc : isRegion (cd f p) = true) (h : OpsR F P m n (opsOf (cd f p)) 0 Q ds L w) : wpR F P m n (cd f p) Q ds L w := by
  intro a ha
  cases e : cd f p with
  | region id os dr =>
    rw [e] at hc h
    cases dr with
    | true => cases hc
    | false =>
      have h1 := h a ha
      simp only [opsOf] at h1
      refine wpIn_region ?_
      rw [List.range_eq_range']
      exact h1
  | _ => rw [e] at hc; cases hc
end
end Go.Q
namespace Go.Q
open Go.RowKit

/-- From W on nothing has changed but blocks from B on that hold no cells. -/
def Loose (B : Nat) (W W' : World) : Prop := Keeps (fun i => B ≤ i ∧ ∃ o, W.heap[i]? = some o ∧ o.isCells = false) W W'
theorem Loose.none {B : Nat} {W W' : World} (k : Keeps none_ W W') : Loose B W W' := k.mono fun _ _ h => h.elim
theorem Loose.put {B : Nat} {W : World} {l : Nat} {o : Obj} (o' : Obj) (hB : B ≤ l) (h : W.heap[l]? = some o) (ho : o.isCells = false) : Loose B W (W.putObj l o') :=
  ⟨rfl, rfl, rfl, by simp, fun i _ hn => World.putObj_heap_other (fun e => hn (by subst e; exact ⟨hB, o, h, ho⟩))⟩
theorem Loose.has {B : Nat} {W W' : World} (k : Loose B W W') {b : Nat} {xs : List Value} {E : TypeId} (h : Has W b (rowL xs E)) : Has W' b (rowL xs E) :=
  h.keep k fun ⟨_, o, ho, hc⟩ => by rw [show W.heap[b]? = some (rowL xs E) from h] at ho; cases ho; cases hc
theorem Loose.keeps {B : Nat} {W W' : World} (k : Loose B W W') : Keeps (fun i => B ≤ i) W W' := k.mono fun _ _ h => h.1
theorem Loose.own {B base e sz n : Nat} {v : Value} {xs : List Value} {W W' : World} (k : Loose B W W') (h : W.ownsRow base e sz v n xs) : W'.ownsRow base e sz v n xs := own_keep h k fun b hb ⟨_, o, ho, hc⟩ => by
  obtain ⟨_, h2⟩ := h
  rcases h2 with h2 | ⟨g, cap, cur, hv, hg, hh, _⟩
  · obtain ⟨rfl, _⟩ := h2; cases hb
  · subst hv
    obtain rfl : g = b := by simpa [Value.ownBlock] using hb
    rw [hh] at ho; cases ho; cases hc
theorem keepsFrom_of {B : Nat} {U : Nat → Prop} {W W' : World} (k : Keeps U W W') (h : ∀ i, U i → B ≤ i → ∃ o, W.heap[i]? = some o ∧ o.isCells = true) : KeepsFrom B W W' :=
  ⟨k.size, fun i o hB hi ho => (k.blk i (Array.getElem?_eq_some_iff.1 hi).1 fun hu => by obtain ⟨o2, h2, h3⟩ := h i hu hB; rw [hi] at h2; cases h2; rw [ho] at h3; cases h3).trans hi⟩

/-- A call of a function that has a body enters it. -/
theorem enters {P : Program} {f : FuncId} {fn : Func} (hf : P.funcs[f]? = some fn) (hn : (fn.name == "runtime.NumGoroutine") = false) (hb : fn.body.isSome = true) (args : Array Value) (w : World) : (callFunc f args).run P w = .ok (.enter f args) w := by
  have h1 : fn.name ≠ "runtime.NumGoroutine" := by simpa using hn
  cases hc : fn.body with
  | none => rw [hc] at hb; cases hb
  | some c => simp [callFunc, hf, h1, hc, mark]
/-- The function gf with what it has captured, made ahead of w0, tells N elements one by one, of the k-th of which 'A k' is known; what it reads lies outside T. -/
def Tells (P : Program) (m : Nat) (gf : Nat) (lb : List Value) (A : Nat → Value → World → Prop) (T : Nat → Prop) (N : Nat) (w0 : World) : Prop :=
  ∀ (l : Nat) (J : Nat → World → Prop) (W : World), Keeps T w0 W → (∀ k W W', J k W → Keeps none_ W W' → J k W') →
    (∀ k v W1, J k W1 → k < N → A k v W1 → YieldAt Fence.wide m P l #[v] W1 fun e W' => e = .returned (.bool true) ∧ J (k + 1) W' ∧ Keeps T W1 W') →
    J 0 W → Calls P gf ⟨.func (.yield l) #[] #[] :: lb⟩ W fun e W' => (∃ v, e = .returned v) ∧ J N W'

/-- A function's end, nothing put off. -/
theorem retR_norm {P : Program} {m : Nat} {L : Loc} {w : World} {fn : Func} {R : Ending → World → Prop} {v : Value} (hv : retv P fn w v L) (hR : R (.returned v) w) : retR P fn m R [] .normal L w :=
  fun a ha => ⟨v, hv a.tmps ha.val, hR⟩
end Go.Q
namespace Go.Q
open Go.RowKit

/-- The loop variables are given their values. -/
def setLs (n : Nat) : List Tmp → List Value → Loc → Option Loc
  | [], [], L => some L
  | t :: ts, v :: vs, L => match setL n (some t) v L with
    | some L' => setLs n ts vs L'
    | none => none
  | _, _, _ => none
theorem setLs_rep {n : Nat} : ∀ {ts : List Tmp} {vs : List Value} {a : Act} {L L' : Loc}, Rep n a L → setLs n ts vs L = some L' → Rep n { tmps := (ts.zip vs).foldl (fun t x => t.setIfInBounds x.1 x.2) a.tmps, defers := a.defers } L'
  | [], [], a, L, L', h, hs => by simp only [setLs, Option.some.injEq] at hs; subst hs; simpa using h
  | [], _ :: _, _, _, _, _, hs => by simp [setLs] at hs
  | _ :: _, [], _, _, _, _, hs => by simp [setLs] at hs
  | t :: ts, v :: vs, a, L, L', h, hs => by
    simp only [setLs] at hs
    cases h1 : setL n (some t) v L with
    | none => rw [h1] at hs; cases hs
    | some L1 =>
      rw [h1] at hs
      exact setLs_rep (a := a.put (some t) v) (h.setL h1) hs
theorem setLs_len {n : Nat} : ∀ {ts : List Tmp} {vs : List Value} {L L' : Loc}, setLs n ts vs L = some L' → vs.length = ts.length
  | [], [], _, _, _ => rfl
  | [], _ :: _, _, _, hs => by simp [setLs] at hs
  | _ :: _, [], _, _, hs => by simp [setLs] at hs
  | t :: ts, v :: vs, L, L', hs => by
    simp only [setLs] at hs
    cases h1 : setL n (some t) v L with
    | none => rw [h1] at hs; cases hs
    | some L1 => rw [h1] at hs; simp [setLs_len hs]
/-- As 'Tells', of elements of several values. -/
def TellsN (P : Program) (m : Nat) (gf : Nat) (lb : List Value) (A : Nat → List Value → World → Prop) (T : Nat → Prop) (N : Nat) (w0 : World) : Prop :=
  ∀ (l : Nat) (J : Nat → World → Prop) (W : World), Keeps T w0 W → (∀ k W W', J k W → Keeps none_ W W' → J k W') →
    (∀ k vs W1, J k W1 → k < N → A k vs W1 → YieldAt Fence.wide m P l ⟨vs⟩ W1 fun e W' => e = .returned (.bool true) ∧ J (k + 1) W' ∧ Keeps T W1 W') →
    J 0 W → Calls P gf ⟨.func (.yield l) #[] #[] :: lb⟩ W fun e W' => (∃ v, e = .returned v) ∧ J N W'
end Go.Q
namespace Go.Q
open Go.RowKit

/-- As 'TellsN', of elements of which it is known alone which lists of them can come. -/
def TellsM {β : Type} (P : Program) (m : Nat) (gf : Nat) (lb : List Value) (enc : β → List Value) (T : Nat → Prop) (S : List β → Prop) (w0 : World) : Prop :=
  ∀ (l : Nat) (J : List β → World → Prop) (W : World), Keeps T w0 W → (∀ k W1 W2, J k W1 → Loose W.heap.size W1 W2 → J k W2) →
    (∀ pre x W1, J pre W1 → (∃ post, S (pre ++ x :: post)) → YieldAt Fence.wide m P l ⟨enc x⟩ W1 fun e W' => e = .returned (.bool true) ∧ J (pre ++ [x]) W' ∧ Keeps T W1 W' ∧ KeepsFrom W.heap.size W1 W') →
    J [] W → Calls P gf ⟨.func (.yield l) #[] #[] :: lb⟩ W fun e W' => (∃ v, e = .returned v) ∧ ∃ all, S all ∧ J all W'
theorem Loose.le {B B' : Nat} {W W' : World} (k : Loose B' W W') (h : B ≤ B') : Loose B W W' := k.mono fun _ _ hs => ⟨Nat.le_trans h hs.1, hs.2⟩
theorem KeepsFrom.le {B B' : Nat} {W W' : World} (k : KeepsFrom B W W') (h : B ≤ B') : KeepsFrom B' W W' := ⟨k.size, fun i o hB hi ho => k.same i o (Nat.le_trans h hB) hi ho⟩
theorem keepsFrom_put {B l : Nat} {W : World} {o o' : Obj} (h : W.heap[l]? = some o) (hB : l < B) : KeepsFrom B W (W.putObj l o') :=
  ⟨by simp, fun i x hi hx _ => (World.putObj_heap_other (by omega)).trans hx⟩
section
variable {κ α : Type} {w w' : World} {r mb : Nat} {kf : κ → Value} {vf : α → Value} {m rest : List (κ × α)} {last : Option (κ × α)}
theorem IterM.iter (h : IterM w r mb kf vf m rest last) : ∃ o, w.heap[r]? = some o ∧ o.isCells = false := by
  obtain ⟨es, clock, since, seen, c0, hr, _⟩ := h
  exact ⟨_, hr, rfl⟩
theorem IterM.loose {B : Nat} (h : IterM w r mb kf vf m rest last) (hB : B ≤ r) (k : Keeps (fun i => i = r) w w') : Loose B w w' := k.mono fun i _ hi => by
  subst hi
  exact ⟨hB, h.iter⟩
theorem IterM.keepF {B : Nat} {T : Nat → Prop} (h : IterM w r mb kf vf m rest last) (k : Keeps T w w') (kF : KeepsFrom B w w') (hB : B ≤ r) (hT : ¬ T mb) : IterM w' r mb kf vf m rest last := by
  obtain ⟨o, ho, hc⟩ := h.iter
  have e := kF.same r o hB ho hc
  exact h.keep (S := fun i => T i ∧ i ≠ r) ⟨k.os, k.tape, k.output, k.size, fun i hi hn => by
    by_cases hir : i = r
    · subst hir; exact e.trans ho.symm
    · exact k.blk i hi fun ht => hn ⟨ht, hir⟩⟩ (fun h => h.2 rfl) (fun h => hT h.1)
theorem OpsR.go {F : Fence} {P : Program} {m n : Nat} {os : Array Oper} {K : List Deferred → Exit → Loc → World → Prop} {L L' : Loc} {w : World} {i : Nat} {d : Option Tmp} {ds : List Deferred} (hF : Open F) (hd : noDefer os = true) {v : Value} {w' : World} (h0 : okAt os L i = true) (hr : Runs P L (opn os i) w v w') (hdd : dst? os i = some d) (hs : setL n d v L = some L')
    (hn : OpsR F P m n os (i + 1) K ds L' w') : OpsR F P m n os i K ds L w := by
  have h1 := at?_opn h0
  have hd' : (opn os i).dst = d := by have := (at?_spec h1).1; simpa [dst?, this] using hdd
  refine OpsR.run hF hd h1 hr fun a ha => ?_
  show ∃ a2 L', (wd ds a).put (opn os i).dst v = wd ds a2 ∧ _
  rw [hd']
  exact ⟨a.put d v, L', wd_put _ _ _ _, ha.setL hs, hn⟩
theorem came_perm {β : Type} {s p q m : List β} {x : β} (h : (s ++ (p ++ x :: q)).Perm m) : ((s ++ [x]) ++ (p ++ q)).Perm m := by
  refine List.Perm.trans ?_ h
  rw [List.append_assoc]
  exact List.Perm.append_left _ (List.perm_middle (l₁ := p) (l₂ := q) (a := x)).symm
theorem came_next {β : Type} {s p q m : List β} {x : β} (h : (s ++ (p ++ x :: q)).Perm m) : (s ++ x :: (p ++ q)).Perm m := (List.Perm.append_left _ List.perm_middle.symm).trans h
end
/-- A loop over a function that is never left ahead of its end. -/
theorem qr_eachM {β : Type} {P : Program} {m n : Nat} {Q : List Deferred → Exit → Loc → World → Prop} {L : Loc} {w : World} {f : Func} {p : List Nat} {ds : List Deferred} {g : Operand} {ts : List Tmp}
    (hc : isRange (cd f p) = some (g, ⟨ts⟩)) (h1 : 1 ≤ m) {gf : Nat} {lb : List Value} (hg : evo L g = some (.func (.func gf) #[] ⟨lb⟩)) (eg : ∀ args w, (callFunc gf args).run P w = .ok (.enter gf args) w)
    {enc : β → List Value} {T : Nat → Prop} {S : List β → Prop} {w0 : World} (hseq : TellsM P (m - 1 - 1) gf lb enc T S w0) (hT : ∀ i, w.heap.size ≤ i → T i) (hw0 : Keeps T w0 w)
    (I : List β → World → Prop) (hI : ∀ k W W', I k W → Loose w.heap.size W W' → I k W') (h0 : I [] w) (La : β → Loc) (hLa : ∀ x, setLs n ts (enc x) L = some (La x))
    (Ax : β → Loc → World → Prop) (hAx : ∀ x L W W', Ax x L W → Loose w.heap.size W W' → Ax x L W')
    (hassign : ∀ (l : Nat) (pre : List β) (x : β) (W : World), w.heap.size + 1 < W.heap.size → I pre W → (∃ post, S (pre ++ x :: post)) → wpR (Fence.wide.inRound l) P (m - 1 - 1) n (cd f (0 :: p)) (fun ds e L' W' => e = .normal ∧ ds = [] ∧ Keeps none_ W W' ∧ Ax x L' W') [] (La x) W)
    (hbody : ∀ (l : Nat) (pre : List β) (x : β) (L1 : Loc) (W : World), I pre W → (∃ post, S (pre ++ x :: post)) → Ax x L1 W → wpR (Fence.wide.inRound l) P (m - 1 - 1) n (cd f (1 :: p)) (fun _ e _ W' => e = .normal ∧ KeepsFrom w.heap.size W W' ∧ Keeps T W W' ∧ I (pre ++ [x]) W') [] L1 W)
    (hdone : ∀ (D : Nat) (all : List β) (W : World), w.heap.size ≤ D → S all → I all W → W.heap[D]? = some (.deferred (some [])) → Q ({ target := .collected D, args := #[] } :: ds) .normal L W) :
    wpR Fence.wide P m n (cd f p) Q ds L w := by
  intro a ha
  simp only [cd] at hassign hbody
  cases e : cd f p with
  | rangeFunc g' ps assign body =>
    rw [e] at hc hassign hbody
    simp only [isRange, Option.some.injEq, Prod.mk.injEq] at hc
    obtain ⟨rfl, rfl⟩ := hc
    simp only [sub] at hassign hbody
    refine wpIn_rangeFunc fun fn hfn => ?_
    obtain ⟨rec, hrec⟩ : ∃ rec : LoopState → Loop, rec = fun st => { state := st, pending := none, fn, tmps := (wd ds a).tmps, params := ⟨ts⟩, assign, body, defers := w.heap.size } := ⟨_, rfl⟩
    have hev : (wd ds a).eval g' = .func (.func gf) #[] ⟨lb⟩ := ha.ev hg
    obtain ⟨W1, hW1⟩ : ∃ W1, (w.alloc (.deferred (some []))).alloc (.loop (rec .ready)) = W1 := ⟨_, rfl⟩
    have hK1 : Keeps none_ w W1 := by rw [← hW1]; exact (Keeps.alloc w _).trans (Keeps.alloc _ _) (fun _ _ h => h) (fun _ _ h => h)
    have hl1 : W1.heap[w.heap.size + 1]? = some (.loop (rec .ready)) := by
      rw [← hW1]; have := World.alloc_heap_new (w.alloc (.deferred (some []))) (.loop (rec .ready)); rwa [World.size_alloc] at this
    have hd1 : W1.heap[w.heap.size]? = some (.deferred (some [])) := by
      rw [← hW1]; exact ((Keeps.alloc (w.alloc (.deferred (some []))) (.loop (rec .ready))).blk _ (by simp) (fun h => h)).trans (World.alloc_heap_new w _)
    refine ⟨w.heap.size + 1, [{ target := .collected w.heap.size, args := #[] }], W1, { target := .fn (.func gf) ⟨lb⟩, args := #[.func (.yield (w.heap.size + 1)) #[] #[]] }, W1, gf,
      #[.func (.yield (w.heap.size + 1)) #[] #[]] ++ ⟨lb⟩, W1, ?_, ?_, fun f' hf' => True.intro, ?_, fun _ => h1, ?_⟩
    · rw [← hW1, hrec]; exact run_enterLoop_outer _ _ _ _ _
    · simp only [resolve, hev]
      simp [go_sem]
    · simp [invoke, go_sem, eg]
    · refine callsIn_wide.2 ?_
      have harr : (#[.func (.yield (w.heap.size + 1)) #[] #[]] ++ ⟨lb⟩ : Array Value) = ⟨.func (.yield (w.heap.size + 1)) #[] #[] :: lb⟩ := by simp
      rw [harr]
      have hs1 : W1.heap.size = w.heap.size + 2 := by rw [← hW1]; simp
      refine (hseq (w.heap.size + 1) (fun k W => I k W ∧ W.heap[w.heap.size + 1]? = some (.loop (rec .ready)) ∧ W.heap[w.heap.size]? = some (.deferred (some []))) _
        (hw0.trans hK1 (fun _ _ h => h) (fun _ _ h => h.elim)) ?_ ?_ ⟨hI _ _ _ h0 (.none hK1), hl1, hd1⟩).mono ?_
      · rintro k W W' ⟨hi, hl, hd⟩ hk
        exact ⟨hI _ _ _ hi (hk.le (by omega)), (hk.blk _ (Array.getElem?_eq_some_iff.1 hl).1 (fun h => by have := h.1; omega)).trans hl, (hk.blk _ (Array.getElem?_eq_some_iff.1 hd).1 (fun h => by have := h.1; omega)).trans hd⟩
      · rintro pre x W ⟨hi, hl, hd⟩ hpost
        have hLv := hLa x
        have hy := run_yield (P := P) (args := ⟨enc x⟩) hl (by rw [hrec]; simpa using setLs_len hLv)
        refine ⟨_, _, _, _, hy, roundIn_of_wpIn trivial ?_⟩
        have hlt : w.heap.size + 1 < W.heap.size := (Array.getElem?_eq_some_iff.1 hl).1
        have hr := setLs_rep ha hLv
        have ea : ({ tmps := ((rec .ready).params.zip ⟨enc x⟩).foldl (fun t (p, v) => t.setIfInBounds p v) (rec .ready).tmps, defers := [] } : Act) = wd [] { tmps := (ts.zip (enc x)).foldl (fun t x => t.setIfInBounds x.1 x.2) a.tmps, defers := a.defers } := by rw [hrec]; simp [wd]
        have easg : (rec .ready).assign = assign := by rw [hrec]
        have ebdy : (rec .ready).body = body := by rw [hrec]
        rw [easg, ebdy]
        refine (congrArg (fun z => Code.wpIn _ _ P assign _ z W) ea).mpr ?_
        refine wpIn_mono (hassign _ pre x W hlt hi hpost _ hr) ?_
        rintro ex a' W' ⟨ds2, a2, L', rfl, r, rfl, rfl, hka, hax⟩
        have hlA := (hka.blk _ hlt (fun h => h)).trans hl
        have hdA := (hka.blk _ (by omega) (fun h => h)).trans hd
        have hltA : w.heap.size + 1 < W'.heap.size := Nat.lt_of_lt_of_le hlt hka.size
        have hp2 : Loose w.heap.size W' (W'.putObj (w.heap.size + 1) (.loop { rec .ready with state := .busy })) := .put _ (by omega) hlA rfl
        have hl2 : (W'.putObj (w.heap.size + 1) (.loop { rec .ready with state := .busy })).heap[w.heap.size + 1]? = some (.loop { rec .ready with state := .busy }) := World.putObj_heap_same hltA
        have hd2 : (W'.putObj (w.heap.size + 1) (.loop { rec .ready with state := .busy })).heap[w.heap.size]? = some (.deferred (some [])) := (World.putObj_heap_other (by omega)).trans hdA
        refine ⟨_, run_beginRound hlA (by rw [hrec]), ?_⟩
        refine wpIn_mono (hbody _ pre x _ _ (hI _ _ _ (hI _ _ _ hi (.none hka)) hp2) hpost (hAx _ _ _ _ hax hp2) _ r) ?_
        rintro ex3 a3 W3 ⟨_, _, _, _, _, rfl, hkf, hkT, hi3⟩
        have hl3 := hkf.same _ _ (by omega) hl2 rfl
        have hd3 := hkf.same _ _ (Nat.le_refl _) hd2 rfl
        have hlt3 : w.heap.size + 1 < W3.heap.size := (Array.getElem?_eq_some_iff.1 hl3).1
        refine ⟨_, _, run_endRound none hl3, rfl, ⟨hI _ _ _ hi3 (.put _ (by omega) hl3 rfl), ?_, (World.putObj_heap_other (by omega)).trans hd3⟩, ?_, ?_⟩
        · rw [World.putObj_heap_same hlt3, hrec]; rfl
        · have kT : ∀ {X : World} {o : Obj}, X.heap[w.heap.size + 1]? = some o → ∀ o', o.isCells = false → Keeps T X (X.putObj (w.heap.size + 1) o') := fun hx o' ho => (Loose.put (B := w.heap.size) o' (by omega) hx ho).keeps.mono fun i _ h => hT i h
          exact ((hka.trans (kT hlA _ rfl) (fun _ _ h => h.elim) (fun _ _ h => h)).trans hkT (fun _ _ h => h) (fun _ _ h => h)).trans (kT hl3 _ rfl) (fun _ _ h => h) (fun _ _ h => h)
        · exact (((keepsFrom_of hka fun i h => h.elim).trans (keepsFrom_put hlA (by omega))).trans (KeepsFrom.le hkf (by omega))).trans (keepsFrom_put hl3 (by omega))
      · rintro ex W ⟨⟨v, rfl⟩, all, hall, hi, hl, hd⟩
        have hel := run_endLoop (P := P) hl (by rw [hrec]; simp)
        rw [show (rec .ready).pending = none from by rw [hrec]] at hel
        refine ⟨none, _, hel, ?_⟩
        exact ⟨_, a, L, rfl, ha, hdone _ all _ (Nat.le_refl _) hall (hI _ _ _ hi (.put _ (by omega) hl rfl)) ((World.putObj_heap_other (by omega)).trans hd)⟩
  | _ => rw [e] at hc; cases hc
end Go.Q
namespace Go.Proofs.YtooginpgclcldaaGreatDoor
open Go.Q Go.RowKit

theorem Values_calls (w : World) (mb : Nat)  : Calls Tryz.prog 75 ⟨[(Value.map (some mb))]⟩ w (fun e w' => ∃ C : Nat, e = .returned (.func (.func 91) ⟨[]⟩ ⟨[ptr C]⟩) ∧ Keeps none_ w w' ∧ Has w' C (rowL [.map (some mb)] 64) ∧ w.heap.size ≤ C) := by
 have K0 : Keeps none_ w w := Keeps.refl w
 refine q_calls Tryz.func75 (by kernel_rfl) (by kernel_rfl) ?_
 refine qs ?_
 refine qg ?_
 refine Ops.new (o := rowL [(Value.map (some mb))] 64) (V := fun b => (ptr b)) (by kernel_rfl) (d := (some 1)) (by kernel_rfl) (fun b => rfl) (fun b1 w2 hb3 H4 K5 hs6 => ?_)
 have nb1 : w.heap.size ≤ b1 := by have := K0.size; omega
 replace K0 := K0.t0 K5
 clear K5 hs6
 refine og 1 [(1, (ptr b1)), (2, Value.nilFunc)] 2 ?_
 refine od ?_
 refine qs ?_
 refine qg ?_
 refine og 2 [(2, (Value.func (Fn.func 91) ⟨[]⟩ ⟨[(ptr b1)]⟩))] 2 ?_
 refine od ?_
 refine q_ret (by kernel_rfl) ?_
 refine ⟨(Value.func (Fn.func 91) ⟨[]⟩ ⟨[(ptr b1)]⟩), retv_tmp rfl rfl, ?_⟩
 exact ⟨_, rfl, K0, H4, nb1⟩

/-- What maps.Values makes tells what the map holds, in some order. -/
theorem Values1_tells (w0 : World) (m0 : Nat) (C mb : Nat) (m : List (List UInt8 × AccV)) (T : Nat → Prop) (hC : Has w0 C (rowL [.map (some mb)] 64)) (hTC : ¬ T C) (hM : HasMap w0 mb kstr accv m) (hTM : ¬ T mb) :
  TellsM Tryz.prog m0 91 [ptr C] (fun x : List UInt8 × AccV => [accv x.2]) T (fun all => all.Perm m) w0 := by
 intro l J W hW hJ hY h0
 obtain ⟨Y, hYd⟩ : ∃ Y, Y = Value.func (.yield l) #[] #[] := ⟨_, rfl⟩
 rw [← hYd]
 refine qr_calls (m0 + 1) Tryz.func91 (by kernel_rfl) (by kernel_rfl) ?_
 have hCW := hC.keep hW hTC
 have hMW := hM.keep hW hTM
 refine qr_seq (by kernel_rfl) ?_
 refine qr_region Open.wide (by kernel_rfl) (by kernel_rfl) ?_
 refine Ops.go (v := .map (some mb)) (by kernel_rfl) (Runs.load (t := 64) (a := ⟨C, 0, none⟩) (by kernel_rfl) (hCW.loads (by kernel_rfl))) (d := some 5) (by kernel_rfl) rfl ?_
 obtain ⟨r, w1, hrun, k1, hr, hI⟩ := HasMap.range (P := Tryz.prog) (t := 64) Tryz.underlying64 hMW
 refine Ops.go (v := ptr r) (by kernel_rfl) (Runs.of_range (by kernel_rfl) hrun) (d := some 6) (by kernel_rfl) rfl ?_
 refine Ops.keep (R := [(0, Y), (6, ptr r)]) (by kernel_rfl) ?_
 refine od ?_
 refine qr_block (id := 0) (by kernel_rfl) ?_
 refine qr_loop (fun (s : List (List UInt8 × AccV) × List (List UInt8 × AccV)) ds L wx => ds = [] ∧ L = [(0, Y), (6, ptr r)] ∧ J s.1 wx ∧ Keeps T w0 wx ∧ (s.1 ++ s.2).Perm m ∧ ∃ last, IterM wx r mb kstr accv m s.2 last) (fun s => s.2.length) ([], m) (by kernel_rfl)
  ⟨rfl, rfl, hJ _ _ _ h0 (Loose.none k1), hW.trans k1 (fun _ _ h => h) (fun _ _ h => h.elim), List.Perm.refl _, none, hI⟩ ?_
 clear hI hrun k1
 rintro ⟨came, rest⟩ _ _ wx ⟨rfl, rfl, hj, hK, hp, last, hI⟩
 simp only at hj hp hI ⊢
 refine qr_seq (by kernel_rfl) ?_
 refine qr_region Open.wide (by kernel_rfl) (by kernel_rfl) ?_
 have hrW : W.heap.size ≤ r := by omega
 have hrm : r ≠ mb := by have := hMW.lt; omega
 have hWw := hW.size
 rcases IterM.next (P := Tryz.prog) hI 0 with ⟨rfl, hrun⟩ | ⟨x, a, p1, p2, w2, rfl, hrun, k2, hI2⟩
 ·refine Ops.go (v := .tuple #[.bool false]) (by kernel_rfl) (Runs.of_next (by kernel_rfl) hrun) (d := some 7) (by kernel_rfl) rfl ?_
  refine og 1 [(8, .bool false)] 2 ?_
  refine od ?_
  refine qr_seq (by kernel_rfl) ?_
  refine qr_else (o := .tmp 8) (by kernel_rfl) rfl ?_
  refine qr_exit (id := 0) (by kernel_rfl) ?_
  rw [List.append_nil] at hp
  exact retR_norm (retv_none rfl) ⟨⟨_, rfl⟩, came, hp, hj⟩
 ·have hj2 := hJ _ _ _ hj (hI.loose hrW k2)
  have hK2 : Keeps T w0 w2 := hK.trans k2 (fun _ _ h => h) (fun i hi h => by have h : i = r := h; exfalso; omega)
  replace hI2 := hI2 hrm
  clear hI hj hK
  refine Ops.go (v := .tuple #[.bool true, kstr x, accv a]) (by kernel_rfl) (Runs.of_next (by kernel_rfl) hrun) (d := some 7) (by kernel_rfl) rfl ?_
  refine og 1 [(0, Y), (6, ptr r), (8, .bool true)] 2 ?_
  refine od ?_
  refine qr_seq (by kernel_rfl) ?_
  refine qr_then (o := .tmp 8) (by kernel_rfl) rfl ?_
  refine qr_skip (by kernel_rfl) ?_
  refine qr_block (id := 1) (by kernel_rfl) ?_
  refine qr_seq (by kernel_rfl) ?_
  refine qr_region Open.wide (by kernel_rfl) (by kernel_rfl) ?_
  refine Ops.go (v := .tuple #[kstr x, accv a]) (by kernel_rfl) (Runs.of_entry (by kernel_rfl) hI2.entry) (d := some 9) (by kernel_rfl) rfl ?_
  refine og 1 [(0, Y), (6, ptr r), (10, accv a)] 2 ?_
  refine Ops.new (o := rowL [i64 0, .string ByteArray.empty] 70) (V := fun b => ptr b) (by kernel_rfl) (d := some 4) (by kernel_rfl) (fun b => rfl) (fun b w3 hb H3 k3 hs3 => ?_)
  refine Ops.put (t := 70) (b := b) (off := 0) (v := agg [i64 a.1, .string (str a.2)]) (ys := [i64 a.1, .string (str a.2)]) (by kernel_rfl) (by kernel_rfl) H3 (by kernel_rfl) (d := none) (by kernel_rfl) rfl (fun w4 H4 k4 => ?_)
  refine Ops.keep (R := [(0, Y), (4, ptr b), (6, ptr r)]) (by kernel_rfl) ?_
  refine od ?_
  have k24 : Keeps none_ w2 w4 := k3.trans k4 (fun _ _ h => h) (fun i hi h => by have h : i = b := h; omega)
  have hI4 := hI2.keep k24 (fun h => h) (fun h => h)
  have hj4 := hJ _ _ _ hj2 (Loose.none k24)
  have hK4 : Keeps T w0 w4 := hK2.trans k24 (fun _ _ h => h) (fun _ _ h => h.elim)
  clear hI2 hj2 hK2
  refine qr_seq (by kernel_rfl) ?_
  refine qr_opsR (by kernel_rfl) ?_
  refine OpsR.regs Open.wide (by kernel_rfl) 1 [(0, Y), (4, ptr b), (6, ptr r), (11, Y)] (j := 1) (by kernel_rfl) (by kernel_rfl) ?_
  refine OpsR.go Open.wide (by kernel_rfl) (v := accv a) (by kernel_rfl) (Runs.load (t := 70) (a := ⟨b, 0, none⟩) (by kernel_rfl) (H4.loads (by kernel_rfl))) (d := some 12) (by kernel_rfl) rfl ?_
  subst hYd
  refine OpsR.yield Open.wide (by kernel_rfl) (l := l) (args := ⟨[accv a]⟩) (at?_opn (by kernel_rfl)) ?_ (hY came (x, a) w4 hj4 ⟨p1 ++ p2, came_next hp⟩) ?_
  ·kernel_rfl
  rintro _ w5 ⟨rfl, hj5, k5, kF5⟩
  refine ⟨_, _, rfl, rfl, ?_⟩
  refine OpsR.regs Open.wide (by kernel_rfl) 1 [(0, .func (.yield l) #[] #[]), (6, ptr r), (14, .bool false)] (j := 4) (by kernel_rfl) (by kernel_rfl) ?_
  refine OpsR.done (by kernel_rfl) ?_
  refine qr_else (o := .tmp 14) (by kernel_rfl) rfl ?_
  refine qr_keep (R := [(0, .func (.yield l) #[] #[]), (6, ptr r)]) (by kernel_rfl) ?_
  refine qr_skip (by kernel_rfl) ?_
  exact ⟨(came ++ [(x, a)], p1 ++ p2), ⟨rfl, rfl, hj5, hK4.trans k5 (fun _ _ h => h) (fun _ _ h => h), came_perm hp, _, hI4.keepF k5 kF5 hrW hTM⟩, by simp⟩

theorem Held_body (w : World) (ln : Nat) (b3 b4 n : Nat) (A : Int) (O : List UInt8) (H3 : Has w b3 (rowL [(i64 ((n : Nat) : Int))] 3)) (H4 : Has w b4 (rowL [i64 A, .string (str O)] 70)) (hb : b3 ≠ b4) (hn : n ≤ 1000) : wpR (Fence.wide.inRound ln) Tryz.prog 9 Tryz.f40.ntmps (cd Tryz.f40 [1, 0, 1, 0, 1, 0, 1, 1]) (fun _ e _ w' => e = .normal ∧ Keeps (fun q => q = b3) w w' ∧ Has w' b3 (rowL [(i64 ((n + heldB O : Nat) : Int))] 3)) [] [(3, (ptr b3)), (4, (ptr b4))] w := by
 have K0 : Keeps (fun q => q = b3) w w := (Keeps.refl w).mono (fun _ _ h => h.elim)
 refine qr_block (id := 1) (by kernel_rfl) ?_
 refine qr_seq (by kernel_rfl) ?_
 refine qr_region (Open.round ln) (by kernel_rfl) (by kernel_rfl) ?_
 refine Ops.go (v := (agg [(i64 A), (Value.string (str O))])) (by kernel_rfl) (Runs.load (t := 70) (a := ⟨b4, 0, none⟩) (by kernel_rfl) (H4.loads (by kernel_rfl))) (d := (some 13)) (by kernel_rfl) rfl ?_
 refine og 1 [(3, (ptr b3)), (4, (ptr b4)), (13, (agg [(i64 A), (Value.string (str O))])), (14, (ptr b4))] 2 ?_
 refine Ops.go (v := (i64 A)) (by kernel_rfl) (Runs.load (t := 2) (a := ⟨b4, 0, none⟩) (by kernel_rfl) (H4.loads (by kernel_rfl))) (d := (some 15)) (by kernel_rfl) rfl ?_
 refine og 1 [(3, (ptr b3)), (4, (ptr b4)), (13, (agg [(i64 A), (Value.string (str O))])), (16, (agg [(i64 A), (Value.string ByteArray.empty)]))] 4 ?_
 refine Ops.go (v := (Value.bool (!(aggB [(i64 A), (Value.string (str O))] [(i64 A), (Value.string ByteArray.empty)])))) (by kernel_rfl) (Runs.aggne (t := 70) (by kernel_rfl) (by kernel_rfl)) (d := (some 17)) (by kernel_rfl) rfl ?_
 refine od ?_
 refine qr_cond (o := .tmp 17) (b := (!(aggB [(i64 A), (Value.string (str O))] [(i64 A), (Value.string ByteArray.empty)]))) (by kernel_rfl) rfl (fun h1 => ?_) (fun h1 => ?_)
 ·rw [h1]
  have p2 : (aggB [(i64 A), (Value.string (str O))] [(i64 A), (Value.string ByteArray.empty)]) = false := (bnot_true h1)
  refine qr_region (Open.round ln) (by kernel_rfl) (by kernel_rfl) ?_
  refine Ops.go (v := (i64 ((n : Nat) : Int))) (by kernel_rfl) (Runs.load (t := 3) (a := ⟨b3, 0, none⟩) (by kernel_rfl) (H3.loads (by kernel_rfl))) (d := (some 18)) (by kernel_rfl) rfl ?_
  refine og 1 [(3, (ptr b3)), (4, (ptr b4)), (17, (Value.bool true)), (19, (i64 (IntKind.i64.wrap (((n : Nat) : Int) + 1))))] 2 ?_
  have e3 : IntKind.i64.wrap (((n : Nat) : Int) + 1) = ((n + 1 : Nat) : Int) := by rw [wrap_i64 (by omega) (by omega)]; omega
  rw [e3]
  clear e3
  refine Ops.put (t := 3) (b := b3) (off := 0) (v := (i64 ((n + 1 : Nat) : Int))) (ys := [(i64 ((n + 1 : Nat) : Int))]) (by kernel_rfl) (by kernel_rfl) H3 (by kernel_rfl) (d := none) (by kernel_rfl) rfl (fun w4 H5 K6 => ?_)
  clear H3
  replace K0 := K0.trans K6 (U := (fun i => i = b3)) (fun i h1 h2 => h2) (fun i h1 h2 => by have h2 : i = b3 := h2; show i = b3; omega)
  replace H4 := H4.keep K6 (by intro h; change b4 = b3 at h; omega)
  clear K6
  refine od ?_
  have hb0 : aggB [i64 A, .string (str O)] [i64 A, .string ByteArray.empty] = false := by first | exact (bnot_true h1) | (have := (bnot_true h1); simpa using this)
  have e : heldB O = 1 := held_t hb0
  exact ⟨rfl, K0, by rw [e]; exact H5⟩
 ·rw [h1]
  have p7 : (aggB [(i64 A), (Value.string (str O))] [(i64 A), (Value.string ByteArray.empty)]) = true := (bnot_false h1)
  refine qr_skip (by kernel_rfl) ?_
  have hb0 : aggB [i64 A, .string (str O)] [i64 A, .string ByteArray.empty] = true := by first | exact (bnot_false h1) | (have := (bnot_false h1); simpa using this)
  have e : heldB O = 0 := held_f hb0
  exact ⟨rfl, K0, by rw [e]; exact H3⟩

theorem Held_calls (w : World) (b mb : Nat) (m : List (List UInt8 × AccV)) (S : List AccM) (Hb : Has w b (rowL [.map (some mb)] 66)) (Hm : HasMap w mb kstr accv m) (hne : b ≠ mb) (hB : Book m S) : Calls Tryz.prog 40 ⟨[(ptr b)]⟩ w (fun e w' => e = .returned (i64 ((heldN S : Nat) : Int)) ∧ Keeps none_ w w') := by
 have Hbl := Hb.lt
 have Hml := Hm.lt
 have hlen := hB.len
 have K0 : Keeps none_ w w := Keeps.refl w
 refine qr_calls 11 Tryz.func40 (by kernel_rfl) (by kernel_rfl) ?_
 refine qr_seq (by kernel_rfl) ?_
 refine qr_region Open.wide (by kernel_rfl) (by kernel_rfl) ?_
 refine og 1 [(0, (ptr b)), (2, (i64 0))] 1 ?_
 refine od ?_
 refine qr_seq (by kernel_rfl) ?_
 refine qr_region Open.wide (by kernel_rfl) (by kernel_rfl) ?_
 refine Ops.new (o := rowL [(i64 0)] 3) (V := fun b => (ptr b)) (by kernel_rfl) (d := (some 3)) (by kernel_rfl) (fun b => rfl) (fun b1 w2 hb3 H4 K5 hs6 => ?_)
 have lb1b : b < b1 := by have := Hb.lt; omega
 have lb1mb : mb < b1 := by have := Hm.lt; omega
 have nb1 : w.heap.size ≤ b1 := by have := K0.size; omega
 replace K0 := K0.t0 K5
 replace Hb := Hb.keep K5 (fun h => h)
 replace Hm := Hm.keep K5 (fun h => h)
 clear K5 hs6
 refine Ops.put (t := 3) (b := b1) (off := 0) (v := (i64 0)) (ys := [(i64 0)]) (by kernel_rfl) (by kernel_rfl) H4 (by kernel_rfl) (d := none) (by kernel_rfl) rfl (fun w7 H8 K9 => ?_)
 clear H4
 replace K0 := K0.trans K9 (U := none_) (fun i h1 h2 => h2) (fun i h1 h2 => by have h2 : i = b1 := h2; exfalso; omega)
 replace Hb := Hb.keep K9 (by intro h; change b = b1 at h; omega)
 replace Hm := Hm.keep K9 (by intro h; change mb = b1 at h; omega)
 clear K9
 refine od ?_
 refine qr_seq (by kernel_rfl) ?_
 refine qr_seq (by kernel_rfl) ?_
 refine qr_region Open.wide (by kernel_rfl) (by kernel_rfl) ?_
 refine og 2 [(0, (ptr b)), (2, (i64 0)), (3, (ptr b1)), (6, (Value.bool true))] 2 ?_
 refine od ?_
 refine qr_then (o := .tmp 6) (by kernel_rfl) rfl ?_
 refine qr_seq (by kernel_rfl) ?_
 refine qr_region Open.wide (by kernel_rfl) (by kernel_rfl) ?_
 refine og 3 [(2, (i64 0)), (3, (ptr b1)), (9, (ptr b))] 3 ?_
 refine Ops.go (v := (Value.map (some mb))) (by kernel_rfl) (Runs.load (t := 64) (a := ⟨b, 0, none⟩) (by kernel_rfl) (Hb.loads (by kernel_rfl))) (d := (some 10)) (by kernel_rfl) rfl ?_
 refine Ops.call (by kernel_rfl) (d := (some 11)) (by kernel_rfl) (Values_calls _ mb) ?_
 rintro _ w12 ⟨b10, rfl, K11, H13, nb14⟩
 have lb10b : b < b10 := by have := Hb.lt; omega
 have lb10mb : mb < b10 := by have := Hm.lt; omega
 have lb10b1 : b1 < b10 := by have := H8.lt; omega
 have nb10 : w.heap.size ≤ b10 := by have := K0.size; omega
 refine ⟨_, _, rfl, rfl, ?_⟩
 replace K0 := K0.t0 K11
 replace Hb := Hb.keep K11 (fun h => h)
 replace Hm := Hm.keep K11 (fun h => h)
 replace H8 := H8.keep K11 (fun h => h)
 clear K11
 refine od ?_
 refine qr_block (id := 0) (by kernel_rfl) ?_
 have zb := Hb.lt
 have zmb := Hm.lt
 have zb1 := H8.lt
 have zb10 := H13.lt
 refine qr_keep (R := [(2, (i64 0)), (3, (ptr b1)), (11, (Value.func (Fn.func 91) ⟨[]⟩ ⟨[(ptr b10)]⟩))]) (by kernel_rfl) ?_
 refine qr_eachM (g := .tmp 11) (ts := [12]) (m := 11) (enc := fun x : List UInt8 × AccV => [accv x.2]) (S := fun all => all.Perm m) (w0 := w12) (T := fun i => i = b1 ∨ w12.heap.size ≤ i) (by kernel_rfl) (by decide) (gf := 91) (lb := [ptr b10]) rfl (enters Tryz.func91 (by kernel_rfl) (by kernel_rfl))
  (Values1_tells w12 9 b10 mb m _ H13 (by intro h; change b10 = b1 ∨ w12.heap.size ≤ b10 at h; omega) Hm (by intro h; change mb = b1 ∨ w12.heap.size ≤ mb at h; omega))
  (fun i h => .inr h) ((Keeps.refl _).mono (fun _ _ h => h.elim)) (fun pre W => Has W b1 (rowL [(i64 ((heldL pre : Nat) : Int))] 3) ∧ Keeps (fun i => i = b1) w12 W)
  (fun k W1 W2 h lo => ⟨lo.has h.1, h.2.trans lo.keeps (fun _ _ h => h) (fun i hi h => by have h : w12.heap.size ≤ i := h; omega)⟩) ⟨H8, (Keeps.refl _).mono (fun _ _ h => h.elim)⟩
  (fun x => (12, accv x.2) :: [(2, (i64 0)), (3, (ptr b1)), (11, (Value.func (Fn.func 91) ⟨[]⟩ ⟨[(ptr b10)]⟩))]) (fun x => rfl)
  (fun x L W1 => ∃ b4, L = [(3, ptr b1), (4, ptr b4)] ∧ w12.heap.size ≤ b4 ∧ Has W1 b4 (rowL [i64 x.2.1, .string (str x.2.2)] 70)) (fun x L W1 W2 h lo => let ⟨b4, h1, h2, h3⟩ := h; ⟨b4, h1, h2, lo.has h3⟩) ?_ ?_ ?_
 ·rintro ln pre x W1 hlt ⟨h3, hk⟩ hp
  refine qr_region (Open.round ln) (by kernel_rfl) (by kernel_rfl) ?_
  refine Ops.new (o := rowL [i64 0, .string ByteArray.empty] 70) (V := fun b => ptr b) (by kernel_rfl) (d := some 4) (by kernel_rfl) (fun b => rfl) (fun b w3 hb H3 k3 hs3 => ?_)
  refine Ops.put (t := 70) (b := b) (off := 0) (v := agg [i64 x.2.1, .string (str x.2.2)]) (ys := [i64 x.2.1, .string (str x.2.2)]) (by kernel_rfl) (by kernel_rfl) H3 (by kernel_rfl) (d := none) (by kernel_rfl) rfl (fun w4 H4 k4 => ?_)
  refine Ops.keep (R := [(3, ptr b1), (4, ptr b)]) (by kernel_rfl) ?_
  refine od ?_
  exact ⟨rfl, rfl, k3.trans k4 (fun _ _ h => h) (fun i hi h => by have h : i = b := h; omega), b, rfl, by have := hk.size; omega, H4⟩
 ·rintro ln pre x _ W1 ⟨h3, hk⟩ ⟨post, hp⟩ ⟨b4, rfl, hb4, h4⟩
  have hpl := hp.length_eq
  rw [List.length_append, List.length_cons] at hpl
  have hhl := heldL_le pre
  have hml := hB.len
  have hsl := hB.accs.len
  refine qr_mono (Held_body W1 ln b1 b4 (heldL pre) x.2.1 x.2.2 h3 h4 (by omega) (by omega)) ?_
  rintro ds e L W2 ⟨rfl, k2, h2⟩
  exact ⟨rfl, keepsFrom_of k2 (fun i hi hB => by exfalso; have hi : i = b1 := hi; omega), k2.mono (fun i _ h => .inl h), by rw [heldL_next]; exact h2, hk.trans k2 (fun _ _ h => h) (fun i _ h => h)⟩
 ·rintro D all W hDw hall ⟨h3, hk⟩ hD
  rw [heldL_book hB hall] at h3
  have K15 : Keeps none_ w W := K0.trans hk (U := none_) (fun _ _ h => h) (fun i hi h => by have h : i = b1 := h; have := nb1; omega)
  have H16 := Hb.keep hk (by intro h; change b = b1 at h; omega)
  have H17 := Hm.keep hk (by intro h; change mb = b1 at h; omega)
  have H18 := H13.keep hk (by intro h; change b10 = b1 at h; omega)
  clear Hb Hm H8 H13 K0
  have hbD : b < D ∧ mb < D ∧ b1 < D ∧ b10 < D := by omega
  have hwD : w.heap.size ≤ D := by have := K15.size; omega
  have hD1 : Has W D (.deferred (some [])) := hD
  clear hD
  refine qr_seq (by kernel_rfl) ?_
  refine qr_region Open.wide (by kernel_rfl) (by kernel_rfl) ?_
  refine Ops.go (v := (i64 ((heldN S : Nat) : Int))) (by kernel_rfl) (Runs.load (t := 3) (a := ⟨b1, 0, none⟩) (by kernel_rfl) (h3.loads (by kernel_rfl))) (d := (some 20)) (by kernel_rfl) rfl ?_
  refine og 1 [(2, (i64 ((heldN S : Nat) : Int)))] 2 ?_
  refine od ?_
  refine qr_ret (by kernel_rfl) ?_
  refine retR_one (D := D) hD1 (v := (i64 ((heldN S : Nat) : Int))) (retv_tmp rfl rfl) ?_
  exact ⟨rfl, (K15.trans (Loose.put (B := D) (.deferred none) (Nat.le_refl _) hD1 rfl).keeps (fun _ _ h => h) (fun i hi h => by have h : D ≤ i := h; omega))⟩
end Go.Proofs.YtooginpgclcldaaGreatDoor
namespace Go.Proofs.YtooginpgclcldaaGreatDoor
open Go.Q Go.RowKit

theorem SameRows_calls (w : World) (A : Option Addr) (c : Nat) (la : List RowM) (B : Option Addr) (d : Nat) (lb : List RowM) (hA : RdR w (.slice A la.length c) la) (hB : RdR w (.slice B lb.length d) lb) : Calls Tryz.prog 42 ⟨[(Value.slice A la.length c), (Value.slice B lb.length d)]⟩ w (fun e w' => ∃ t, e = .returned (.bool t) ∧ (t = true ↔ la = lb) ∧ Keeps none_ w w') := by
 have hla := (RdT.len RowM.two (by decide) hA).2
 unfold maxLen at hla
 have K0 : Keeps none_ w w := Keeps.refl w
 refine q_calls Tryz.func42 (by kernel_rfl) (by kernel_rfl) ?_
 refine qs ?_
 refine qg ?_
 refine og 1 [(0, (Value.slice A la.length c)), (1, (Value.slice B lb.length d)), (4, (Value.bool false))] 1 ?_
 refine od ?_
 refine qs ?_
 refine qs ?_
 refine qg ?_
 refine og 5 [(0, (Value.slice A la.length c)), (1, (Value.slice B lb.length d)), (4, (Value.bool false)), (10, (Value.bool (((la.length : Nat) : Int) != ((lb.length : Nat) : Int))))] 5 ?_
 refine od ?_
 refine q_cond (o := .tmp 10) (b := (((la.length : Nat) : Int) != ((lb.length : Nat) : Int))) (by kernel_rfl) rfl (fun h1 => ?_) (fun h1 => ?_)
 ·rw [h1]
  have p2 : ¬ (((la.length : Nat) : Int) = ((lb.length : Nat) : Int)) := of_bne_t h1
  refine qs ?_
  refine qg ?_
  refine og 1 [(0, (Value.slice A la.length c)), (1, (Value.slice B lb.length d)), (4, (Value.bool false))] 1 ?_
  refine od ?_
  refine q_ret (by kernel_rfl) ?_
  refine ⟨(Value.bool false), retv_tmp rfl rfl, ?_⟩
  exact ⟨false, rfl, ⟨fun h => (by cases h), fun h => by exfalso; have := congrArg List.length h; omega⟩, K0⟩
 ·rw [h1]
  have p3 : ((la.length : Nat) : Int) = ((lb.length : Nat) : Int) := of_bne_f h1
  refine q_skip (by kernel_rfl) ?_
  refine qs ?_
  refine qs ?_
  refine qg ?_
  refine og 1 [(0, (Value.slice A la.length c)), (1, (Value.slice B lb.length d)), (4, (Value.bool false)), (5, (i64 0))] 1 ?_
  refine od ?_
  refine q_block (id := 0) (by kernel_rfl) ?_
  refine q_keep (R := [(0, (Value.slice A la.length c)), (1, (Value.slice B lb.length d)), (5, (i64 0))]) (by kernel_rfl) ?_
  refine q_loop (fun (i : Nat) L (wx : World) => L = [(0, (Value.slice A la.length c)), (1, (Value.slice B lb.length d)), (5, (i64 ((i : Nat) : Int)))] ∧ la.take i = lb.take i ∧ i ≤ la.length ∧ Keeps none_ w wx) (fun (i : Nat) => la.length - i) 0 (by kernel_rfl) ⟨rfl, rfl, Nat.zero_le _, K0⟩ ?_
  clear K0
  rintro i _ w4 ⟨rfl, hE, hi, K5⟩
  refine qs ?_
  refine qs ?_
  refine qg ?_
  refine og 4 [(0, (Value.slice A la.length c)), (1, (Value.slice B lb.length d)), (5, (i64 ((i : Nat) : Int))), (14, (Value.bool (decide (((i : Nat) : Int) < ((la.length : Nat) : Int)))))] 4 ?_
  refine od ?_
  refine q_cond (o := .tmp 14) (b := (decide (((i : Nat) : Int) < ((la.length : Nat) : Int)))) (by kernel_rfl) rfl (fun h6 => ?_) (fun h6 => ?_)
  ·rw [h6]
   have p7 : ((i : Nat) : Int) < ((la.length : Nat) : Int) := of_decide_eq_true h6
   obtain ⟨rb8, ro9, x, hA10, hx11⟩ := RdT.open (Rd.keep0 (by omega) hA K5) rfl (k := i) (by omega)
   obtain ⟨rb12, ro13, y, hA14, hx15⟩ := RdT.open (Rd.keep0 (by omega) hB K5) rfl (k := i) (by omega)
   have hX := hx11
   have hY := hx15
   refine q_skip (by kernel_rfl) ?_
   refine qs ?_
   refine q_block (id := 1) (by kernel_rfl) ?_
   refine qs ?_
   refine q_draw (fun wz => Keeps none_ w4 wz) 9 (by kernel_rfl) (by kernel_rfl) (by kernel_rfl) (fun w16 K17 _ _ => ⟨K17, ?_⟩)
   replace K5 := K5.trans K17 (U := none_) (fun i h1 h2 => h2) (fun i h1 h2 => by exact h2)
   refine Dr.strong (S' := (fun wz => Keeps none_ w16 wz)) (Keeps.refl w16) (fun wz hx => K17.trans hx (fun i _ h => h) (fun _ _ h => h)) ?_
   clear K17
   refine Dr.takes (fuel' := 7) (is' := [1, 0]) [0, 1] [(0, (Value.slice A la.length c)), (1, (Value.slice B lb.length d)), (5, (i64 ((i : Nat) : Int))), (14, (Value.bool true)), (17, (Value.slice A la.length c)), (18, (i64 ((i : Nat) : Int)))] (by kernel_rfl) rfl (by kernel_rfl) ?_
   refine Dr.take (i := 2) (v := (Value.pointer (some ⟨rb8, ro9 + i * 2, none⟩))) (by kernel_rfl) (by kernel_rfl) (fun wz hS => Runs.ixSliceE (k := IntKind.i64) (t := 75) (len := la.length) (cap := c) (s := 2) (off' := ro9 + i * 2) (i := ((i : Nat) : Int)) hA10 (by kernel_rfl) (by kernel_rfl) (by omega) (by omega) (by omega)) (d := (some 19)) (by kernel_rfl) rfl ?_
   refine Dr.take (i := 3) (v := (agg [(Value.string (str x.name)), (i64 x.amount)])) (by kernel_rfl) (by kernel_rfl) (fun wz hS => Runs.load (t := 52) (a := ⟨rb8, ro9 + i * 2, none⟩) (by kernel_rfl) (RdT.ld (f := RowM.cells) (x := x) RowM.two (Rd.keep0 (by omega) hA (K5.trans hS (fun _ _ h => h) (fun _ _ h => h))) (by kernel_rfl) (by kernel_rfl) hA10 hx11)) (d := (some 20)) (by kernel_rfl) rfl ?_
   refine Dr.takes (fuel' := 3) (is' := [5, 4, 3, 2, 1, 0]) [4, 5] [(0, (Value.slice A la.length c)), (1, (Value.slice B lb.length d)), (5, (i64 ((i : Nat) : Int))), (14, (Value.bool true)), (20, (agg [(Value.string (str x.name)), (i64 x.amount)])), (21, (Value.slice B lb.length d)), (22, (i64 ((i : Nat) : Int)))] (by kernel_rfl) rfl (by kernel_rfl) ?_
   refine Dr.take (i := 6) (v := (Value.pointer (some ⟨rb12, ro13 + i * 2, none⟩))) (by kernel_rfl) (by kernel_rfl) (fun wz hS => Runs.ixSliceE (k := IntKind.i64) (t := 75) (len := lb.length) (cap := d) (s := 2) (off' := ro13 + i * 2) (i := ((i : Nat) : Int)) hA14 (by kernel_rfl) (by kernel_rfl) (by omega) (by omega) (by omega)) (d := (some 23)) (by kernel_rfl) rfl ?_
   refine Dr.take (i := 7) (v := (agg [(Value.string (str y.name)), (i64 y.amount)])) (by kernel_rfl) (by kernel_rfl) (fun wz hS => Runs.load (t := 52) (a := ⟨rb12, ro13 + i * 2, none⟩) (by kernel_rfl) (RdT.ld (f := RowM.cells) (x := y) RowM.two (Rd.keep0 (by omega) hB (K5.trans hS (fun _ _ h => h) (fun _ _ h => h))) (by kernel_rfl) (by kernel_rfl) hA14 hx15)) (d := (some 24)) (by kernel_rfl) rfl ?_
   refine Dr.take (i := 8) (v := (Value.bool (!(aggB [(Value.string (str x.name)), (i64 x.amount)] [(Value.string (str y.name)), (i64 y.amount)])))) (by kernel_rfl) (by kernel_rfl) (fun wz hS => Runs.aggne (t := 52) (by kernel_rfl) (by kernel_rfl)) (d := (some 25)) (by kernel_rfl) rfl ?_
   refine Dr.done (by kernel_rfl) ?_
   refine q_cond (o := .tmp 25) (b := (!(aggB [(Value.string (str x.name)), (i64 x.amount)] [(Value.string (str y.name)), (i64 y.amount)]))) (by kernel_rfl) rfl (fun h18 => ?_) (fun h18 => ?_)
   ·rw [h18]
    have p19 : (aggB [(Value.string (str x.name)), (i64 x.amount)] [(Value.string (str y.name)), (i64 y.amount)]) = false := (bnot_true h18)
    have hxy := aggB_row_f (bnot_true h18)
    refine qs ?_
    refine qg ?_
    refine og 1 [(0, (Value.slice A la.length c)), (1, (Value.slice B lb.length d)), (4, (Value.bool false)), (5, (i64 ((i : Nat) : Int))), (14, (Value.bool true)), (25, (Value.bool true))] 1 ?_
    refine od ?_
    refine q_ret (by kernel_rfl) ?_
    refine ⟨(Value.bool false), retv_tmp rfl rfl, ?_⟩
    exact ⟨false, rfl, ⟨fun h => (by cases h), fun h => absurd h (getElem_ne hX hY hxy)⟩, K5⟩
   ·rw [h18]
    have p20 : (aggB [(Value.string (str x.name)), (i64 x.amount)] [(Value.string (str y.name)), (i64 y.amount)]) = true := (bnot_false h18)
    have hxy := (aggB_row x y).1 (bnot_false h18)
    refine q_skip (by kernel_rfl) ?_
    refine qg ?_
    refine og 2 [(0, (Value.slice A la.length c)), (1, (Value.slice B lb.length d)), (5, (i64 ((i : Nat) : Int))), (14, (Value.bool true)), (16, (i64 (IntKind.i64.wrap (((i : Nat) : Int) + 1)))), (25, (Value.bool false))] 2 ?_
    have e21 : IntKind.i64.wrap (((i : Nat) : Int) + 1) = ((i + 1 : Nat) : Int) := by rw [wrap_i64 (by omega) (by omega)]; omega
    rw [e21]
    clear e21
    refine og 1 [(0, (Value.slice A la.length c)), (1, (Value.slice B lb.length d)), (5, (i64 ((i + 1 : Nat) : Int))), (14, (Value.bool true)), (25, (Value.bool false))] 3 ?_
    refine Ops.keep (R := [(0, (Value.slice A la.length c)), (1, (Value.slice B lb.length d)), (5, (i64 ((i + 1 : Nat) : Int)))]) (by kernel_rfl) ?_
    refine od ?_
    exact ⟨i + 1, ⟨rfl, (take_eq_succ hE hX (hxy ▸ hY)), (by omega), K5⟩, (show la.length - (i + 1) < la.length - i from by omega)⟩
  ·rw [h6]
   have p22 : ¬ (((i : Nat) : Int) < ((la.length : Nat) : Int)) := of_decide_eq_false h6
   refine q_exit (id := 0) (by kernel_rfl) ?_
   refine qs ?_
   refine qg ?_
   refine og 1 [(4, (Value.bool true))] 1 ?_
   refine od ?_
   refine q_ret (by kernel_rfl) ?_
   refine ⟨(Value.bool true), retv_tmp rfl rfl, ?_⟩
   exact ⟨true, rfl, ⟨fun _ => take_all_eq hE (by omega) (by omega), fun _ => rfl⟩, K5⟩
end Go.Proofs.YtooginpgclcldaaGreatDoor
namespace Go.Proofs.YtooginpgclcldaaGreatDoor
open Go.Q Go.RowKit

theorem SValues_calls (w : World) (A : Option Addr) (n c : Nat)  : Calls Tryz.prog 78 ⟨[(Value.slice A n c)]⟩ w (fun e w' => ∃ C : Nat, e = .returned (.func (.func 96) ⟨[]⟩ ⟨[ptr C]⟩) ∧ Keeps none_ w w' ∧ Has w' C (rowL [.slice A n c] 75) ∧ w.heap.size ≤ C) := by
 have K0 : Keeps none_ w w := Keeps.refl w
 refine q_calls Tryz.func78 (by kernel_rfl) (by kernel_rfl) ?_
 refine qs ?_
 refine qg ?_
 refine Ops.new (o := rowL [(Value.slice A n c)] 75) (V := fun b => (ptr b)) (by kernel_rfl) (d := (some 1)) (by kernel_rfl) (fun b => rfl) (fun b1 w2 hb3 H4 K5 hs6 => ?_)
 have nb1 : w.heap.size ≤ b1 := by have := K0.size; omega
 replace K0 := K0.t0 K5
 clear K5 hs6
 refine og 1 [(1, (ptr b1)), (2, Value.nilFunc)] 2 ?_
 refine od ?_
 refine qs ?_
 refine qg ?_
 refine og 2 [(2, (Value.func (Fn.func 96) ⟨[]⟩ ⟨[(ptr b1)]⟩))] 2 ?_
 refine od ?_
 refine q_ret (by kernel_rfl) ?_
 refine ⟨(Value.func (Fn.func 96) ⟨[]⟩ ⟨[(ptr b1)]⟩), retv_tmp rfl rfl, ?_⟩
 exact ⟨_, rfl, K0, H4, nb1⟩

theorem Each_calls (w : World) (b mb : Nat) (m : List (List UInt8 × AccV)) (S : List AccM) (Hb : Has w b (rowL [.map (some mb)] 66)) (Hm : HasMap w mb kstr accv m) (hne : b ≠ mb) (hB : Book m S) : Calls Tryz.prog 45 ⟨[(ptr b)]⟩ w (fun e w' => ∃ C A c, e = .returned (.func (.func 96) ⟨[]⟩ ⟨[ptr C]⟩) ∧ Keeps none_ w w' ∧ Has w' C (rowL [.slice A (rowsS S (-1)).length c] 75) ∧ OwnR w' w.heap.size 52 (.slice A (rowsS S (-1)).length c) (rowsS S (-1)) ∧ w.heap.size ≤ C ∧ ∀ i, (Value.slice A (rowsS S (-1)).length c).ownBlock = some i → i ≠ C) := by
 have Hbl := Hb.lt
 have Hml := Hm.lt
 have hlen := hB.len
 have K0 : Keeps none_ w w := Keeps.refl w
 refine q_calls Tryz.func45 (by kernel_rfl) (by kernel_rfl) ?_
 refine qs ?_
 refine qg ?_
 refine og 1 [(0, (ptr b)), (2, Value.nilFunc)] 1 ?_
 refine od ?_
 refine qs ?_
 refine qg ?_
 refine og 1 [(2, Value.nilFunc), (3, (ptr b))] 1 ?_
 refine Ops.call (by kernel_rfl) (d := (some 4)) (by kernel_rfl) (Rows_calls _ b mb m S (-1) Hb Hm (by omega) hB) ?_
 rintro _ w3 ⟨A1, c2, rfl, K4, hO5⟩
 have ob7 : ∀ i, ((Value.slice A1 ((rowsS S (-1)).length) c2)).ownBlock = some i → i ≠ b := fun i hi => by have := (World.ownsRow.lt hO5 i hi).1; have := Hb.lt; omega
 have ob8 : ∀ i, ((Value.slice A1 ((rowsS S (-1)).length) c2)).ownBlock = some i → i ≠ mb := fun i hi => by have := (World.ownsRow.lt hO5 i hi).1; have := Hm.lt; omega
 have O6 := own_base hO5 K0.size
 clear hO5
 have hl9 := rowsS_len S (-1)
 have hl10 := hB.accs.len
 refine ⟨_, _, rfl, rfl, ?_⟩
 replace K0 := K0.t0 K4
 replace Hb := Hb.keep K4 (fun h => h)
 replace Hm := Hm.keep K4 (fun h => h)
 clear K4
 refine Ops.call (by kernel_rfl) (d := (some 5)) (by kernel_rfl) (SValues_calls _ A1 ((rowsS S (-1)).length) c2) ?_
 rintro _ w13 ⟨b11, rfl, K12, H14, nb15⟩
 have lb11b : b < b11 := by have := Hb.lt; omega
 have lb11mb : mb < b11 := by have := Hm.lt; omega
 have ob17 : ∀ i, ((Value.slice A1 ((rowsS S (-1)).length) c2)).ownBlock = some i → i ≠ b11 := fun i hi => by have := (World.ownsRow.lt O6 i hi).2; omega
 have nb11 : w.heap.size ≤ b11 := by have := K0.size; omega
 refine ⟨_, _, rfl, rfl, ?_⟩
 replace K0 := K0.t0 K12
 replace Hb := Hb.keep K12 (fun h => h)
 replace Hm := Hm.keep K12 (fun h => h)
 replace O6 := own_keep0 O6 K12
 clear K12
 refine og 1 [(2, (Value.func (Fn.func 96) ⟨[]⟩ ⟨[(ptr b11)]⟩))] 4 ?_
 refine od ?_
 refine q_ret (by kernel_rfl) ?_
 refine ⟨(Value.func (Fn.func 96) ⟨[]⟩ ⟨[(ptr b11)]⟩), retv_tmp rfl rfl, ?_⟩
 exact ⟨_, _, _, rfl, K0, H14, O6, nb11, ob17⟩

/-- What slices.Values makes tells the rows, one by one. -/
theorem SValues1_tells (w0 : World) (m0 : Nat) (C : Nat) (A : Option Addr) (c : Nat) (l : List RowM) (T : Nat → Prop) (hC : Has w0 C (rowL [.slice A l.length c] 75)) (hTC : ¬ T C) (hR : RdT w0 2 RowM.cells (.slice A l.length c) l) (hTA : ∀ i, (Value.slice A l.length c).ownBlock = some i → ¬ T i) :
  TellsM Tryz.prog m0 96 [ptr C] (fun x : RowM => [agg x.cells]) T (fun all => all = l) w0 := by
 intro ln J W hW hJ hY h0
 have hcap := (RdT.len RowM.two (by decide) hR).2
 unfold maxLen at hcap
 obtain ⟨Y, hYd⟩ : ∃ Y, Y = Value.func (.yield ln) #[] #[] := ⟨_, rfl⟩
 rw [← hYd]
 refine qr_calls (m0 + 1) Tryz.func96 (by kernel_rfl) (by kernel_rfl) ?_
 have hCW := hC.keep hW hTC
 refine qr_seq (by kernel_rfl) ?_
 refine qr_region Open.wide (by kernel_rfl) (by kernel_rfl) ?_
 refine Ops.go (v := .slice A l.length c) (by kernel_rfl) (Runs.load (t := 75) (a := ⟨C, 0, none⟩) (by kernel_rfl) (hCW.loads (by kernel_rfl))) (d := some 5) (by kernel_rfl) rfl ?_
 refine og 2 [(0, Y), (5, .slice A l.length c), (6, i64 ((l.length : Nat) : Int)), (7, i64 0)] 3 ?_
 refine od ?_
 refine qr_block (id := 0) (by kernel_rfl) ?_
 refine qr_loop (fun (k : Nat) ds L wx => ds = [] ∧ L = [(0, Y), (5, .slice A l.length c), (6, i64 ((l.length : Nat) : Int)), (7, i64 ((k : Nat) : Int))] ∧ k ≤ l.length ∧ J (l.take k) wx ∧ Keeps T w0 wx) (fun k => l.length - k) 0 (by kernel_rfl) ⟨rfl, rfl, Nat.zero_le _, h0, hW⟩ ?_
 rintro k _ _ wx ⟨rfl, rfl, hk, hj, hK⟩
 have hWw := hW.size
 refine qr_seq (by kernel_rfl) ?_
 refine qr_region Open.wide (by kernel_rfl) (by kernel_rfl) ?_
 refine og 1 [(0, Y), (5, .slice A l.length c), (6, i64 ((l.length : Nat) : Int)), (7, i64 ((k : Nat) : Int)), (8, .bool (decide (((k : Nat) : Int) < ((l.length : Nat) : Int))))] 1 ?_
 refine od ?_
 refine qr_seq (by kernel_rfl) ?_
 refine qr_cond (o := .tmp 8) (b := decide (((k : Nat) : Int) < ((l.length : Nat) : Int))) (by kernel_rfl) rfl (fun h => ?_) (fun h => ?_)
 ·have hkl := of_decide_eq_true h
  clear h
  obtain ⟨x, hx⟩ : ∃ x, l[k]? = some x := ⟨_, List.getElem?_eq_getElem (by omega)⟩
  have hsplit : l.take k ++ x :: l.drop (k + 1) = l := by
   obtain ⟨q1, q2⟩ := List.getElem?_eq_some_iff.1 hx
   rw [← q2, ← List.drop_eq_getElem_cons q1, List.take_append_drop]
  have htake : l.take (k + 1) = l.take k ++ [x] := by rw [List.take_add_one, hx]; rfl
  have hRx : RdT wx 2 RowM.cells (.slice A l.length c) l := Rd.keep (by decide) hR hK hTA
  obtain ⟨rb, ro, hA⟩ := Rd.addr hRx (by omega)
  refine qr_keep (R := [(0, Y), (5, .slice A l.length c), (6, i64 ((l.length : Nat) : Int)), (7, i64 ((k : Nat) : Int))]) (by kernel_rfl) ?_
  refine qr_skip (by kernel_rfl) ?_
  refine qr_seq (by kernel_rfl) ?_
  refine qr_block (id := 1) (by kernel_rfl) ?_
  refine qr_seq (by kernel_rfl) ?_
  refine qr_region Open.wide (by kernel_rfl) (by kernel_rfl) ?_
  refine Ops.go (v := .pointer (some ⟨rb, ro + k * 2, none⟩)) (by kernel_rfl) (Runs.ixSliceE (k := IntKind.i64) (t := 75) (len := l.length) (cap := c) (s := 2) (off' := ro + k * 2) (i := ((k : Nat) : Int)) hA (by kernel_rfl) (by kernel_rfl) (by omega) (by omega) (by omega)) (d := some 9) (by kernel_rfl) rfl ?_
  refine Ops.go (v := agg x.cells) (by kernel_rfl) (Runs.load (t := 52) (a := ⟨rb, ro + k * 2, none⟩) (by kernel_rfl) (RdT.ld (f := RowM.cells) (x := x) RowM.two hRx (by kernel_rfl) (by kernel_rfl) hA hx)) (d := some 10) (by kernel_rfl) rfl ?_
  refine Ops.new (o := rowL [.string ByteArray.empty, i64 0] 52) (V := fun b => ptr b) (by kernel_rfl) (d := some 4) (by kernel_rfl) (fun b => rfl) (fun b w3 hb H3 k3 hs3 => ?_)
  refine Ops.put (t := 52) (b := b) (off := 0) (v := agg x.cells) (ys := x.cells) (by kernel_rfl) (by kernel_rfl) H3 (by kernel_rfl) (d := none) (by kernel_rfl) rfl (fun w4 H4 k4 => ?_)
  refine Ops.keep (R := [(0, Y), (4, ptr b), (5, .slice A l.length c), (6, i64 ((l.length : Nat) : Int)), (7, i64 ((k : Nat) : Int))]) (by kernel_rfl) ?_
  refine od ?_
  have k24 : Keeps none_ wx w4 := k3.trans k4 (fun _ _ h => h) (fun i hi h => by have h : i = b := h; omega)
  have hj4 := hJ _ _ _ hj (Loose.none k24)
  have hK4 : Keeps T w0 w4 := hK.trans k24 (fun _ _ h => h) (fun _ _ h => h.elim)
  refine qr_seq (by kernel_rfl) ?_
  refine qr_opsR (by kernel_rfl) ?_
  refine OpsR.regs Open.wide (by kernel_rfl) 1 [(0, Y), (4, ptr b), (5, .slice A l.length c), (6, i64 ((l.length : Nat) : Int)), (7, i64 ((k : Nat) : Int)), (11, Y)] (j := 1) (by kernel_rfl) (by kernel_rfl) ?_
  refine OpsR.go Open.wide (by kernel_rfl) (v := agg x.cells) (by kernel_rfl) (Runs.load (t := 52) (a := ⟨b, 0, none⟩) (by kernel_rfl) (H4.loads (by kernel_rfl))) (d := some 12) (by kernel_rfl) rfl ?_
  subst hYd
  refine OpsR.yield Open.wide (by kernel_rfl) (l := ln) (args := ⟨[agg x.cells]⟩) (at?_opn (by kernel_rfl)) ?_ (hY (l.take k) x w4 hj4 ⟨l.drop (k + 1), hsplit⟩) ?_
  ·kernel_rfl
  rintro _ w5 ⟨rfl, hj5, k5, kF5⟩
  refine ⟨_, _, rfl, rfl, ?_⟩
  refine OpsR.regs Open.wide (by kernel_rfl) 1 [(0, .func (.yield ln) #[] #[]), (5, .slice A l.length c), (6, i64 ((l.length : Nat) : Int)), (7, i64 ((k : Nat) : Int)), (14, .bool false)] (j := 4) (by kernel_rfl) (by kernel_rfl) ?_
  refine OpsR.done (by kernel_rfl) ?_
  refine qr_else (o := .tmp 14) (by kernel_rfl) rfl ?_
  refine qr_keep (R := [(0, .func (.yield ln) #[] #[]), (5, .slice A l.length c), (6, i64 ((l.length : Nat) : Int)), (7, i64 ((k : Nat) : Int))]) (by kernel_rfl) ?_
  refine qr_skip (by kernel_rfl) ?_
  refine qr_region Open.wide (by kernel_rfl) (by kernel_rfl) ?_
  refine og 1 [(0, .func (.yield ln) #[] #[]), (5, .slice A l.length c), (6, i64 ((l.length : Nat) : Int)), (15, i64 (IntKind.i64.wrap (((k : Nat) : Int) + 1)))] 1 ?_
  rw [show IntKind.i64.wrap (((k : Nat) : Int) + 1) = ((k + 1 : Nat) : Int) from by rw [wrap_i64 (by omega) (by omega)]; omega]
  refine og 1 [(0, .func (.yield ln) #[] #[]), (5, .slice A l.length c), (6, i64 ((l.length : Nat) : Int)), (7, i64 ((k + 1 : Nat) : Int))] 2 ?_
  refine od ?_
  exact ⟨k + 1, ⟨rfl, rfl, by omega, by rw [htake]; exact hj5, hK4.trans k5 (fun _ _ h => h) (fun _ _ h => h)⟩, by omega⟩
 ·have hkl := of_decide_eq_false h
  refine qr_exit (id := 0) (by kernel_rfl) ?_
  rw [List.take_of_length_le (by omega)] at hj
  exact retR_norm (retv_none rfl) ⟨⟨_, rfl⟩, l, rfl, hj⟩
end Go.Proofs.YtooginpgclcldaaGreatDoor
namespace Go.Proofs.YtooginpgclcldaaGreatDoor
open Go.Q Go.RowKit

end Go.Proofs.YtooginpgclcldaaGreatDoor
namespace Go.Proofs.YtooginpgclcldaaGreatDoor
open Go.Q Go.RowKit

theorem alike_body (w : World) (ln : Nat) (b6 b13 b15 b16 n : Nat) (VA : Option Addr) (vc : Nat) (l : List RowM) (x : RowM) (H13 : Has w b13 (rowL [.slice VA l.length vc] 75)) (H15 : Has w b15 (rowL [(i64 ((n : Nat) : Int))] 3)) (H16 : Has w b16 (rowL x.cells 52)) (hV : RdT w 2 RowM.cells (.slice VA l.length vc) l) (hVb : ∀ q, (Value.slice VA l.length vc).ownBlock = some q → q ≠ b15) (hx : l[n]? = some x) (hd : b13 ≠ b15 ∧ b16 ≠ b15) : wpR (Fence.wide.inRound ln) Tryz.prog 9 Tryz.f12.ntmps (cd Tryz.f12 [1, 0, 1, 0, 1, 1, 1, 1, 1, 1, 1, 1, 1, 1]) (fun _ e _ w' => e = .normal ∧ Keeps (fun q => q = b15) w w' ∧ Has w' b15 (rowL [(i64 ((n + 1 : Nat) : Int))] 3)) [] [(6, (ptr b6)), (13, (ptr b13)), (15, (ptr b15)), (16, (ptr b16))] w := by
 have hnl := (List.getElem?_eq_some_iff.1 hx).1
 have hcap := (RdT.len RowM.two (by decide) hV).2
 unfold maxLen at hcap
 have K0 : Keeps (fun q => q = b15) w w := (Keeps.refl w).mono (fun _ _ h => h.elim)
 refine qr_block (id := 3) (by kernel_rfl) ?_
 refine qr_seq (by kernel_rfl) ?_
 refine qr_seq (by kernel_rfl) ?_
 refine qr_draw (Open.round ln) (fun wz => Keeps none_ w wz) 12 (by kernel_rfl) (by kernel_rfl) (by kernel_rfl) (by kernel_rfl) (fun w1 K2 _ _ => ⟨K2, ?_⟩)
 replace K0 := K0.trans K2 (U := (fun i => i = b15)) (fun i h1 h2 => h2) (fun i h1 h2 => by exact h2.elim)
 replace H13 := H13.keep K2 (fun h => h)
 replace H15 := H15.keep K2 (fun h => h)
 replace H16 := H16.keep K2 (fun h => h)
 replace hV := (Rd.keep0 (by omega) hV K2)
 refine Dr.strong (S' := (fun wz => Keeps none_ w1 wz)) (Keeps.refl w1) (fun wz hx => K2.trans hx (fun i _ h => h) (fun _ _ h => h)) ?_
 clear K2
 refine Dr.take (i := 0) (v := (i64 ((n : Nat) : Int))) (by kernel_rfl) (by kernel_rfl) (fun wz hS => Runs.load (t := 3) (a := ⟨b15, 0, none⟩) (by kernel_rfl) ((H15.keep hS (fun h => h)).loads (by kernel_rfl))) (d := (some 107)) (by kernel_rfl) rfl ?_
 refine Dr.take (i := 1) (v := (Value.slice VA l.length vc)) (by kernel_rfl) (by kernel_rfl) (fun wz hS => Runs.load (t := 75) (a := ⟨b13, 0, none⟩) (by kernel_rfl) ((H13.keep hS (fun h => h)).loads (by kernel_rfl))) (d := (some 108)) (by kernel_rfl) rfl ?_
 refine Dr.takes (fuel' := 7) (is' := [4, 3, 2, 1, 0]) [2, 3, 4] [(6, (ptr b6)), (13, (ptr b13)), (15, (ptr b15)), (16, (ptr b16)), (111, (Value.bool (decide (((n : Nat) : Int) ≥ ((l.length : Nat) : Int)))))] (by kernel_rfl) rfl (by kernel_rfl) ?_
 have h3 : (decide (((n : Nat) : Int) ≥ ((l.length : Nat) : Int))) = false := decide_eq_false (by omega)
 rw [h3]
 refine Dr.take (i := 5) (v := (Value.slice VA l.length vc)) (by kernel_rfl) (by kernel_rfl) (fun wz hS => Runs.load (t := 75) (a := ⟨b13, 0, none⟩) (by kernel_rfl) ((H13.keep hS (fun h => h)).loads (by kernel_rfl))) (d := (some 112)) (by kernel_rfl) rfl ?_
 refine Dr.take (i := 6) (v := (i64 ((n : Nat) : Int))) (by kernel_rfl) (by kernel_rfl) (fun wz hS => Runs.load (t := 3) (a := ⟨b15, 0, none⟩) (by kernel_rfl) ((H15.keep hS (fun h => h)).loads (by kernel_rfl))) (d := (some 113)) (by kernel_rfl) rfl ?_
 obtain ⟨rb4, ro5, hA6⟩ := Rd.addr hV (by omega)
 refine Dr.take (i := 7) (v := (Value.pointer (some ⟨rb4, ro5 + n * 2, none⟩))) (by kernel_rfl) (by kernel_rfl) (fun wz hS => Runs.ixSliceE (k := IntKind.i64) (t := 75) (len := l.length) (cap := vc) (s := 2) (off' := ro5 + n * 2) (i := ((n : Nat) : Int)) hA6 (by kernel_rfl) (by kernel_rfl) (by omega) (by omega) (by omega)) (d := (some 114)) (by kernel_rfl) rfl ?_
 refine Dr.take (i := 8) (v := (agg [(Value.string (str x.name)), (i64 x.amount)])) (by kernel_rfl) (by kernel_rfl) (fun wz hS => Runs.load (t := 52) (a := ⟨rb4, ro5 + n * 2, none⟩) (by kernel_rfl) (RdT.ld (f := RowM.cells) (x := x) RowM.two (Rd.keep0 (by decide) hV hS) (by kernel_rfl) (by kernel_rfl) hA6 hx)) (d := (some 115)) (by kernel_rfl) rfl ?_
 refine Dr.take (i := 9) (v := (agg [(Value.string (str x.name)), (i64 x.amount)])) (by kernel_rfl) (by kernel_rfl) (fun wz hS => Runs.load (t := 52) (a := ⟨b16, 0, none⟩) (by kernel_rfl) ((H16.keep hS (fun h => h)).loads (by kernel_rfl))) (d := (some 116)) (by kernel_rfl) rfl ?_
 refine Dr.take (i := 10) (v := (Value.bool (!(aggB [(Value.string (str x.name)), (i64 x.amount)] [(Value.string (str x.name)), (i64 x.amount)])))) (by kernel_rfl) (by kernel_rfl) (fun wz hS => Runs.aggne (t := 52) (by kernel_rfl) (by kernel_rfl)) (d := (some 117)) (by kernel_rfl) rfl ?_
 refine Dr.takes (fuel' := 0) (is' := [11, 10, 9, 8, 7, 6, 5, 4, 3, 2, 1, 0]) [11] [(6, (ptr b6)), (13, (ptr b13)), (15, (ptr b15)), (16, (ptr b16)), (118, (Value.bool (!(aggB [(Value.string (str x.name)), (i64 x.amount)] [(Value.string (str x.name)), (i64 x.amount)]))))] (by kernel_rfl) rfl (by kernel_rfl) ?_
 refine Dr.done (by kernel_rfl) ?_
 have h7 : (!(aggB [(Value.string (str x.name)), (i64 x.amount)] [(Value.string (str x.name)), (i64 x.amount)])) = false := by simp [aggB, cellB]
 rw [h7]
 refine qr_else (o := .tmp 118) (by kernel_rfl) rfl ?_
 refine qr_skip (by kernel_rfl) ?_
 refine qr_region (Open.round ln) (by kernel_rfl) (by kernel_rfl) ?_
 refine Ops.go (v := (i64 ((n : Nat) : Int))) (by kernel_rfl) (Runs.load (t := 3) (a := ⟨b15, 0, none⟩) (by kernel_rfl) (H15.loads (by kernel_rfl))) (d := (some 119)) (by kernel_rfl) rfl ?_
 refine og 1 [(6, (ptr b6)), (13, (ptr b13)), (15, (ptr b15)), (16, (ptr b16)), (118, (Value.bool false)), (120, (i64 (IntKind.i64.wrap (((n : Nat) : Int) + 1))))] 2 ?_
 have e8 : IntKind.i64.wrap (((n : Nat) : Int) + 1) = ((n + 1 : Nat) : Int) := by rw [wrap_i64 (by omega) (by omega)]; omega
 rw [e8]
 clear e8
 refine Ops.put (t := 3) (b := b15) (off := 0) (v := (i64 ((n + 1 : Nat) : Int))) (ys := [(i64 ((n + 1 : Nat) : Int))]) (by kernel_rfl) (by kernel_rfl) H15 (by kernel_rfl) (d := none) (by kernel_rfl) rfl (fun w9 H10 K11 => ?_)
 clear H15
 replace K0 := K0.trans K11 (U := (fun i => i = b15)) (fun i h1 h2 => h2) (fun i h1 h2 => by have h2 : i = b15 := h2; show i = b15; omega)
 replace H13 := H13.keep K11 (by intro h; change b13 = b15 at h; omega)
 replace H16 := H16.keep K11 (by intro h; change b16 = b15 at h; omega)
 replace hV := Rd.keep (by omega) hV K11 (fun i hi hs => by have hs : i = b15 := hs; have := hVb i hi; omega)
 clear K11
 refine od ?_
 exact ⟨rfl, K0, H10⟩

set_option maxHeartbeats 4000000 in
theorem alike_calls (w : World) (b mb : Nat) (m : List (List UInt8 × AccV)) (S : List AccM) (r : Nat) (A : Option Addr) (c : Nat) (o : BopM) (Hb : Has w b (rowL [.map (some mb)] 66)) (Hm : HasMap w mb kstr accv m) (hne : b ≠ mb) (hB : Book m S) (Hr : Has w r (rowL [.slice A S.length c] 43)) (hR : RdT w 3 AccM.cells (.slice A S.length c) S) (hbr : b ≠ r) (hmr : mb ≠ r) (ho : o.Ok) : Calls Tryz.prog 12 ⟨[(ptr b), (ptr r), (agg [(i64 o.kind), (Value.string (str o.name)), (Value.string (str o.own)), (i64 o.n), (i64 o.slot)])]⟩ w (fun e w' => e = .returned (.bool true) ∧ Keeps none_ w w') := by
 have Hbl := Hb.lt
 have Hml := Hm.lt
 have hlen := hB.len
 have hS := hB.accs
 have hSl := hS.len
 have ho3 := ho.slot
 have hrl := rowsS_len S o.slot
 have Hrl := Hr.lt
 have hcap := RdT.len AccM.three (by decide) hR
 unfold maxLen at hcap
 have K0 : Keeps none_ w w := Keeps.refl w
 refine qr_calls 11 Tryz.func12 (by kernel_rfl) (by kernel_rfl) ?_
 refine qr_seq (by kernel_rfl) ?_
 refine qr_region Open.wide (by kernel_rfl) (by kernel_rfl) ?_
 refine Ops.new (o := rowL [(i64 o.kind), (Value.string (str o.name)), (Value.string (str o.own)), (i64 o.n), (i64 o.slot)] 37) (V := fun b => (ptr b)) (by kernel_rfl) (d := (some 5)) (by kernel_rfl) (fun b => rfl) (fun b1 w2 hb3 H4 K5 hs6 => ?_)
 have lb1b : b < b1 := by have := Hb.lt; omega
 have lb1mb : mb < b1 := by have := Hm.lt; omega
 have lb1r : r < b1 := by have := Hr.lt; omega
 have nb1 : w.heap.size ≤ b1 := by have := K0.size; omega
 replace K0 := K0.t0 K5
 replace Hb := Hb.keep K5 (fun h => h)
 replace Hm := Hm.keep K5 (fun h => h)
 replace Hr := Hr.keep K5 (fun h => h)
 clear K5 hs6
 refine Ops.new (o := rowL [(Value.bool false)] 4) (V := fun b => (ptr b)) (by kernel_rfl) (d := (some 6)) (by kernel_rfl) (fun b => rfl) (fun b7 w8 hb9 H10 K11 hs12 => ?_)
 have lb7b : b < b7 := by have := Hb.lt; omega
 have lb7mb : mb < b7 := by have := Hm.lt; omega
 have lb7r : r < b7 := by have := Hr.lt; omega
 have lb7b1 : b1 < b7 := by have := H4.lt; omega
 have nb7 : w.heap.size ≤ b7 := by have := K0.size; omega
 replace K0 := K0.t0 K11
 replace Hb := Hb.keep K11 (fun h => h)
 replace Hm := Hm.keep K11 (fun h => h)
 replace Hr := Hr.keep K11 (fun h => h)
 replace H4 := H4.keep K11 (fun h => h)
 clear K11 hs12
 refine od ?_
 refine qr_seq (by kernel_rfl) ?_
 refine qr_region Open.wide (by kernel_rfl) (by kernel_rfl) ?_
 refine og 2 [(0, (ptr b)), (1, (ptr r)), (5, (ptr b1)), (6, (ptr b7)), (18, (ptr b)), (19, (Value.pointer (some ⟨b1, 1, none⟩)))] 2 ?_
 refine Ops.go (v := (Value.string (str o.name))) (by kernel_rfl) (Runs.load (t := 9) (a := ⟨b1, 1, none⟩) (by kernel_rfl) (H4.loads (by kernel_rfl))) (d := (some 20)) (by kernel_rfl) rfl ?_
 refine Ops.call (by kernel_rfl) (d := (some 21)) (by kernel_rfl) (Get_calls _ b mb m S o.name Hb Hm (by omega) hB) ?_
 rintro _ w14 ⟨rfl, K13⟩
 refine ⟨_, _, rfl, rfl, ?_⟩
 replace K0 := K0.t0 K13
 replace Hb := Hb.keep K13 (fun h => h)
 replace Hm := Hm.keep K13 (fun h => h)
 replace Hr := Hr.keep K13 (fun h => h)
 replace H4 := H4.keep K13 (fun h => h)
 replace H10 := H10.keep K13 (fun h => h)
 clear K13
 refine og 5 [(0, (ptr b)), (1, (ptr r)), (5, (ptr b1)), (6, (ptr b7)), (7, (i64 ((amtE S o.name).1))), (8, (i64 ((amtE S o.name).2)))] 9 ?_
 refine od ?_
 refine qr_seq (by kernel_rfl) ?_
 refine qr_region Open.wide (by kernel_rfl) (by kernel_rfl) ?_
 refine og 2 [(0, (ptr b)), (1, (ptr r)), (5, (ptr b1)), (6, (ptr b7)), (7, (i64 ((amtE S o.name).1))), (8, (i64 ((amtE S o.name).2))), (25, (ptr r)), (26, (Value.pointer (some ⟨b1, 1, none⟩)))] 2 ?_
 refine Ops.go (v := (Value.string (str o.name))) (by kernel_rfl) (Runs.load (t := 9) (a := ⟨b1, 1, none⟩) (by kernel_rfl) (H4.loads (by kernel_rfl))) (d := (some 27)) (by kernel_rfl) rfl ?_
 refine Ops.call (by kernel_rfl) (d := (some 28)) (by kernel_rfl) (RGet_calls _ r A c S o.name Hr (Rd.keep0 (by decide) hR K0) hS) ?_
 rintro _ w16 ⟨rfl, K15⟩
 refine ⟨_, _, rfl, rfl, ?_⟩
 replace K0 := K0.t0 K15
 replace Hb := Hb.keep K15 (fun h => h)
 replace Hm := Hm.keep K15 (fun h => h)
 replace Hr := Hr.keep K15 (fun h => h)
 replace H4 := H4.keep K15 (fun h => h)
 replace H10 := H10.keep K15 (fun h => h)
 clear K15
 refine og 5 [(0, (ptr b)), (1, (ptr r)), (5, (ptr b1)), (6, (ptr b7)), (7, (i64 ((amtE S o.name).1))), (8, (i64 ((amtE S o.name).2))), (9, (i64 ((amtE S o.name).1))), (10, (i64 ((amtE S o.name).2)))] 9 ?_
 refine od ?_
 refine qr_seq (by kernel_rfl) ?_
 refine qr_region Open.wide (by kernel_rfl) (by kernel_rfl) ?_
 refine og 2 [(0, (ptr b)), (1, (ptr r)), (5, (ptr b1)), (6, (ptr b7)), (7, (i64 ((amtE S o.name).1))), (8, (i64 ((amtE S o.name).2))), (9, (i64 ((amtE S o.name).1))), (10, (i64 ((amtE S o.name).2))), (31, (ptr b)), (32, (Value.pointer (some ⟨b1, 4, none⟩)))] 2 ?_
 refine Ops.go (v := (i64 o.slot)) (by kernel_rfl) (Runs.load (t := 3) (a := ⟨b1, 4, none⟩) (by kernel_rfl) (H4.loads (by kernel_rfl))) (d := (some 33)) (by kernel_rfl) rfl ?_
 refine Ops.call (by kernel_rfl) (d := (some 34)) (by kernel_rfl) (Rows_calls _ b mb m S o.slot Hb Hm (by omega) hB) ?_
 rintro _ w19 ⟨A17, c18, rfl, K20, hO21⟩
 have ob23 : ∀ i, ((Value.slice A17 ((rowsS S o.slot).length) c18)).ownBlock = some i → i ≠ b := fun i hi => by have := (World.ownsRow.lt hO21 i hi).1; have := Hb.lt; omega
 have ob24 : ∀ i, ((Value.slice A17 ((rowsS S o.slot).length) c18)).ownBlock = some i → i ≠ mb := fun i hi => by have := (World.ownsRow.lt hO21 i hi).1; have := Hm.lt; omega
 have ob25 : ∀ i, ((Value.slice A17 ((rowsS S o.slot).length) c18)).ownBlock = some i → i ≠ r := fun i hi => by have := (World.ownsRow.lt hO21 i hi).1; have := Hr.lt; omega
 have ob26 : ∀ i, ((Value.slice A17 ((rowsS S o.slot).length) c18)).ownBlock = some i → i ≠ b1 := fun i hi => by have := (World.ownsRow.lt hO21 i hi).1; have := H4.lt; omega
 have ob27 : ∀ i, ((Value.slice A17 ((rowsS S o.slot).length) c18)).ownBlock = some i → i ≠ b7 := fun i hi => by have := (World.ownsRow.lt hO21 i hi).1; have := H10.lt; omega
 have O22 := own_base hO21 K0.size
 clear hO21
 have hl28 := rowsS_len S o.slot
 have hl29 := hB.accs.len
 refine ⟨_, _, rfl, rfl, ?_⟩
 replace K0 := K0.t0 K20
 replace Hb := Hb.keep K20 (fun h => h)
 replace Hm := Hm.keep K20 (fun h => h)
 replace Hr := Hr.keep K20 (fun h => h)
 replace H4 := H4.keep K20 (fun h => h)
 replace H10 := H10.keep K20 (fun h => h)
 clear K20
 refine og 1 [(0, (ptr b)), (1, (ptr r)), (5, (ptr b1)), (6, (ptr b7)), (7, (i64 ((amtE S o.name).1))), (8, (i64 ((amtE S o.name).2))), (9, (i64 ((amtE S o.name).1))), (10, (i64 ((amtE S o.name).2))), (11, (Value.slice A17 ((rowsS S o.slot).length) c18))] 5 ?_
 refine od ?_
 refine qr_seq (by kernel_rfl) ?_
 refine qr_seq (by kernel_rfl) ?_
 refine qr_draw Open.wide (fun wz => Keeps none_ w19 wz) 54 (by kernel_rfl) (by kernel_rfl) (by kernel_rfl) (by kernel_rfl) (fun w30 K31 _ _ => ⟨K31, ?_⟩)
 replace K0 := K0.t0 K31
 replace Hb := Hb.keep K31 (fun h => h)
 replace Hm := Hm.keep K31 (fun h => h)
 replace Hr := Hr.keep K31 (fun h => h)
 replace H4 := H4.keep K31 (fun h => h)
 replace H10 := H10.keep K31 (fun h => h)
 replace O22 := own_keep0 O22 K31
 refine Dr.strong (S' := (fun wz => Keeps none_ w30 wz)) (Keeps.refl w30) (fun wz hx => K31.trans hx (fun i _ h => h) (fun _ _ h => h)) ?_
 clear K31
 refine Dr.takes (fuel' := 50) (is' := [3, 2, 1, 0]) [0, 1, 2, 3] [(0, (ptr b)), (1, (ptr r)), (5, (ptr b1)), (6, (ptr b7)), (8, (i64 ((amtE S o.name).2))), (10, (i64 ((amtE S o.name).2))), (11, (Value.slice A17 ((rowsS S o.slot).length) c18)), (38, (Value.bool (((amtE S o.name).1) != ((amtE S o.name).1))))] (by kernel_rfl) rfl (by kernel_rfl) ?_
 have h32 : (((amtE S o.name).1) != ((amtE S o.name).1)) = false := by simp
 rw [h32]
 refine Dr.takes (fuel' := 45) (is' := [8, 7, 6, 5, 4, 3, 2, 1, 0]) [4, 5, 6, 7, 8] [(0, (ptr b)), (1, (ptr r)), (5, (ptr b1)), (6, (ptr b7)), (11, (Value.slice A17 ((rowsS S o.slot).length) c18)), (43, (Value.bool (((amtE S o.name).2) != ((amtE S o.name).2))))] (by kernel_rfl) rfl (by kernel_rfl) ?_
 have h33 : (((amtE S o.name).2) != ((amtE S o.name).2)) = false := by simp
 rw [h33]
 refine Dr.takes (fuel' := 43) (is' := [10, 9, 8, 7, 6, 5, 4, 3, 2, 1, 0]) [9, 10] [(0, (ptr b)), (1, (ptr r)), (5, (ptr b1)), (6, (ptr b7)), (11, (Value.slice A17 ((rowsS S o.slot).length) c18)), (43, (Value.bool false)), (44, (ptr b)), (45, (Value.pointer (some ⟨b1, 1, none⟩)))] (by kernel_rfl) rfl (by kernel_rfl) ?_
 refine Dr.take (i := 11) (v := (Value.string (str o.name))) (by kernel_rfl) (by kernel_rfl) (fun wz hS => Runs.load (t := 9) (a := ⟨b1, 1, none⟩) (by kernel_rfl) ((H4.keep hS (fun h => h)).loads (by kernel_rfl))) (d := (some 46)) (by kernel_rfl) rfl ?_
 refine Dr.takes (fuel' := 40) (is' := [14, 13, 11, 10, 9, 8, 7, 6, 5, 4, 3, 2, 1, 0]) [13, 14] [(0, (ptr b)), (1, (ptr r)), (5, (ptr b1)), (6, (ptr b7)), (11, (Value.slice A17 ((rowsS S o.slot).length) c18)), (43, (Value.bool false)), (44, (ptr b)), (46, (Value.string (str o.name))), (48, (ptr r)), (49, (Value.pointer (some ⟨b1, 1, none⟩)))] (by kernel_rfl) rfl (by kernel_rfl) ?_
 refine Dr.take (i := 15) (v := (Value.string (str o.name))) (by kernel_rfl) (by kernel_rfl) (fun wz hS => Runs.load (t := 9) (a := ⟨b1, 1, none⟩) (by kernel_rfl) ((H4.keep hS (fun h => h)).loads (by kernel_rfl))) (d := (some 50)) (by kernel_rfl) rfl ?_
 refine Dr.call (i := 12) (by kernel_rfl) (by kernel_rfl) (d := (some 47)) (by kernel_rfl) (fun _ => By_calls _ b mb m S o.name Hb Hm (by omega) hB) ?_
 rintro _ w35 ⟨rfl, K34⟩
 replace K0 := K0.t0 K34
 replace Hb := Hb.keep K34 (fun h => h)
 replace Hm := Hm.keep K34 (fun h => h)
 replace Hr := Hr.keep K34 (fun h => h)
 replace H4 := H4.keep K34 (fun h => h)
 replace H10 := H10.keep K34 (fun h => h)
 replace O22 := own_keep0 O22 K34
 refine ⟨_, _, rfl, rfl, K34, ?_⟩
 refine Dr.strong (S' := (fun wz => Keeps none_ w35 wz)) (Keeps.refl w35) (fun wz hx => K34.trans hx (fun i _ h => h) (fun _ _ h => h)) ?_
 clear K34
 refine Dr.call (i := 16) (by kernel_rfl) (by kernel_rfl) (d := (some 51)) (by kernel_rfl) (fun _ => RBy_calls _ r A c S o.name Hr (Rd.keep0 (by decide) hR K0) hS) ?_
 rintro _ w37 ⟨rfl, K36⟩
 replace K0 := K0.t0 K36
 replace Hb := Hb.keep K36 (fun h => h)
 replace Hm := Hm.keep K36 (fun h => h)
 replace Hr := Hr.keep K36 (fun h => h)
 replace H4 := H4.keep K36 (fun h => h)
 replace H10 := H10.keep K36 (fun h => h)
 replace O22 := own_keep0 O22 K36
 refine ⟨_, _, rfl, rfl, K36, ?_⟩
 refine Dr.strong (S' := (fun wz => Keeps none_ w37 wz)) (Keeps.refl w37) (fun wz hx => K36.trans hx (fun i _ h => h) (fun _ _ h => h)) ?_
 clear K36
 refine Dr.take (i := 17) (v := (Value.bool (!((ownE S o.name) == (ownE S o.name))))) (by kernel_rfl) (by kernel_rfl) (fun wz hS => Runs.strne (t := 9) (by kernel_rfl)) (d := (some 52)) (by kernel_rfl) rfl ?_
 refine Dr.takes (fuel' := 34) (is' := [19, 18, 17, 16, 12, 15, 14, 13, 11, 10, 9, 8, 7, 6, 5, 4, 3, 2, 1, 0]) [18, 19] [(0, (ptr b)), (1, (ptr r)), (5, (ptr b1)), (6, (ptr b7)), (11, (Value.slice A17 ((rowsS S o.slot).length) c18)), (54, (Value.bool (!((ownE S o.name) == (ownE S o.name)))))] (by kernel_rfl) rfl (by kernel_rfl) ?_
 have h38 : (!((ownE S o.name) == (ownE S o.name))) = false := by simp
 rw [h38]
 refine Dr.takes (fuel' := 30) (is' := [24, 23, 22, 20, 19, 18, 17, 16, 12, 15, 14, 13, 11, 10, 9, 8, 7, 6, 5, 4, 3, 2, 1, 0]) [20, 22, 23, 24] [(0, (ptr b)), (1, (ptr r)), (5, (ptr b1)), (6, (ptr b7)), (11, (Value.slice A17 ((rowsS S o.slot).length) c18)), (54, (Value.bool false)), (55, (ptr b)), (59, (ptr r))] (by kernel_rfl) rfl (by kernel_rfl) ?_
 refine Dr.take (i := 25) (v := (Value.slice A S.length c)) (by kernel_rfl) (by kernel_rfl) (fun wz hS => Runs.load (t := 41) (a := ⟨r, 0, none⟩) (by kernel_rfl) ((Hr.keep hS (fun h => h)).loads (by kernel_rfl))) (d := (some 60)) (by kernel_rfl) rfl ?_
 refine Dr.takes (fuel' := 28) (is' := [26, 25, 24, 23, 22, 20, 19, 18, 17, 16, 12, 15, 14, 13, 11, 10, 9, 8, 7, 6, 5, 4, 3, 2, 1, 0]) [26] [(0, (ptr b)), (1, (ptr r)), (5, (ptr b1)), (6, (ptr b7)), (11, (Value.slice A17 ((rowsS S o.slot).length) c18)), (54, (Value.bool false)), (55, (ptr b)), (61, (i64 ((S.length : Nat) : Int)))] (by kernel_rfl) rfl (by kernel_rfl) ?_
 refine Dr.call (i := 21) (by kernel_rfl) (by kernel_rfl) (d := (some 56)) (by kernel_rfl) (fun _ => Len_calls _ b mb m S Hb Hm (by omega) hB) ?_
 rintro _ w40 ⟨rfl, K39⟩
 replace K0 := K0.t0 K39
 replace Hb := Hb.keep K39 (fun h => h)
 replace Hm := Hm.keep K39 (fun h => h)
 replace Hr := Hr.keep K39 (fun h => h)
 replace H4 := H4.keep K39 (fun h => h)
 replace H10 := H10.keep K39 (fun h => h)
 replace O22 := own_keep0 O22 K39
 refine ⟨_, _, rfl, rfl, K39, ?_⟩
 refine Dr.strong (S' := (fun wz => Keeps none_ w40 wz)) (Keeps.refl w40) (fun wz hx => K39.trans hx (fun i _ h => h) (fun _ _ h => h)) ?_
 clear K39
 refine Dr.takes (fuel' := 24) (is' := [29, 28, 27, 21, 26, 25, 24, 23, 22, 20, 19, 18, 17, 16, 12, 15, 14, 13, 11, 10, 9, 8, 7, 6, 5, 4, 3, 2, 1, 0]) [27, 28, 29] [(0, (ptr b)), (1, (ptr r)), (5, (ptr b1)), (6, (ptr b7)), (11, (Value.slice A17 ((rowsS S o.slot).length) c18)), (64, (Value.bool (((S.length : Nat) : Int) != ((S.length : Nat) : Int))))] (by kernel_rfl) rfl (by kernel_rfl) ?_
 have h41 : (((S.length : Nat) : Int) != ((S.length : Nat) : Int)) = false := by simp
 rw [h41]
 refine Dr.takes (fuel' := 22) (is' := [32, 30, 29, 28, 27, 21, 26, 25, 24, 23, 22, 20, 19, 18, 17, 16, 12, 15, 14, 13, 11, 10, 9, 8, 7, 6, 5, 4, 3, 2, 1, 0]) [30, 32] [(0, (ptr b)), (1, (ptr r)), (5, (ptr b1)), (6, (ptr b7)), (11, (Value.slice A17 ((rowsS S o.slot).length) c18)), (64, (Value.bool false)), (65, (ptr b)), (67, (ptr r))] (by kernel_rfl) rfl (by kernel_rfl) ?_
 refine Dr.call (i := 31) (by kernel_rfl) (by kernel_rfl) (d := (some 66)) (by kernel_rfl) (fun _ => Held_calls _ b mb m S Hb Hm (by omega) hB) ?_
 rintro _ w43 ⟨rfl, K42⟩
 replace K0 := K0.t0 K42
 replace Hb := Hb.keep K42 (fun h => h)
 replace Hm := Hm.keep K42 (fun h => h)
 replace Hr := Hr.keep K42 (fun h => h)
 replace H4 := H4.keep K42 (fun h => h)
 replace H10 := H10.keep K42 (fun h => h)
 replace O22 := own_keep0 O22 K42
 refine ⟨_, _, rfl, rfl, K42, ?_⟩
 refine Dr.strong (S' := (fun wz => Keeps none_ w43 wz)) (Keeps.refl w43) (fun wz hx => K42.trans hx (fun i _ h => h) (fun _ _ h => h)) ?_
 clear K42
 refine Dr.call (i := 33) (by kernel_rfl) (by kernel_rfl) (d := (some 68)) (by kernel_rfl) (fun _ => RHeld_calls _ r A c S Hr (Rd.keep0 (by decide) hR K0)) ?_
 rintro _ w45 ⟨rfl, K44⟩
 replace K0 := K0.t0 K44
 replace Hb := Hb.keep K44 (fun h => h)
 replace Hm := Hm.keep K44 (fun h => h)
 replace Hr := Hr.keep K44 (fun h => h)
 replace H4 := H4.keep K44 (fun h => h)
 replace H10 := H10.keep K44 (fun h => h)
 replace O22 := own_keep0 O22 K44
 refine ⟨_, _, rfl, rfl, K44, ?_⟩
 refine Dr.strong (S' := (fun wz => Keeps none_ w45 wz)) (Keeps.refl w45) (fun wz hx => K44.trans hx (fun i _ h => h) (fun _ _ h => h)) ?_
 clear K44
 refine Dr.takes (fuel' := 17) (is' := [36, 35, 34, 33, 31, 32, 30, 29, 28, 27, 21, 26, 25, 24, 23, 22, 20, 19, 18, 17, 16, 12, 15, 14, 13, 11, 10, 9, 8, 7, 6, 5, 4, 3, 2, 1, 0]) [34, 35, 36] [(0, (ptr b)), (1, (ptr r)), (5, (ptr b1)), (6, (ptr b7)), (11, (Value.slice A17 ((rowsS S o.slot).length) c18)), (71, (Value.bool (((heldN S : Nat) : Int) != ((heldN S : Nat) : Int))))] (by kernel_rfl) rfl (by kernel_rfl) ?_
 have h46 : (((heldN S : Nat) : Int) != ((heldN S : Nat) : Int)) = false := by simp
 rw [h46]
 refine Dr.takes (fuel' := 14) (is' := [39, 38, 37, 36, 35, 34, 33, 31, 32, 30, 29, 28, 27, 21, 26, 25, 24, 23, 22, 20, 19, 18, 17, 16, 12, 15, 14, 13, 11, 10, 9, 8, 7, 6, 5, 4, 3, 2, 1, 0]) [37, 38, 39] [(0, (ptr b)), (1, (ptr r)), (6, (ptr b7)), (11, (Value.slice A17 ((rowsS S o.slot).length) c18)), (71, (Value.bool false)), (72, (Value.slice A17 ((rowsS S o.slot).length) c18)), (73, (ptr r)), (74, (Value.pointer (some ⟨b1, 4, none⟩)))] (by kernel_rfl) rfl (by kernel_rfl) ?_
 refine Dr.take (i := 40) (v := (i64 o.slot)) (by kernel_rfl) (by kernel_rfl) (fun wz hS => Runs.load (t := 3) (a := ⟨b1, 4, none⟩) (by kernel_rfl) ((H4.keep hS (fun h => h)).loads (by kernel_rfl))) (d := (some 75)) (by kernel_rfl) rfl ?_
 refine Dr.call (i := 41) (by kernel_rfl) (by kernel_rfl) (d := (some 76)) (by kernel_rfl) (fun _ => RRows_calls _ r A c S o.slot Hr (Rd.keep0 (by decide) hR K0) hS) ?_
 rintro _ w49 ⟨A47, c48, rfl, K50, hO51⟩
 have ob53 : ∀ i, ((Value.slice A47 ((rowsS S o.slot).length) c48)).ownBlock = some i → i ≠ b := fun i hi => by have := (World.ownsRow.lt hO51 i hi).1; have := Hb.lt; omega
 have ob54 : ∀ i, ((Value.slice A47 ((rowsS S o.slot).length) c48)).ownBlock = some i → i ≠ mb := fun i hi => by have := (World.ownsRow.lt hO51 i hi).1; have := Hm.lt; omega
 have ob55 : ∀ i, ((Value.slice A47 ((rowsS S o.slot).length) c48)).ownBlock = some i → i ≠ r := fun i hi => by have := (World.ownsRow.lt hO51 i hi).1; have := Hr.lt; omega
 have ob56 : ∀ i, ((Value.slice A47 ((rowsS S o.slot).length) c48)).ownBlock = some i → i ≠ b1 := fun i hi => by have := (World.ownsRow.lt hO51 i hi).1; have := H4.lt; omega
 have ob57 : ∀ i, ((Value.slice A47 ((rowsS S o.slot).length) c48)).ownBlock = some i → i ≠ b7 := fun i hi => by have := (World.ownsRow.lt hO51 i hi).1; have := H10.lt; omega
 have oo58 : ∀ i, ((Value.slice A17 ((rowsS S o.slot).length) c18)).ownBlock = some i → ((Value.slice A47 ((rowsS S o.slot).length) c48)).ownBlock = some i → False := fun i hi hs => by have := (World.ownsRow.lt hO51 i hs).1; have := (World.ownsRow.lt O22 i hi).2; omega
 have oo59 : ∀ i, ((Value.slice A47 ((rowsS S o.slot).length) c48)).ownBlock = some i → ((Value.slice A17 ((rowsS S o.slot).length) c18)).ownBlock = some i → False := fun i hi hs => oo58 i hs hi
 have O52 := own_base hO51 K0.size
 clear hO51
 have hl60 := rowsS_len S o.slot
 have hl61 := hS.len
 replace K0 := K0.t0 K50
 replace Hb := Hb.keep K50 (fun h => h)
 replace Hm := Hm.keep K50 (fun h => h)
 replace Hr := Hr.keep K50 (fun h => h)
 replace H4 := H4.keep K50 (fun h => h)
 replace H10 := H10.keep K50 (fun h => h)
 replace O22 := own_keep0 O22 K50
 refine ⟨_, _, rfl, rfl, K50, ?_⟩
 refine Dr.strong (S' := (fun wz => Keeps none_ w49 wz)) (Keeps.refl w49) (fun wz hx => K50.trans hx (fun i _ h => h) (fun _ _ h => h)) ?_
 clear K50
 refine Dr.call (i := 42) (by kernel_rfl) (by kernel_rfl) (d := (some 77)) (by kernel_rfl) (fun _ => SameRows_calls _ A17 c18 (rowsS S o.slot) A47 c48 (rowsS S o.slot) (OwnT.rd O22) (OwnT.rd O52)) ?_
 rintro _ w65 ⟨t62, rfl, ht63, K64⟩
 replace K0 := K0.t0 K64
 replace Hb := Hb.keep K64 (fun h => h)
 replace Hm := Hm.keep K64 (fun h => h)
 replace Hr := Hr.keep K64 (fun h => h)
 replace H4 := H4.keep K64 (fun h => h)
 replace H10 := H10.keep K64 (fun h => h)
 replace O22 := own_keep0 O22 K64
 replace O52 := own_keep0 O52 K64
 refine ⟨_, _, rfl, rfl, K64, ?_⟩
 refine Dr.strong (S' := (fun wz => Keeps none_ w65 wz)) (Keeps.refl w65) (fun wz hx => K64.trans hx (fun i _ h => h) (fun _ _ h => h)) ?_
 clear K64
 refine Dr.takes (fuel' := 8) (is' := [45, 44, 43, 42, 41, 40, 39, 38, 37, 36, 35, 34, 33, 31, 32, 30, 29, 28, 27, 21, 26, 25, 24, 23, 22, 20, 19, 18, 17, 16, 12, 15, 14, 13, 11, 10, 9, 8, 7, 6, 5, 4, 3, 2, 1, 0]) [43, 44, 45] [(0, (ptr b)), (1, (ptr r)), (6, (ptr b7)), (11, (Value.slice A17 ((rowsS S o.slot).length) c18)), (80, (Value.bool (!t62)))] (by kernel_rfl) rfl (by kernel_rfl) ?_
 have h66 : (!t62) = false := by rw [show t62 = true from ht63.2 rfl]; rfl
 rw [h66]
 refine Dr.takes (fuel' := 6) (is' := [49, 46, 45, 44, 43, 42, 41, 40, 39, 38, 37, 36, 35, 34, 33, 31, 32, 30, 29, 28, 27, 21, 26, 25, 24, 23, 22, 20, 19, 18, 17, 16, 12, 15, 14, 13, 11, 10, 9, 8, 7, 6, 5, 4, 3, 2, 1, 0]) [46, 49] [(0, (ptr b)), (1, (ptr r)), (6, (ptr b7)), (11, (Value.slice A17 ((rowsS S o.slot).length) c18)), (80, (Value.bool false)), (81, (ptr b)), (84, (ptr r))] (by kernel_rfl) rfl (by kernel_rfl) ?_
 refine Dr.call (i := 47) (by kernel_rfl) (by kernel_rfl) (d := (some 82)) (by kernel_rfl) (fun _ => Bytes_calls _ b mb m S Hb Hm (by omega) hB) ?_
 rintro _ w68 ⟨v67, rfl, K69, hO70⟩
 have ob72 : ∀ i, (v67).ownBlock = some i → i ≠ b := fun i hi => by have := (World.ownsRow.lt hO70 i hi).1; have := Hb.lt; omega
 have ob73 : ∀ i, (v67).ownBlock = some i → i ≠ mb := fun i hi => by have := (World.ownsRow.lt hO70 i hi).1; have := Hm.lt; omega
 have ob74 : ∀ i, (v67).ownBlock = some i → i ≠ r := fun i hi => by have := (World.ownsRow.lt hO70 i hi).1; have := Hr.lt; omega
 have ob75 : ∀ i, (v67).ownBlock = some i → i ≠ b1 := fun i hi => by have := (World.ownsRow.lt hO70 i hi).1; have := H4.lt; omega
 have ob76 : ∀ i, (v67).ownBlock = some i → i ≠ b7 := fun i hi => by have := (World.ownsRow.lt hO70 i hi).1; have := H10.lt; omega
 have oo77 : ∀ i, ((Value.slice A17 ((rowsS S o.slot).length) c18)).ownBlock = some i → (v67).ownBlock = some i → False := fun i hi hs => by have := (World.ownsRow.lt hO70 i hs).1; have := (World.ownsRow.lt O22 i hi).2; omega
 have oo78 : ∀ i, (v67).ownBlock = some i → ((Value.slice A17 ((rowsS S o.slot).length) c18)).ownBlock = some i → False := fun i hi hs => oo77 i hs hi
 have oo79 : ∀ i, ((Value.slice A47 ((rowsS S o.slot).length) c48)).ownBlock = some i → (v67).ownBlock = some i → False := fun i hi hs => by have := (World.ownsRow.lt hO70 i hs).1; have := (World.ownsRow.lt O52 i hi).2; omega
 have oo80 : ∀ i, (v67).ownBlock = some i → ((Value.slice A47 ((rowsS S o.slot).length) c48)).ownBlock = some i → False := fun i hi hs => oo79 i hs hi
 have O71 := own_base hO70 K0.size
 clear hO70
 replace K0 := K0.t0 K69
 replace Hb := Hb.keep K69 (fun h => h)
 replace Hm := Hm.keep K69 (fun h => h)
 replace Hr := Hr.keep K69 (fun h => h)
 replace H4 := H4.keep K69 (fun h => h)
 replace H10 := H10.keep K69 (fun h => h)
 replace O22 := own_keep0 O22 K69
 replace O52 := own_keep0 O52 K69
 refine ⟨_, _, rfl, rfl, K69, ?_⟩
 refine Dr.strong (S' := (fun wz => Keeps none_ w68 wz)) (Keeps.refl w68) (fun wz hx => K69.trans hx (fun i _ h => h) (fun _ _ h => h)) ?_
 clear K69
 refine Dr.take (i := 48) (v := (Value.string (str (bookB S)))) (by kernel_rfl) (by kernel_rfl) (fun wz hS => Runs.b2s (s := 22) (d := 9) (e := 5) (by kernel_rfl) (by kernel_rfl) (by kernel_rfl) (Rd.keep0 (by omega) (OwnB.rd O71) hS)) (d := (some 83)) (by kernel_rfl) rfl ?_
 refine Dr.call (i := 50) (by kernel_rfl) (by kernel_rfl) (d := (some 85)) (by kernel_rfl) (fun _ => RBytes_calls _ r A c S Hr (Rd.keep0 (by decide) hR K0) hS) ?_
 rintro _ w82 ⟨v81, rfl, K83, hO84⟩
 have ob86 : ∀ i, (v81).ownBlock = some i → i ≠ b := fun i hi => by have := (World.ownsRow.lt hO84 i hi).1; have := Hb.lt; omega
 have ob87 : ∀ i, (v81).ownBlock = some i → i ≠ mb := fun i hi => by have := (World.ownsRow.lt hO84 i hi).1; have := Hm.lt; omega
 have ob88 : ∀ i, (v81).ownBlock = some i → i ≠ r := fun i hi => by have := (World.ownsRow.lt hO84 i hi).1; have := Hr.lt; omega
 have ob89 : ∀ i, (v81).ownBlock = some i → i ≠ b1 := fun i hi => by have := (World.ownsRow.lt hO84 i hi).1; have := H4.lt; omega
 have ob90 : ∀ i, (v81).ownBlock = some i → i ≠ b7 := fun i hi => by have := (World.ownsRow.lt hO84 i hi).1; have := H10.lt; omega
 have oo91 : ∀ i, ((Value.slice A17 ((rowsS S o.slot).length) c18)).ownBlock = some i → (v81).ownBlock = some i → False := fun i hi hs => by have := (World.ownsRow.lt hO84 i hs).1; have := (World.ownsRow.lt O22 i hi).2; omega
 have oo92 : ∀ i, (v81).ownBlock = some i → ((Value.slice A17 ((rowsS S o.slot).length) c18)).ownBlock = some i → False := fun i hi hs => oo91 i hs hi
 have oo93 : ∀ i, ((Value.slice A47 ((rowsS S o.slot).length) c48)).ownBlock = some i → (v81).ownBlock = some i → False := fun i hi hs => by have := (World.ownsRow.lt hO84 i hs).1; have := (World.ownsRow.lt O52 i hi).2; omega
 have oo94 : ∀ i, (v81).ownBlock = some i → ((Value.slice A47 ((rowsS S o.slot).length) c48)).ownBlock = some i → False := fun i hi hs => oo93 i hs hi
 have oo95 : ∀ i, (v67).ownBlock = some i → (v81).ownBlock = some i → False := fun i hi hs => by have := (World.ownsRow.lt hO84 i hs).1; have := (World.ownsRow.lt O71 i hi).2; omega
 have oo96 : ∀ i, (v81).ownBlock = some i → (v67).ownBlock = some i → False := fun i hi hs => oo95 i hs hi
 have O85 := own_base hO84 K0.size
 clear hO84
 replace K0 := K0.t0 K83
 replace Hb := Hb.keep K83 (fun h => h)
 replace Hm := Hm.keep K83 (fun h => h)
 replace Hr := Hr.keep K83 (fun h => h)
 replace H4 := H4.keep K83 (fun h => h)
 replace H10 := H10.keep K83 (fun h => h)
 replace O22 := own_keep0 O22 K83
 replace O52 := own_keep0 O52 K83
 replace O71 := own_keep0 O71 K83
 refine ⟨_, _, rfl, rfl, K83, ?_⟩
 refine Dr.strong (S' := (fun wz => Keeps none_ w82 wz)) (Keeps.refl w82) (fun wz hx => K83.trans hx (fun i _ h => h) (fun _ _ h => h)) ?_
 clear K83
 refine Dr.take (i := 51) (v := (Value.string (str (bookB S)))) (by kernel_rfl) (by kernel_rfl) (fun wz hS => Runs.b2s (s := 22) (d := 9) (e := 5) (by kernel_rfl) (by kernel_rfl) (by kernel_rfl) (Rd.keep0 (by omega) (OwnB.rd O85) hS)) (d := (some 86)) (by kernel_rfl) rfl ?_
 refine Dr.take (i := 52) (v := (Value.bool (!((bookB S) == (bookB S))))) (by kernel_rfl) (by kernel_rfl) (fun wz hS => Runs.strne (t := 9) (by kernel_rfl)) (d := (some 87)) (by kernel_rfl) rfl ?_
 refine Dr.takes (fuel' := 0) (is' := [53, 52, 51, 50, 48, 47, 49, 46, 45, 44, 43, 42, 41, 40, 39, 38, 37, 36, 35, 34, 33, 31, 32, 30, 29, 28, 27, 21, 26, 25, 24, 23, 22, 20, 19, 18, 17, 16, 12, 15, 14, 13, 11, 10, 9, 8, 7, 6, 5, 4, 3, 2, 1, 0]) [53] [(0, (ptr b)), (1, (ptr r)), (6, (ptr b7)), (11, (Value.slice A17 ((rowsS S o.slot).length) c18)), (88, (Value.bool (!((bookB S) == (bookB S)))))] (by kernel_rfl) rfl (by kernel_rfl) ?_
 refine Dr.done (by kernel_rfl) ?_
 have h97 : (!((bookB S) == (bookB S))) = false := by simp
 rw [h97]
 refine qr_else (o := .tmp 88) (by kernel_rfl) rfl ?_
 refine qr_skip (by kernel_rfl) ?_
 refine qr_seq (by kernel_rfl) ?_
 refine qr_seq (by kernel_rfl) ?_
 refine qr_region Open.wide (by kernel_rfl) (by kernel_rfl) ?_
 refine og 1 [(0, (ptr b)), (1, (ptr r)), (6, (ptr b7)), (11, (Value.slice A17 ((rowsS S o.slot).length) c18)), (12, (i64 0))] 1 ?_
 refine od ?_
 refine qr_block (id := 0) (by kernel_rfl) ?_
 refine qr_keep (R := [(0, (ptr b)), (1, (ptr r)), (6, (ptr b7)), (11, (Value.slice A17 ((rowsS S o.slot).length) c18)), (12, (i64 0))]) (by kernel_rfl) ?_
 refine qr_loop (fun (gs : Nat × (List RowM)) (ds : List Deferred) L (wx : World) => match gs with | (q, ys) => ds = [] ∧ L = [(0, (ptr b)), (1, (ptr r)), (6, (ptr b7)), (11, (Value.slice A17 ((rowsS S o.slot).length) c18)), (12, (i64 ((q : Nat) : Int)))] ∧ OwnR wx w.heap.size 52 (.slice A17 ys.length c18) ys ∧ (∀ i, ((Value.slice A17 ((rowsS S o.slot).length) c18)).ownBlock = some i → i ≠ b) ∧ (∀ i, ((Value.slice A17 ((rowsS S o.slot).length) c18)).ownBlock = some i → i ≠ mb) ∧ (∀ i, ((Value.slice A17 ((rowsS S o.slot).length) c18)).ownBlock = some i → i ≠ r) ∧ (∀ i, ((Value.slice A17 ((rowsS S o.slot).length) c18)).ownBlock = some i → i ≠ b1) ∧ (∀ i, ((Value.slice A17 ((rowsS S o.slot).length) c18)).ownBlock = some i → i ≠ b7) ∧ q ≤ (rowsS S o.slot).length ∧ ys.length = (rowsS S o.slot).length ∧ Keeps none_ w wx ∧ Has wx b (rowL [(Value.map (some mb))] 66) ∧ HasMap wx mb kstr accv m ∧ Has wx r (rowL [(Value.slice A S.length c)] 43) ∧ Has wx b1 (rowL [(i64 o.kind), (Value.string (str o.name)), (Value.string (str o.own)), (i64 o.n), (i64 o.slot)] 37) ∧ Has wx b7 (rowL [(Value.bool false)] 4)) (fun (gs : Nat × (List RowM)) => match gs with | (q, ys) => (rowsS S o.slot).length - q) (0, (rowsS S o.slot)) (by kernel_rfl) ⟨rfl, rfl, O22, ob23, ob24, ob25, ob26, ob27, Nat.zero_le _, rfl, K0, Hb, Hm, Hr, H4, H10⟩ ?_
 clear Hb Hm Hr H4 H10 O22 O52 O71 O85 K0
 rintro ⟨q, ys⟩ _ _ w98 ⟨rfl, rfl, hOV, obVb, obVmb, obVr, obVb1, obVb7, hq, hyl, K99, H100, H101, H102, H103, H104⟩
 refine qr_seq (by kernel_rfl) ?_
 refine qr_seq (by kernel_rfl) ?_
 refine qr_region Open.wide (by kernel_rfl) (by kernel_rfl) ?_
 refine og 4 [(0, (ptr b)), (1, (ptr r)), (6, (ptr b7)), (11, (Value.slice A17 ((rowsS S o.slot).length) c18)), (12, (i64 ((q : Nat) : Int))), (92, (Value.bool (decide (((q : Nat) : Int) < (((rowsS S o.slot).length : Nat) : Int)))))] 4 ?_
 refine od ?_
 refine qr_cond (o := .tmp 92) (b := (decide (((q : Nat) : Int) < (((rowsS S o.slot).length : Nat) : Int)))) (by kernel_rfl) rfl (fun h105 => ?_) (fun h105 => ?_)
 ·rw [h105]
  have p106 : ((q : Nat) : Int) < (((rowsS S o.slot).length : Nat) : Int) := of_decide_eq_true h105
  obtain ⟨y, hy⟩ : ∃ y, ys[q]? = some y := ⟨_, List.getElem?_eq_getElem (by omega)⟩
  obtain ⟨gb, cur, hA, hgb, Hg, hcl, hca, hput⟩ := OwnT.open RowM.two (by decide) hy hOV
  have ngb : w.heap.size ≤ gb := hgb
  have Hgl := Hg.lt
  have dgbb : gb ≠ b := obVb gb (by rw [hA]; rfl)
  have dgbmb : gb ≠ mb := obVmb gb (by rw [hA]; rfl)
  have dgbr : gb ≠ r := obVr gb (by rw [hA]; rfl)
  have dgbb1 : gb ≠ b1 := obVb1 gb (by rw [hA]; rfl)
  have dgbb7 : gb ≠ b7 := obVb7 gb (by rw [hA]; rfl)
  refine qr_skip (by kernel_rfl) ?_
  refine qr_seq (by kernel_rfl) ?_
  refine qr_block (id := 1) (by kernel_rfl) ?_
  refine qr_region Open.wide (by kernel_rfl) (by kernel_rfl) ?_
  refine og 2 [(0, (ptr b)), (1, (ptr r)), (6, (ptr b7)), (11, (Value.slice A17 ((rowsS S o.slot).length) c18)), (12, (i64 ((q : Nat) : Int))), (92, (Value.bool true)), (95, (Value.slice A17 ((rowsS S o.slot).length) c18)), (96, (i64 ((q : Nat) : Int)))] 2 ?_
  refine Ops.go (by kernel_rfl) (Runs.ixSliceE (k := IntKind.i64) (t := 75) (len := ((rowsS S o.slot).length)) (cap := c18) (s := 2) (off' := q * 2) (i := ((q : Nat) : Int)) hA (by kernel_rfl) (by kernel_rfl) (by omega) (by omega) (by omega)) (d := (some 97)) (by kernel_rfl) rfl ?_
  refine og 1 [(0, (ptr b)), (1, (ptr r)), (6, (ptr b7)), (11, (Value.slice A17 ((rowsS S o.slot).length) c18)), (12, (i64 ((q : Nat) : Int))), (92, (Value.bool true)), (98, (Value.pointer (some ⟨gb, q * 2 + 1, none⟩)))] 4 ?_
  refine Ops.put (t := 2) (b := gb) (off := q * 2 + 1) (v := (i64 99)) (ys := (cur.set (q * 2 + 1) (i64 99))) (by kernel_rfl) (by kernel_rfl) Hg (storeC1 (by kernel_rfl) rfl (by omega) rfl) (d := none) (by kernel_rfl) rfl (fun w107 H108 K109 => ?_)
  clear Hg
  replace K99 := K99.trans K109 (U := none_) (fun i h1 h2 => h2) (fun i h1 h2 => by have h2 : i = gb := h2; exfalso; omega)
  replace H100 := H100.keep K109 (by intro h; change b = gb at h; omega)
  replace H101 := H101.keep K109 (by intro h; change mb = gb at h; omega)
  replace H102 := H102.keep K109 (by intro h; change r = gb at h; omega)
  replace H103 := H103.keep K109 (by intro h; change b1 = gb at h; omega)
  replace H104 := H104.keep K109 (by intro h; change b7 = gb at h; omega)
  clear K109
  refine od ?_
  refine qr_region Open.wide (by kernel_rfl) (by kernel_rfl) ?_
  refine og 2 [(0, (ptr b)), (1, (ptr r)), (6, (ptr b7)), (11, (Value.slice A17 ((rowsS S o.slot).length) c18)), (12, (i64 ((q : Nat) : Int))), (92, (Value.bool true)), (94, (i64 (IntKind.i64.wrap (((q : Nat) : Int) + 1))))] 2 ?_
  have e110 : IntKind.i64.wrap (((q : Nat) : Int) + 1) = ((q + 1 : Nat) : Int) := by rw [wrap_i64 (by omega) (by omega)]; omega
  rw [e110]
  clear e110
  refine og 1 [(0, (ptr b)), (1, (ptr r)), (6, (ptr b7)), (11, (Value.slice A17 ((rowsS S o.slot).length) c18)), (12, (i64 ((q + 1 : Nat) : Int))), (92, (Value.bool true))] 3 ?_
  refine Ops.keep (R := [(0, (ptr b)), (1, (ptr r)), (6, (ptr b7)), (11, (Value.slice A17 ((rowsS S o.slot).length) c18)), (12, (i64 ((q + 1 : Nat) : Int)))]) (by kernel_rfl) ?_
  refine od ?_
  exact ⟨(q + 1, ys.set q ⟨y.name, 99⟩), ⟨rfl, rfl, (by rw [List.length_set]; exact hput 1 (i64 99) ⟨y.name, 99⟩ (by decide) rfl _ H108), obVb, obVmb, obVr, obVb1, obVb7, (by omega), (by rw [List.length_set]; exact hyl), K99, H100, H101, H102, H103, H104⟩, (show (rowsS S o.slot).length - (q + 1) < (rowsS S o.slot).length - q from by omega)⟩
 ·rw [h105]
  have p111 : ¬ (((q : Nat) : Int) < (((rowsS S o.slot).length : Nat) : Int)) := of_decide_eq_false h105
  refine qr_exit (id := 0) (by kernel_rfl) ?_
  refine qr_seq (by kernel_rfl) ?_
  refine qr_region Open.wide (by kernel_rfl) (by kernel_rfl) ?_
  refine og 1 [(0, (ptr b)), (6, (ptr b7)), (99, (ptr r))] 1 ?_
  refine Ops.call (by kernel_rfl) (d := (some 100)) (by kernel_rfl) (RRows_calls _ r A c S (-1) H102 (Rd.keep0 (by decide) hR K99) hS) ?_
  rintro _ w114 ⟨A112, c113, rfl, K115, hO116⟩
  have ob118 : ∀ i, ((Value.slice A112 ((rowsS S (-1)).length) c113)).ownBlock = some i → i ≠ b := fun i hi => by have := (World.ownsRow.lt hO116 i hi).1; have := H100.lt; omega
  have ob119 : ∀ i, ((Value.slice A112 ((rowsS S (-1)).length) c113)).ownBlock = some i → i ≠ mb := fun i hi => by have := (World.ownsRow.lt hO116 i hi).1; have := H101.lt; omega
  have ob120 : ∀ i, ((Value.slice A112 ((rowsS S (-1)).length) c113)).ownBlock = some i → i ≠ r := fun i hi => by have := (World.ownsRow.lt hO116 i hi).1; have := H102.lt; omega
  have ob121 : ∀ i, ((Value.slice A112 ((rowsS S (-1)).length) c113)).ownBlock = some i → i ≠ b1 := fun i hi => by have := (World.ownsRow.lt hO116 i hi).1; have := H103.lt; omega
  have ob122 : ∀ i, ((Value.slice A112 ((rowsS S (-1)).length) c113)).ownBlock = some i → i ≠ b7 := fun i hi => by have := (World.ownsRow.lt hO116 i hi).1; have := H104.lt; omega
  have O117 := own_base hO116 K99.size
  clear hO116
  have hl123 := rowsS_len S (-1)
  have hl124 := hS.len
  refine ⟨_, _, rfl, rfl, ?_⟩
  replace K99 := K99.trans K115 (U := none_) (fun i h1 h2 => h2) (fun i h1 h2 => by exact h2)
  replace H100 := H100.keep K115 (fun h => h)
  replace H101 := H101.keep K115 (fun h => h)
  replace H102 := H102.keep K115 (fun h => h)
  replace H103 := H103.keep K115 (fun h => h)
  replace H104 := H104.keep K115 (fun h => h)
  clear K115
  refine Ops.new (o := rowL [(Value.slice none 0 0)] 75) (V := fun b => (ptr b)) (by kernel_rfl) (d := (some 13)) (by kernel_rfl) (fun b => rfl) (fun b125 w126 hb127 H128 K129 hs130 => ?_)
  have lb125b : b < b125 := by have := H100.lt; omega
  have lb125mb : mb < b125 := by have := H101.lt; omega
  have lb125r : r < b125 := by have := H102.lt; omega
  have lb125b1 : b1 < b125 := by have := H103.lt; omega
  have lb125b7 : b7 < b125 := by have := H104.lt; omega
  have nb125 : w.heap.size ≤ b125 := by have := K99.size; omega
  have ob131 : ∀ i, ((Value.slice A112 ((rowsS S (-1)).length) c113)).ownBlock = some i → i < b125 := fun i hi => by have := (World.ownsRow.lt O117 i hi).2; omega
  replace K99 := K99.trans K129 (U := none_) (fun i h1 h2 => h2) (fun i h1 h2 => by exact h2)
  replace H100 := H100.keep K129 (fun h => h)
  replace H101 := H101.keep K129 (fun h => h)
  replace H102 := H102.keep K129 (fun h => h)
  replace H103 := H103.keep K129 (fun h => h)
  replace H104 := H104.keep K129 (fun h => h)
  replace O117 := own_keep0 O117 K129
  clear K129 hs130
  refine Ops.put (t := 75) (b := b125) (off := 0) (v := (Value.slice A112 ((rowsS S (-1)).length) c113)) (ys := [(Value.slice A112 ((rowsS S (-1)).length) c113)]) (by kernel_rfl) (by kernel_rfl) H128 (by kernel_rfl) (d := none) (by kernel_rfl) rfl (fun w132 H133 K134 => ?_)
  clear H128
  replace K99 := K99.trans K134 (U := none_) (fun i h1 h2 => h2) (fun i h1 h2 => by have h2 : i = b125 := h2; exfalso; omega)
  replace H100 := H100.keep K134 (by intro h; change b = b125 at h; omega)
  replace H101 := H101.keep K134 (by intro h; change mb = b125 at h; omega)
  replace H102 := H102.keep K134 (by intro h; change r = b125 at h; omega)
  replace H103 := H103.keep K134 (by intro h; change b1 = b125 at h; omega)
  replace H104 := H104.keep K134 (by intro h; change b7 = b125 at h; omega)
  replace O117 := own_keep O117 K134 (fun i hi hs => by have hs : i = b125 := hs; have := ob131 i hi; omega)
  clear K134
  refine od ?_
  refine qr_seq (by kernel_rfl) ?_
  refine qr_region Open.wide (by kernel_rfl) (by kernel_rfl) ?_
  refine og 1 [(0, (ptr b)), (6, (ptr b7)), (13, (ptr b125)), (101, (ptr b))] 1 ?_
  refine Ops.call (by kernel_rfl) (d := (some 102)) (by kernel_rfl) (Each_calls _ b mb m S H100 H101 (by omega) hB) ?_
  rintro _ w138 ⟨b135, A136, c137, rfl, K139, H140, hO141, nb143, hn144⟩
  have ob145 : ∀ i, ((Value.slice A136 ((rowsS S (-1)).length) c137)).ownBlock = some i → i ≠ b := fun i hi => by have := (World.ownsRow.lt hO141 i hi).1; have := H100.lt; omega
  have ob146 : ∀ i, ((Value.slice A136 ((rowsS S (-1)).length) c137)).ownBlock = some i → i ≠ mb := fun i hi => by have := (World.ownsRow.lt hO141 i hi).1; have := H101.lt; omega
  have ob147 : ∀ i, ((Value.slice A136 ((rowsS S (-1)).length) c137)).ownBlock = some i → i ≠ r := fun i hi => by have := (World.ownsRow.lt hO141 i hi).1; have := H102.lt; omega
  have ob148 : ∀ i, ((Value.slice A136 ((rowsS S (-1)).length) c137)).ownBlock = some i → i ≠ b1 := fun i hi => by have := (World.ownsRow.lt hO141 i hi).1; have := H103.lt; omega
  have ob149 : ∀ i, ((Value.slice A136 ((rowsS S (-1)).length) c137)).ownBlock = some i → i ≠ b7 := fun i hi => by have := (World.ownsRow.lt hO141 i hi).1; have := H104.lt; omega
  have ob150 : ∀ i, ((Value.slice A136 ((rowsS S (-1)).length) c137)).ownBlock = some i → i ≠ b125 := fun i hi => by have := (World.ownsRow.lt hO141 i hi).1; have := H133.lt; omega
  have oo151 : ∀ i, ((Value.slice A112 ((rowsS S (-1)).length) c113)).ownBlock = some i → ((Value.slice A136 ((rowsS S (-1)).length) c137)).ownBlock = some i → False := fun i hi hs => by have := (World.ownsRow.lt hO141 i hs).1; have := (World.ownsRow.lt O117 i hi).2; omega
  have oo152 : ∀ i, ((Value.slice A136 ((rowsS S (-1)).length) c137)).ownBlock = some i → ((Value.slice A112 ((rowsS S (-1)).length) c113)).ownBlock = some i → False := fun i hi hs => oo151 i hs hi
  have O142 := own_base hO141 K99.size
  clear hO141
  have lb135b : b < b135 := by have := H100.lt; omega
  have lb135mb : mb < b135 := by have := H101.lt; omega
  have lb135r : r < b135 := by have := H102.lt; omega
  have lb135b1 : b1 < b135 := by have := H103.lt; omega
  have lb135b7 : b7 < b135 := by have := H104.lt; omega
  have lb135b125 : b125 < b135 := by have := H133.lt; omega
  have nb135 : w.heap.size ≤ b135 := by have := K99.size; omega
  have ob153 : ∀ i, ((Value.slice A112 ((rowsS S (-1)).length) c113)).ownBlock = some i → i ≠ b135 := fun i hi => by have := (World.ownsRow.lt O117 i hi).2; omega
  refine ⟨_, _, rfl, rfl, ?_⟩
  replace K99 := K99.trans K139 (U := none_) (fun i h1 h2 => h2) (fun i h1 h2 => by exact h2)
  replace H100 := H100.keep K139 (fun h => h)
  replace H101 := H101.keep K139 (fun h => h)
  replace H102 := H102.keep K139 (fun h => h)
  replace H103 := H103.keep K139 (fun h => h)
  replace H104 := H104.keep K139 (fun h => h)
  replace H133 := H133.keep K139 (fun h => h)
  replace O117 := own_keep0 O117 K139
  clear K139
  refine og 1 [(0, (ptr b)), (6, (ptr b7)), (13, (ptr b125)), (14, (Value.func (Fn.func 96) ⟨[]⟩ ⟨[(ptr b135)]⟩))] 3 ?_
  refine od ?_
  refine qr_seq (by kernel_rfl) ?_
  refine qr_seq (by kernel_rfl) ?_
  refine qr_region Open.wide (by kernel_rfl) (by kernel_rfl) ?_
  refine og 2 [(0, (ptr b)), (6, (ptr b7)), (13, (ptr b125)), (14, (Value.func (Fn.func 96) ⟨[]⟩ ⟨[(ptr b135)]⟩)), (104, (Value.bool false))] 2 ?_
  refine od ?_
  refine qr_else (o := .tmp 104) (by kernel_rfl) rfl ?_
  refine qr_skip (by kernel_rfl) ?_
  refine qr_seq (by kernel_rfl) ?_
  refine qr_region Open.wide (by kernel_rfl) (by kernel_rfl) ?_
  refine Ops.new (o := rowL [(i64 0)] 3) (V := fun b => (ptr b)) (by kernel_rfl) (d := (some 15)) (by kernel_rfl) (fun b => rfl) (fun b154 w155 hb156 H157 K158 hs159 => ?_)
  have lb154b : b < b154 := by have := H100.lt; omega
  have lb154mb : mb < b154 := by have := H101.lt; omega
  have lb154r : r < b154 := by have := H102.lt; omega
  have lb154b1 : b1 < b154 := by have := H103.lt; omega
  have lb154b7 : b7 < b154 := by have := H104.lt; omega
  have lb154b125 : b125 < b154 := by have := H133.lt; omega
  have lb154b135 : b135 < b154 := by have := H140.lt; omega
  have nb154 : w.heap.size ≤ b154 := by have := K99.size; omega
  have ob160 : ∀ i, ((Value.slice A112 ((rowsS S (-1)).length) c113)).ownBlock = some i → i < b154 := fun i hi => by have := (World.ownsRow.lt O117 i hi).2; omega
  have ob161 : ∀ i, ((Value.slice A136 ((rowsS S (-1)).length) c137)).ownBlock = some i → i < b154 := fun i hi => by have := (World.ownsRow.lt O142 i hi).2; omega
  replace K99 := K99.trans K158 (U := none_) (fun i h1 h2 => h2) (fun i h1 h2 => by exact h2)
  replace H100 := H100.keep K158 (fun h => h)
  replace H101 := H101.keep K158 (fun h => h)
  replace H102 := H102.keep K158 (fun h => h)
  replace H103 := H103.keep K158 (fun h => h)
  replace H104 := H104.keep K158 (fun h => h)
  replace H133 := H133.keep K158 (fun h => h)
  replace H140 := H140.keep K158 (fun h => h)
  replace O117 := own_keep0 O117 K158
  replace O142 := own_keep0 O142 K158
  clear K158 hs159
  refine Ops.put (t := 3) (b := b154) (off := 0) (v := (i64 0)) (ys := [(i64 0)]) (by kernel_rfl) (by kernel_rfl) H157 (by kernel_rfl) (d := none) (by kernel_rfl) rfl (fun w162 H163 K164 => ?_)
  clear H157
  replace K99 := K99.trans K164 (U := none_) (fun i h1 h2 => h2) (fun i h1 h2 => by have h2 : i = b154 := h2; exfalso; omega)
  replace H100 := H100.keep K164 (by intro h; change b = b154 at h; omega)
  replace H101 := H101.keep K164 (by intro h; change mb = b154 at h; omega)
  replace H102 := H102.keep K164 (by intro h; change r = b154 at h; omega)
  replace H103 := H103.keep K164 (by intro h; change b1 = b154 at h; omega)
  replace H104 := H104.keep K164 (by intro h; change b7 = b154 at h; omega)
  replace H133 := H133.keep K164 (by intro h; change b125 = b154 at h; omega)
  replace H140 := H140.keep K164 (by intro h; change b135 = b154 at h; omega)
  replace O117 := own_keep O117 K164 (fun i hi hs => by have hs : i = b154 := hs; have := ob160 i hi; omega)
  replace O142 := own_keep O142 K164 (fun i hi hs => by have hs : i = b154 := hs; have := ob161 i hi; omega)
  clear K164
  refine od ?_
  refine qr_seq (by kernel_rfl) ?_
  refine qr_seq (by kernel_rfl) ?_
  refine qr_region Open.wide (by kernel_rfl) (by kernel_rfl) ?_
  refine og 1 [(0, (ptr b)), (6, (ptr b7)), (13, (ptr b125)), (15, (ptr b154)), (105, (Value.func (Fn.func 96) ⟨[]⟩ ⟨[(ptr b135)]⟩))] 1 ?_
  refine od ?_
  refine qr_block (id := 2) (by kernel_rfl) ?_
  have zb := H100.lt
  have zmb := H101.lt
  have zr := H102.lt
  have zb1 := H103.lt
  have zb7 := H104.lt
  have zb125 := H133.lt
  have zb135 := H140.lt
  have zb154 := H163.lt
  have hnE : ∀ i, ((Value.slice A136 ((rowsS S (-1)).length) c137)).ownBlock = some i → i ≠ b154 := fun i hi => by have := ob161 i hi; omega
  have hn2 : ∀ i, ((Value.slice A112 ((rowsS S (-1)).length) c113)).ownBlock = some i → i ≠ b154 := fun i hi => by have := ob160 i hi; omega
  refine qr_keep (R := [(0, (ptr b)), (6, (ptr b7)), (13, (ptr b125)), (15, (ptr b154)), (105, (Value.func (Fn.func 96) ⟨[]⟩ ⟨[(ptr b135)]⟩))]) (by kernel_rfl) ?_
  refine qr_eachM (g := .tmp 105) (ts := [106]) (m := 11) (enc := fun x : RowM => [agg x.cells]) (S := fun all => all = (rowsS S (-1))) (w0 := w162) (T := fun i => i = b154 ∨ w162.heap.size ≤ i) (by kernel_rfl) (by decide) (gf := 96) (lb := [ptr b135]) rfl (enters Tryz.func96 (by kernel_rfl) (by kernel_rfl))
   (SValues1_tells w162 9 b135 A136 c137 (rowsS S (-1)) _ H140 (by intro h; change b135 = b154 ∨ w162.heap.size ≤ b135 at h; omega) (OwnT.rd O142) (fun i hi h => by have q1 := hnE i hi; have q2 := (World.ownsRow.lt O142 i hi).2; have h : i = b154 ∨ w162.heap.size ≤ i := h; omega))
   (fun i h => .inr h) ((Keeps.refl _).mono (fun _ _ h => h.elim)) (fun pre W => Has W b154 (rowL [(i64 ((pre.length : Nat) : Int))] 3) ∧ Keeps (fun i => i = b154) w162 W)
   (fun k W1 W2 h lo => ⟨lo.has h.1, h.2.trans lo.keeps (fun _ _ h => h) (fun i hi h => by have h : w162.heap.size ≤ i := h; omega)⟩) ⟨H163, (Keeps.refl _).mono (fun _ _ h => h.elim)⟩
   (fun x => (106, agg x.cells) :: [(0, (ptr b)), (6, (ptr b7)), (13, (ptr b125)), (15, (ptr b154)), (105, (Value.func (Fn.func 96) ⟨[]⟩ ⟨[(ptr b135)]⟩))]) (fun x => rfl)
   (fun x L W1 => ∃ b16, L = [(6, ptr b7), (13, ptr b125), (15, ptr b154), (16, ptr b16)] ∧ w162.heap.size ≤ b16 ∧ Has W1 b16 (rowL x.cells 52)) (fun x L W1 W2 h lo => let ⟨b16, h1, h2, h3⟩ := h; ⟨b16, h1, h2, lo.has h3⟩) ?_ ?_ ?_
  ·rintro ln pre x W1 hlt ⟨h3, hk⟩ hp
   refine qr_region (Open.round ln) (by kernel_rfl) (by kernel_rfl) ?_
   refine Ops.new (o := rowL [.string ByteArray.empty, i64 0] 52) (V := fun b => ptr b) (by kernel_rfl) (d := some 16) (by kernel_rfl) (fun b => rfl) (fun b w3 hb H3 k3 hs3 => ?_)
   refine Ops.put (t := 52) (b := b) (off := 0) (v := agg x.cells) (ys := x.cells) (by kernel_rfl) (by kernel_rfl) H3 (by kernel_rfl) (d := none) (by kernel_rfl) rfl (fun w4 H4 k4 => ?_)
   refine Ops.keep (R := [(6, ptr b7), (13, ptr b125), (15, ptr b154), (16, ptr b)]) (by kernel_rfl) ?_
   refine od ?_
   exact ⟨rfl, rfl, k3.trans k4 (fun _ _ h => h) (fun i hi h => by have h : i = b := h; omega), b, rfl, by have := hk.size; omega, H4⟩
  ·rintro ln pre x _ W1 ⟨h3, hk⟩ ⟨post, hp⟩ ⟨b16, rfl, hb4, h4⟩
   have hx : ((rowsS S (-1)))[pre.length]? = some x := by rw [← hp]; simp
   refine qr_mono (alike_body W1 ln b7 b125 b154 b16 pre.length A112 c113 (rowsS S (-1)) x (H133.keep hk (by intro h; change b125 = b154 at h; omega)) h3 h4 (OwnT.rd (own_keep O117 hk (fun i hi h => by have h : i = b154 := h; exact hn2 i hi h))) hn2 hx (by omega)) ?_
   rintro ds e L W2 ⟨rfl, k2, h2⟩
   exact ⟨rfl, keepsFrom_of k2 (fun i hi hB => by exfalso; have hi : i = b154 := hi; omega), k2.mono (fun i _ h => .inl h), by rw [List.length_append]; exact h2, hk.trans k2 (fun _ _ h => h) (fun i _ h => h)⟩
  ·rintro D all W hDw hall ⟨h3, hk⟩ hD
   rw [hall] at h3
   have K165 : Keeps none_ w W := K99.trans hk (U := none_) (fun _ _ h => h) (fun i hi h => by have h : i = b154 := h; have := nb154; omega)
   have H166 := H100.keep hk (by intro h; change b = b154 at h; omega)
   have H167 := H101.keep hk (by intro h; change mb = b154 at h; omega)
   have H168 := H102.keep hk (by intro h; change r = b154 at h; omega)
   have H169 := H103.keep hk (by intro h; change b1 = b154 at h; omega)
   have H170 := H104.keep hk (by intro h; change b7 = b154 at h; omega)
   have H171 := H133.keep hk (by intro h; change b125 = b154 at h; omega)
   have H172 := H140.keep hk (by intro h; change b135 = b154 at h; omega)
   have F173 := own_keep O117 hk (fun i hi h => by have h : i = b154 := h; exact hn2 i hi h)
   clear H100 H101 H102 H103 H104 H133 H140 H163 K99
   have hbD : b < D ∧ mb < D ∧ r < D ∧ b1 < D ∧ b7 < D ∧ b125 < D ∧ b135 < D ∧ b154 < D := by omega
   have hwD : w.heap.size ≤ D := by have := K165.size; omega
   have hD1 : Has W D (.deferred (some [])) := hD
   clear hD
   refine qr_seq (by kernel_rfl) ?_
   refine qr_draw Open.wide (fun wz => Keeps (fun i => i = b7) W wz) 11 (by kernel_rfl) (by kernel_rfl) (by kernel_rfl) (by kernel_rfl) (fun w174 K175 _ _ => ⟨(K175.mono (fun _ _ h => h.elim)), ?_⟩)
   replace K165 := K165.trans K175 (U := none_) (fun i h1 h2 => h2) (fun i h1 h2 => by exact h2)
   replace H166 := H166.keep K175 (fun h => h)
   replace H167 := H167.keep K175 (fun h => h)
   replace H168 := H168.keep K175 (fun h => h)
   replace H169 := H169.keep K175 (fun h => h)
   replace H170 := H170.keep K175 (fun h => h)
   replace H171 := H171.keep K175 (fun h => h)
   replace H172 := H172.keep K175 (fun h => h)
   replace h3 := h3.keep K175 (fun h => h)
   replace hD1 := hD1.keep K175 (fun h => h)
   replace F173 := own_keep0 F173 K175
   refine Dr.strong (S' := (fun wz => Keeps (fun i => i = b7) w174 wz)) ((Keeps.refl w174).mono (fun _ _ h => h.elim)) (fun wz hx => K175.trans hx (fun i _ h => h.elim) (fun _ _ h => h)) ?_
   clear K175
   refine Dr.take (i := 0) (v := (i64 (((rowsS S (-1)).length : Nat) : Int))) (by kernel_rfl) (by kernel_rfl) (fun wz hS => Runs.load (t := 3) (a := ⟨b154, 0, none⟩) (by kernel_rfl) ((h3.keep hS (by intro h; change b154 = b7 at h; omega)).loads (by kernel_rfl))) (d := (some 121)) (by kernel_rfl) rfl ?_
   refine Dr.take (i := 1) (v := (Value.slice A112 ((rowsS S (-1)).length) c113)) (by kernel_rfl) (by kernel_rfl) (fun wz hS => Runs.load (t := 75) (a := ⟨b125, 0, none⟩) (by kernel_rfl) ((H171.keep hS (by intro h; change b125 = b7 at h; omega)).loads (by kernel_rfl))) (d := (some 122)) (by kernel_rfl) rfl ?_
   refine Dr.takes (fuel' := 6) (is' := [4, 3, 2, 1, 0]) [2, 3, 4] [(0, (ptr b)), (6, (ptr b7)), (13, (ptr b125)), (125, (Value.bool ((((rowsS S (-1)).length : Nat) : Int) == (((rowsS S (-1)).length : Nat) : Int))))] (by kernel_rfl) rfl (by kernel_rfl) ?_
   have h176 : ((((rowsS S (-1)).length : Nat) : Int) == (((rowsS S (-1)).length : Nat) : Int)) = true := by simp
   rw [h176]
   refine Dr.takes (fuel' := 5) (is' := [5, 4, 3, 2, 1, 0]) [5] [(6, (ptr b7)), (13, (ptr b125)), (125, (Value.bool true)), (126, (ptr b))] (by kernel_rfl) rfl (by kernel_rfl) ?_
   refine Dr.take (i := 7) (v := (Value.slice A112 ((rowsS S (-1)).length) c113)) (by kernel_rfl) (by kernel_rfl) (fun wz hS => Runs.load (t := 75) (a := ⟨b125, 0, none⟩) (by kernel_rfl) ((H171.keep hS (by intro h; change b125 = b7 at h; omega)).loads (by kernel_rfl))) (d := (some 128)) (by kernel_rfl) rfl ?_
   refine Dr.call (i := 6) (by kernel_rfl) (by kernel_rfl) (d := (some 127)) (by kernel_rfl) (fun _ => Rows_calls _ b mb m S (-1) H166 H167 (by omega) hB) ?_
   rintro _ w179 ⟨A177, c178, rfl, K180, hO181⟩
   have ob183 : ∀ i, ((Value.slice A177 ((rowsS S (-1)).length) c178)).ownBlock = some i → i ≠ b := fun i hi => by have := (World.ownsRow.lt hO181 i hi).1; have := H166.lt; omega
   have ob184 : ∀ i, ((Value.slice A177 ((rowsS S (-1)).length) c178)).ownBlock = some i → i ≠ mb := fun i hi => by have := (World.ownsRow.lt hO181 i hi).1; have := H167.lt; omega
   have ob185 : ∀ i, ((Value.slice A177 ((rowsS S (-1)).length) c178)).ownBlock = some i → i ≠ r := fun i hi => by have := (World.ownsRow.lt hO181 i hi).1; have := H168.lt; omega
   have ob186 : ∀ i, ((Value.slice A177 ((rowsS S (-1)).length) c178)).ownBlock = some i → i ≠ b1 := fun i hi => by have := (World.ownsRow.lt hO181 i hi).1; have := H169.lt; omega
   have ob187 : ∀ i, ((Value.slice A177 ((rowsS S (-1)).length) c178)).ownBlock = some i → i ≠ b7 := fun i hi => by have := (World.ownsRow.lt hO181 i hi).1; have := H170.lt; omega
   have ob188 : ∀ i, ((Value.slice A177 ((rowsS S (-1)).length) c178)).ownBlock = some i → i ≠ b125 := fun i hi => by have := (World.ownsRow.lt hO181 i hi).1; have := H171.lt; omega
   have ob189 : ∀ i, ((Value.slice A177 ((rowsS S (-1)).length) c178)).ownBlock = some i → i ≠ b135 := fun i hi => by have := (World.ownsRow.lt hO181 i hi).1; have := H172.lt; omega
   have ob190 : ∀ i, ((Value.slice A177 ((rowsS S (-1)).length) c178)).ownBlock = some i → i ≠ b154 := fun i hi => by have := (World.ownsRow.lt hO181 i hi).1; have := h3.lt; omega
   have ob191 : ∀ i, ((Value.slice A177 ((rowsS S (-1)).length) c178)).ownBlock = some i → i ≠ D := fun i hi => by have := (World.ownsRow.lt hO181 i hi).1; have := hD1.lt; omega
   have oo192 : ∀ i, ((Value.slice A112 ((rowsS S (-1)).length) c113)).ownBlock = some i → ((Value.slice A177 ((rowsS S (-1)).length) c178)).ownBlock = some i → False := fun i hi hs => by have := (World.ownsRow.lt hO181 i hs).1; have := (World.ownsRow.lt F173 i hi).2; omega
   have oo193 : ∀ i, ((Value.slice A177 ((rowsS S (-1)).length) c178)).ownBlock = some i → ((Value.slice A112 ((rowsS S (-1)).length) c113)).ownBlock = some i → False := fun i hi hs => oo192 i hs hi
   have O182 := own_base hO181 K165.size
   clear hO181
   have hl194 := rowsS_len S (-1)
   have hl195 := hB.accs.len
   replace K165 := K165.trans K180 (U := none_) (fun i h1 h2 => h2) (fun i h1 h2 => by exact h2)
   replace H166 := H166.keep K180 (fun h => h)
   replace H167 := H167.keep K180 (fun h => h)
   replace H168 := H168.keep K180 (fun h => h)
   replace H169 := H169.keep K180 (fun h => h)
   replace H170 := H170.keep K180 (fun h => h)
   replace H171 := H171.keep K180 (fun h => h)
   replace H172 := H172.keep K180 (fun h => h)
   replace h3 := h3.keep K180 (fun h => h)
   replace hD1 := hD1.keep K180 (fun h => h)
   replace F173 := own_keep0 F173 K180
   refine ⟨_, _, rfl, rfl, (K180.mono (fun _ _ h => h.elim)), ?_⟩
   refine Dr.strong (S' := (fun wz => Keeps (fun i => i = b7) w179 wz)) ((Keeps.refl w179).mono (fun _ _ h => h.elim)) (fun wz hx => K180.trans hx (fun i _ h => h.elim) (fun _ _ h => h)) ?_
   clear K180
   refine Dr.call (i := 8) (by kernel_rfl) (by kernel_rfl) (d := (some 129)) (by kernel_rfl) (fun _ => SameRows_calls _ A177 c178 (rowsS S (-1)) A112 c113 (rowsS S (-1)) (OwnT.rd O182) (OwnT.rd F173)) ?_
   rintro _ w199 ⟨t196, rfl, ht197, K198⟩
   replace K165 := K165.trans K198 (U := none_) (fun i h1 h2 => h2) (fun i h1 h2 => by exact h2)
   replace H166 := H166.keep K198 (fun h => h)
   replace H167 := H167.keep K198 (fun h => h)
   replace H168 := H168.keep K198 (fun h => h)
   replace H169 := H169.keep K198 (fun h => h)
   replace H170 := H170.keep K198 (fun h => h)
   replace H171 := H171.keep K198 (fun h => h)
   replace H172 := H172.keep K198 (fun h => h)
   replace h3 := h3.keep K198 (fun h => h)
   replace hD1 := hD1.keep K198 (fun h => h)
   replace F173 := own_keep0 F173 K198
   replace O182 := own_keep0 O182 K198
   refine ⟨_, _, rfl, rfl, (K198.mono (fun _ _ h => h.elim)), ?_⟩
   refine Dr.strong (S' := (fun wz => Keeps (fun i => i = b7) w199 wz)) ((Keeps.refl w199).mono (fun _ _ h => h.elim)) (fun wz hx => K198.trans hx (fun i _ h => h.elim) (fun _ _ h => h)) ?_
   clear K198
   refine Dr.takes (fuel' := 1) (is' := [9, 8, 6, 7, 5, 4, 3, 2, 1, 0]) [9] [(6, (ptr b7)), (130, (Value.bool t196))] (by kernel_rfl) rfl (by kernel_rfl) ?_
   refine Dr.put (i := 10) (t := 4) (b := b7) (off := 0) (v := (Value.bool t196)) (ys := [(Value.bool t196)]) (by kernel_rfl) (by kernel_rfl) (by kernel_rfl) H170 (by kernel_rfl) (d := none) (by kernel_rfl) rfl (fun w200 H201 K202 => ?_)
   clear H170
   replace K165 := K165.trans K202 (U := none_) (fun i h1 h2 => h2) (fun i h1 h2 => by have h2 : i = b7 := h2; exfalso; omega)
   replace H166 := H166.keep K202 (by intro h; change b = b7 at h; omega)
   replace H167 := H167.keep K202 (by intro h; change mb = b7 at h; omega)
   replace H168 := H168.keep K202 (by intro h; change r = b7 at h; omega)
   replace H169 := H169.keep K202 (by intro h; change b1 = b7 at h; omega)
   replace H171 := H171.keep K202 (by intro h; change b125 = b7 at h; omega)
   replace H172 := H172.keep K202 (by intro h; change b135 = b7 at h; omega)
   replace h3 := h3.keep K202 (by intro h; change b154 = b7 at h; omega)
   replace hD1 := hD1.keep K202 (by intro h; change D = b7 at h; omega)
   replace F173 := own_keep F173 K202 (fun i hi hs => by have hs : i = b7 := hs; have := ob122 i hi; omega)
   replace O182 := own_keep O182 K202 (fun i hi hs => by have hs : i = b7 := hs; have := ob187 i hi; omega)
   refine ⟨K202, ?_⟩
   refine Dr.strong (S' := (fun wz => Keeps (fun i => i = b7) w200 wz)) ((Keeps.refl w200).mono (fun _ _ h => h.elim)) (fun wz hx => K202.trans hx (fun i _ h => by have h : i = b7 := h; show i = b7; omega) (fun _ _ h => h)) ?_
   clear K202
   refine Dr.done (by kernel_rfl) ?_
   refine qr_ret (by kernel_rfl) ?_
   refine retR_one (D := D) hD1 (v := (Value.bool t196)) (retv_cell rfl rfl (((Loose.put (B := D) (.deferred none) (Nat.le_refl _) hD1 rfl).has H201).loads (by kernel_rfl))) ?_
   exact ⟨by rw [ht197.2 rfl], (K165.trans (Loose.put (B := D) (.deferred none) (Nat.le_refl _) hD1 rfl).keeps (fun _ _ h => h) (fun i hi h => by have h : D ≤ i := h; omega))⟩
end Go.Proofs.YtooginpgclcldaaGreatDoor
namespace Go.Proofs.YtooginpgclcldaaGreatDoor
open Go.Q Go.RowKit

theorem scan_calls (w : World) (A : Option Addr) (c : Nat) (bs : List UInt8) (hv : RdB w (.slice A bs.length c) bs) (hl : bs.length ≤ 140737488351232) : Calls Tryz.prog 83 ⟨[(Value.slice A bs.length c)]⟩ w (fun e w' => e = .returned (.tuple #[.int .u64 (((scanB bs).1 : Nat) : Int), i64 (((scanB bs).2.1 : Nat) : Int), i64 (scanB bs).2.2]) ∧ Keeps none_ w w') := by
 have K0 : Keeps none_ w w := Keeps.refl w
 refine q_calls Tryz.func83 (by kernel_rfl) (by kernel_rfl) ?_
 refine qs ?_
 refine qg ?_
 refine og 3 [(0, (Value.slice A bs.length c)), (2, (Value.int IntKind.u64 0)), (3, (i64 0)), (4, (i64 0))] 3 ?_
 refine od ?_
 refine q_scope (by kernel_rfl) ?_
 refine qs ?_
 refine qg ?_
 refine og 2 [(0, (Value.slice A bs.length c)), (2, (Value.int IntKind.u64 0)), (3, (i64 0)), (4, (i64 0)), (5, (Value.int IntKind.u64 0)), (6, (i64 10))] 2 ?_
 refine od ?_
 refine qs ?_
 refine qg ?_
 refine og 1 [(0, (Value.slice A bs.length c)), (2, (Value.int IntKind.u64 0)), (3, (i64 0)), (4, (i64 0)), (5, (Value.int IntKind.u64 0)), (6, (i64 10)), (7, (i64 0))] 1 ?_
 refine od ?_
 refine qs ?_
 refine q_label (by kernel_rfl) ?_
 refine qs ?_
 refine qs ?_
 refine qg ?_
 refine og 3 [(2, (Value.int IntKind.u64 0)), (3, (i64 0)), (4, (i64 0)), (5, (Value.int IntKind.u64 0)), (6, (i64 10)), (7, (i64 0)), (10, (Value.slice A bs.length c)), (11, (i64 ((bs.length : Nat) : Int))), (12, (i64 0))] 3 ?_
 refine od ?_
 refine q_block (id := 0) (by kernel_rfl) ?_
 refine q_keep (R := [(2, (Value.int IntKind.u64 0)), (3, (i64 0)), (4, (i64 0)), (5, (Value.int IntKind.u64 0)), (6, (i64 10)), (7, (i64 0)), (10, (Value.slice A bs.length c)), (11, (i64 ((bs.length : Nat) : Int))), (12, (i64 0))]) (by kernel_rfl) ?_
 refine q_loop (fun (gs : Nat × Nat) L (wx : World) => match gs with | (i, n) => L = [(2, (Value.int IntKind.u64 0)), (3, (i64 0)), (4, (i64 0)), (5, (Value.int IntKind.u64 ((n : Nat) : Int))), (6, (i64 10)), (7, (i64 0)), (10, (Value.slice A bs.length c)), (11, (i64 ((bs.length : Nat) : Int))), (12, (i64 ((i : Nat) : Int)))] ∧ scanA (bs.drop i) i n = scanB bs ∧ i ≤ 9 ∧ i ≤ bs.length ∧ n < p7 i ∧ Keeps none_ w wx) (fun (gs : Nat × Nat) => match gs with | (i, n) => bs.length - i) (0, 0) (by kernel_rfl) ⟨rfl, rfl, (by omega), (by omega), (p7_pos 0), K0⟩ ?_
 clear K0
 rintro ⟨i, n⟩ _ w1 ⟨rfl, hE, hi, hil, hn, K2⟩
 refine qs ?_
 refine qg ?_
 refine og 1 [(2, (Value.int IntKind.u64 0)), (3, (i64 0)), (4, (i64 0)), (5, (Value.int IntKind.u64 ((n : Nat) : Int))), (6, (i64 10)), (7, (i64 0)), (10, (Value.slice A bs.length c)), (11, (i64 ((bs.length : Nat) : Int))), (12, (i64 ((i : Nat) : Int))), (13, (Value.bool (decide (((i : Nat) : Int) < ((bs.length : Nat) : Int)))))] 1 ?_
 refine od ?_
 refine qs ?_
 refine q_cond (o := .tmp 13) (b := (decide (((i : Nat) : Int) < ((bs.length : Nat) : Int)))) (by kernel_rfl) rfl (fun h3 => ?_) (fun h3 => ?_)
 ·rw [h3]
  have p4 : ((i : Nat) : Int) < ((bs.length : Nat) : Int) := of_decide_eq_true h3
  obtain ⟨x, lb, lo, hx, hA, hLd⟩ := RdB.at (P := Tryz.prog) (t := 5) hv (k := i) (by kernel_rfl) (by omega)
  have hx256 : x.toNat < 256 := x.toNat_lt
  refine q_skip (by kernel_rfl) ?_
  refine qs ?_
  refine q_block (id := 1) (by kernel_rfl) ?_
  refine qs ?_
  refine qg ?_
  refine og 1 [(2, (Value.int IntKind.u64 0)), (3, (i64 0)), (4, (i64 0)), (5, (Value.int IntKind.u64 ((n : Nat) : Int))), (6, (i64 10)), (7, (i64 0)), (10, (Value.slice A bs.length c)), (11, (i64 ((bs.length : Nat) : Int))), (12, (i64 ((i : Nat) : Int))), (13, (Value.bool true)), (14, (i64 ((i : Nat) : Int)))] 1 ?_
  refine Ops.go (by kernel_rfl) (Runs.ixSliceE (k := IntKind.i64) (t := 22) (len := bs.length) (cap := c) (s := 1) (off' := lo + i) (i := ((i : Nat) : Int)) hA (by kernel_rfl) (by kernel_rfl) (by omega) (by omega) (by omega)) (d := (some 15)) (by kernel_rfl) rfl ?_
  refine Ops.go (v := (Value.int IntKind.u8 ((x.toNat : Nat) : Int))) (by kernel_rfl) (Runs.load (t := 5) (a := ⟨lb, lo + i, none⟩) (by kernel_rfl) (hLd _ _ K2 (fun h => h))) (d := (some 16)) (by kernel_rfl) rfl ?_
  refine og 2 [(2, (Value.int IntKind.u64 0)), (3, (i64 0)), (4, (i64 0)), (5, (Value.int IntKind.u64 ((n : Nat) : Int))), (6, (i64 10)), (7, (i64 0)), (8, (i64 ((i : Nat) : Int))), (9, (Value.int IntKind.u8 ((x.toNat : Nat) : Int))), (10, (Value.slice A bs.length c)), (11, (i64 ((bs.length : Nat) : Int))), (12, (i64 ((i : Nat) : Int))), (13, (Value.bool true))] 5 ?_
  refine od ?_
  refine qs ?_
  refine qs ?_
  refine qg ?_
  refine og 3 [(2, (Value.int IntKind.u64 0)), (3, (i64 0)), (4, (i64 0)), (5, (Value.int IntKind.u64 ((n : Nat) : Int))), (6, (i64 10)), (7, (i64 0)), (8, (i64 ((i : Nat) : Int))), (9, (Value.int IntKind.u8 ((x.toNat : Nat) : Int))), (10, (Value.slice A bs.length c)), (11, (i64 ((bs.length : Nat) : Int))), (12, (i64 ((i : Nat) : Int))), (13, (Value.bool true)), (19, (Value.bool (((i : Nat) : Int) == 9)))] 3 ?_
  refine Ops.split (((i : Nat) : Int) == 9) (fun h5 => ?_) (fun h5 => ?_)
  ·rw [h5]
   have p6 : ((i : Nat) : Int) = 9 := of_beq_t h5
   refine og 4 [(2, (Value.int IntKind.u64 0)), (3, (i64 0)), (4, (i64 0)), (5, (Value.int IntKind.u64 ((n : Nat) : Int))), (6, (i64 10)), (7, (i64 0)), (8, (i64 ((i : Nat) : Int))), (9, (Value.int IntKind.u8 ((x.toNat : Nat) : Int))), (10, (Value.slice A bs.length c)), (11, (i64 ((bs.length : Nat) : Int))), (12, (i64 ((i : Nat) : Int))), (13, (Value.bool true)), (23, (Value.bool (decide (((x.toNat : Nat) : Int) > 1))))] 7 ?_
   refine Ops.split (decide (((x.toNat : Nat) : Int) > 1)) (fun h7 => ?_) (fun h7 => ?_)
   ·rw [h7]
    have p8 : ((x.toNat : Nat) : Int) > 1 := of_decide_eq_true h7
    refine og 7 [(2, (Value.int IntKind.u64 0)), (3, (i64 0)), (4, (i64 0)), (5, (Value.int IntKind.u64 ((n : Nat) : Int))), (6, (i64 10)), (7, (i64 0)), (8, (i64 ((i : Nat) : Int))), (9, (Value.int IntKind.u8 ((x.toNat : Nat) : Int))), (10, (Value.slice A bs.length c)), (11, (i64 ((bs.length : Nat) : Int))), (12, (i64 ((i : Nat) : Int))), (13, (Value.bool true)), (30, (Value.bool true))] 14 ?_
    refine od ?_
    refine q_then (o := .tmp 30) (by kernel_rfl) rfl ?_
    refine qs ?_
    refine qg ?_
    refine og 1 [(2, (Value.int IntKind.u64 0)), (3, (i64 0)), (4, (i64 0)), (5, (Value.int IntKind.u64 ((n : Nat) : Int))), (6, (i64 11)), (7, (i64 0)), (8, (i64 ((i : Nat) : Int))), (9, (Value.int IntKind.u8 ((x.toNat : Nat) : Int))), (10, (Value.slice A bs.length c)), (11, (i64 ((bs.length : Nat) : Int))), (12, (i64 ((i : Nat) : Int))), (13, (Value.bool true)), (30, (Value.bool true))] 1 ?_
    refine od ?_
    refine q_exit (id := 0) (by kernel_rfl) ?_
    refine qs ?_
    refine qg ?_
    refine og 6 [(2, (Value.int IntKind.u64 ((n : Nat) : Int))), (3, (i64 0)), (4, (i64 11))] 6 ?_
    refine od ?_
    refine q_ret (by kernel_rfl) ?_
    refine ⟨(Value.tuple #[(Value.int IntKind.u64 ((n : Nat) : Int)), (i64 0), (i64 11)]), retv_tmp3 rfl rfl rfl rfl, ?_⟩
    have e : scanB bs = (n, 0, 11) := by rw [← hE]; first | (exfalso; omega) | (rw [hx, scanA_bad (by omega)]; done) | (rw [hx, scanA_end (by omega) (by omega)]; done) | (rw [show i = bs.length from by omega, List.drop_length]; rfl)
    exact ⟨by first | (rw [e]; done) | (rw [e]; rfl), K2⟩
   ·rw [h7]
    have p9 : ¬ (((x.toNat : Nat) : Int) > 1) := of_decide_eq_false h7
    refine og 3 [(2, (Value.int IntKind.u64 0)), (3, (i64 0)), (4, (i64 0)), (5, (Value.int IntKind.u64 ((n : Nat) : Int))), (6, (i64 10)), (7, (i64 0)), (8, (i64 ((i : Nat) : Int))), (9, (Value.int IntKind.u8 ((x.toNat : Nat) : Int))), (10, (Value.slice A bs.length c)), (11, (i64 ((bs.length : Nat) : Int))), (12, (i64 ((i : Nat) : Int))), (13, (Value.bool true)), (23, (Value.bool false)), (26, (Value.bool (decide (((i : Nat) : Int) > 0))))] 10 ?_
    refine Ops.split (decide (((i : Nat) : Int) > 0)) (fun h10 => ?_) (fun h10 => ?_)
    ·rw [h10]
     have p11 : ((i : Nat) : Int) > 0 := of_decide_eq_true h10
     refine og 4 [(2, (Value.int IntKind.u64 0)), (3, (i64 0)), (4, (i64 0)), (5, (Value.int IntKind.u64 ((n : Nat) : Int))), (6, (i64 10)), (7, (i64 0)), (8, (i64 ((i : Nat) : Int))), (9, (Value.int IntKind.u8 ((x.toNat : Nat) : Int))), (10, (Value.slice A bs.length c)), (11, (i64 ((bs.length : Nat) : Int))), (12, (i64 ((i : Nat) : Int))), (13, (Value.bool true)), (30, (Value.bool (((x.toNat : Nat) : Int) == 0)))] 14 ?_
     refine od ?_
     refine q_cond (o := .tmp 30) (b := (((x.toNat : Nat) : Int) == 0)) (by kernel_rfl) rfl (fun h12 => ?_) (fun h12 => ?_)
     ·rw [h12]
      have p13 : ((x.toNat : Nat) : Int) = 0 := of_beq_t h12
      refine qs ?_
      refine qg ?_
      refine og 1 [(2, (Value.int IntKind.u64 0)), (3, (i64 0)), (4, (i64 0)), (5, (Value.int IntKind.u64 ((n : Nat) : Int))), (6, (i64 11)), (7, (i64 0)), (8, (i64 ((i : Nat) : Int))), (9, (Value.int IntKind.u8 ((x.toNat : Nat) : Int))), (10, (Value.slice A bs.length c)), (11, (i64 ((bs.length : Nat) : Int))), (12, (i64 ((i : Nat) : Int))), (13, (Value.bool true)), (30, (Value.bool true))] 1 ?_
      refine od ?_
      refine q_exit (id := 0) (by kernel_rfl) ?_
      refine qs ?_
      refine qg ?_
      refine og 6 [(2, (Value.int IntKind.u64 ((n : Nat) : Int))), (3, (i64 0)), (4, (i64 11))] 6 ?_
      refine od ?_
      refine q_ret (by kernel_rfl) ?_
      refine ⟨(Value.tuple #[(Value.int IntKind.u64 ((n : Nat) : Int)), (i64 0), (i64 11)]), retv_tmp3 rfl rfl rfl rfl, ?_⟩
      have e : scanB bs = (n, 0, 11) := by rw [← hE]; first | (exfalso; omega) | (rw [hx, scanA_bad (by omega)]; done) | (rw [hx, scanA_end (by omega) (by omega)]; done) | (rw [show i = bs.length from by omega, List.drop_length]; rfl)
      exact ⟨by first | (rw [e]; done) | (rw [e]; rfl), K2⟩
     ·rw [h12]
      have p14 : ¬ (((x.toNat : Nat) : Int) = 0) := of_beq_f h12
      refine q_skip (by kernel_rfl) ?_
      refine qs ?_
      refine qg ?_
      refine og 2 [(2, (Value.int IntKind.u64 0)), (3, (i64 0)), (4, (i64 0)), (5, (Value.int IntKind.u64 ((n : Nat) : Int))), (6, (i64 10)), (7, (i64 0)), (8, (i64 ((i : Nat) : Int))), (9, (Value.int IntKind.u8 ((x.toNat : Nat) : Int))), (10, (Value.slice A bs.length c)), (11, (i64 ((bs.length : Nat) : Int))), (12, (i64 ((i : Nat) : Int))), (13, (Value.bool true)), (30, (Value.bool false)), (31, (Value.int IntKind.u64 ((n : Nat) : Int))), (32, (Value.int IntKind.u8 ((x.toNat : Nat) : Int)))] 2 ?_
      refine Ops.go (v := (Value.int IntKind.u8 ((x.toNat % 128 : Nat) : Int))) (by kernel_rfl) (Runs.int (op := .and) (t := 5) (by kernel_rfl) (run_and127 (by omega))) (d := (some 33)) (by kernel_rfl) rfl ?_
      refine og 1 [(2, (Value.int IntKind.u64 0)), (3, (i64 0)), (4, (i64 0)), (5, (Value.int IntKind.u64 ((n : Nat) : Int))), (6, (i64 10)), (7, (i64 0)), (8, (i64 ((i : Nat) : Int))), (9, (Value.int IntKind.u8 ((x.toNat : Nat) : Int))), (10, (Value.slice A bs.length c)), (11, (i64 ((bs.length : Nat) : Int))), (12, (i64 ((i : Nat) : Int))), (13, (Value.bool true)), (30, (Value.bool false)), (31, (Value.int IntKind.u64 ((n : Nat) : Int))), (34, (Value.int IntKind.u64 (IntKind.u64.wrap (((x.toNat % 128 : Nat) : Int)))))] 4 ?_
      have e15 : IntKind.u64.wrap (((x.toNat % 128 : Nat) : Int)) = ((x.toNat % 128 : Nat) : Int) := wrap_u64 (by omega) (by omega)
      rw [e15]
      refine og 2 [(2, (Value.int IntKind.u64 0)), (3, (i64 0)), (4, (i64 0)), (5, (Value.int IntKind.u64 ((n : Nat) : Int))), (6, (i64 10)), (7, (i64 0)), (8, (i64 ((i : Nat) : Int))), (9, (Value.int IntKind.u8 ((x.toNat : Nat) : Int))), (10, (Value.slice A bs.length c)), (11, (i64 ((bs.length : Nat) : Int))), (12, (i64 ((i : Nat) : Int))), (13, (Value.bool true)), (30, (Value.bool false)), (31, (Value.int IntKind.u64 ((n : Nat) : Int))), (34, (Value.int IntKind.u64 ((x.toNat % 128 : Nat) : Int))), (36, (i64 (IntKind.i64.wrap (7 * ((i : Nat) : Int)))))] 6 ?_
      have e16 : IntKind.i64.wrap (7 * ((i : Nat) : Int)) = ((7 * i : Nat) : Int) := by rw [wrap_i64 (by omega) (by omega)]; omega
      rw [e16]
      clear e16
      have hr := scan_round (c := x) hi hn (by omega)
      refine Ops.go (v := (Value.int IntKind.u64 ((x.toNat % 128 * p7 i : Nat) : Int))) (by kernel_rfl) (Runs.int (op := .shl) (t := 63) (by kernel_rfl) (run_shl7 (k := IntKind.i64) (i := i) (s := ((7 * i : Nat) : Int)) (by omega) (by omega) hr.1)) (d := (some 37)) (by kernel_rfl) rfl ?_
      refine Ops.go (v := (Value.int IntKind.u64 ((n + x.toNat % 128 * p7 i : Nat) : Int))) (by kernel_rfl) (Runs.int (op := .or) (t := 63) (by kernel_rfl) (run_or7 hn hr.2.1)) (d := (some 38)) (by kernel_rfl) rfl ?_
      refine og 1 [(2, (Value.int IntKind.u64 0)), (3, (i64 0)), (4, (i64 0)), (5, (Value.int IntKind.u64 ((n + x.toNat % 128 * p7 i : Nat) : Int))), (6, (i64 10)), (7, (i64 0)), (8, (i64 ((i : Nat) : Int))), (9, (Value.int IntKind.u8 ((x.toNat : Nat) : Int))), (10, (Value.slice A bs.length c)), (11, (i64 ((bs.length : Nat) : Int))), (12, (i64 ((i : Nat) : Int))), (13, (Value.bool true)), (30, (Value.bool false))] 9 ?_
      refine od ?_
      refine qs ?_
      refine qg ?_
      refine og 2 [(2, (Value.int IntKind.u64 0)), (3, (i64 0)), (4, (i64 0)), (5, (Value.int IntKind.u64 ((n + x.toNat % 128 * p7 i : Nat) : Int))), (6, (i64 10)), (7, (i64 0)), (8, (i64 ((i : Nat) : Int))), (9, (Value.int IntKind.u8 ((x.toNat : Nat) : Int))), (10, (Value.slice A bs.length c)), (11, (i64 ((bs.length : Nat) : Int))), (12, (i64 ((i : Nat) : Int))), (13, (Value.bool true)), (30, (Value.bool false)), (40, (Value.bool (decide (((x.toNat : Nat) : Int) < 128))))] 2 ?_
      refine od ?_
      refine q_cond (o := .tmp 40) (b := (decide (((x.toNat : Nat) : Int) < 128))) (by kernel_rfl) rfl (fun h17 => ?_) (fun h17 => ?_)
      ·rw [h17]
       have p18 : ((x.toNat : Nat) : Int) < 128 := of_decide_eq_true h17
       refine qs ?_
       refine qg ?_
       refine og 2 [(2, (Value.int IntKind.u64 0)), (3, (i64 0)), (4, (i64 0)), (5, (Value.int IntKind.u64 ((n + x.toNat % 128 * p7 i : Nat) : Int))), (6, (i64 10)), (7, (i64 0)), (8, (i64 ((i : Nat) : Int))), (9, (Value.int IntKind.u8 ((x.toNat : Nat) : Int))), (10, (Value.slice A bs.length c)), (11, (i64 ((bs.length : Nat) : Int))), (12, (i64 ((i : Nat) : Int))), (13, (Value.bool true)), (30, (Value.bool false)), (40, (Value.bool true)), (42, (i64 (IntKind.i64.wrap (((i : Nat) : Int) + 1))))] 2 ?_
       have e19 : IntKind.i64.wrap (((i : Nat) : Int) + 1) = ((i + 1 : Nat) : Int) := by rw [wrap_i64 (by omega) (by omega)]; omega
       rw [e19]
       clear e19
       refine og 2 [(2, (Value.int IntKind.u64 0)), (3, (i64 0)), (4, (i64 0)), (5, (Value.int IntKind.u64 ((n + x.toNat % 128 * p7 i : Nat) : Int))), (6, (i64 0)), (7, (i64 ((i + 1 : Nat) : Int))), (8, (i64 ((i : Nat) : Int))), (9, (Value.int IntKind.u8 ((x.toNat : Nat) : Int))), (10, (Value.slice A bs.length c)), (11, (i64 ((bs.length : Nat) : Int))), (12, (i64 ((i : Nat) : Int))), (13, (Value.bool true)), (30, (Value.bool false)), (40, (Value.bool true))] 4 ?_
       refine od ?_
       refine q_exit (id := 0) (by kernel_rfl) ?_
       refine qs ?_
       refine qg ?_
       refine og 6 [(2, (Value.int IntKind.u64 ((n + x.toNat % 128 * p7 i : Nat) : Int))), (3, (i64 ((i + 1 : Nat) : Int))), (4, (i64 0))] 6 ?_
       refine od ?_
       refine q_ret (by kernel_rfl) ?_
       refine ⟨(Value.tuple #[(Value.int IntKind.u64 ((n + x.toNat % 128 * p7 i : Nat) : Int)), (i64 ((i + 1 : Nat) : Int)), (i64 0)]), retv_tmp3 rfl rfl rfl rfl, ?_⟩
       have e : scanB bs = (n + x.toNat % 128 * p7 i, i + 1, 0) := by rw [← hE]; first | (exfalso; omega) | (rw [hx, scanA_bad (by omega)]; done) | (rw [hx, scanA_end (by omega) (by omega)]; done) | (rw [show i = bs.length from by omega, List.drop_length]; rfl)
       exact ⟨by first | (rw [e]; done) | (rw [e]; rfl), K2⟩
      ·rw [h17]
       have p20 : ¬ (((x.toNat : Nat) : Int) < 128) := of_decide_eq_false h17
       refine q_skip (by kernel_rfl) ?_
       refine qg ?_
       refine og 1 [(2, (Value.int IntKind.u64 0)), (3, (i64 0)), (4, (i64 0)), (5, (Value.int IntKind.u64 ((n + x.toNat % 128 * p7 i : Nat) : Int))), (6, (i64 10)), (7, (i64 0)), (8, (i64 ((i : Nat) : Int))), (9, (Value.int IntKind.u8 ((x.toNat : Nat) : Int))), (10, (Value.slice A bs.length c)), (11, (i64 ((bs.length : Nat) : Int))), (12, (i64 ((i : Nat) : Int))), (13, (Value.bool true)), (30, (Value.bool false)), (40, (Value.bool false)), (43, (i64 (IntKind.i64.wrap (((i : Nat) : Int) + 1))))] 1 ?_
       have e21 : IntKind.i64.wrap (((i : Nat) : Int) + 1) = ((i + 1 : Nat) : Int) := by rw [wrap_i64 (by omega) (by omega)]; omega
       rw [e21]
       clear e21
       refine og 1 [(2, (Value.int IntKind.u64 0)), (3, (i64 0)), (4, (i64 0)), (5, (Value.int IntKind.u64 ((n + x.toNat % 128 * p7 i : Nat) : Int))), (6, (i64 10)), (7, (i64 0)), (8, (i64 ((i : Nat) : Int))), (9, (Value.int IntKind.u8 ((x.toNat : Nat) : Int))), (10, (Value.slice A bs.length c)), (11, (i64 ((bs.length : Nat) : Int))), (12, (i64 ((i + 1 : Nat) : Int))), (13, (Value.bool true)), (30, (Value.bool false)), (40, (Value.bool false))] 2 ?_
       refine Ops.keep (R := [(2, (Value.int IntKind.u64 0)), (3, (i64 0)), (4, (i64 0)), (5, (Value.int IntKind.u64 ((n + x.toNat % 128 * p7 i : Nat) : Int))), (6, (i64 10)), (7, (i64 0)), (10, (Value.slice A bs.length c)), (11, (i64 ((bs.length : Nat) : Int))), (12, (i64 ((i + 1 : Nat) : Int)))]) (by kernel_rfl) ?_
       refine od ?_
       exact ⟨(i + 1, n + x.toNat % 128 * p7 i), ⟨rfl, (by rw [← hE, hx, scanA_more (by omega) (by omega)]), (by omega), (by omega), (hr.2.2 (by omega)), K2⟩, (show bs.length - (i + 1) < bs.length - i from by omega)⟩
    ·rw [h10]
     have p22 : ¬ (((i : Nat) : Int) > 0) := of_decide_eq_false h10
     refine og 4 [(2, (Value.int IntKind.u64 0)), (3, (i64 0)), (4, (i64 0)), (5, (Value.int IntKind.u64 ((n : Nat) : Int))), (6, (i64 10)), (7, (i64 0)), (8, (i64 ((i : Nat) : Int))), (9, (Value.int IntKind.u8 ((x.toNat : Nat) : Int))), (10, (Value.slice A bs.length c)), (11, (i64 ((bs.length : Nat) : Int))), (12, (i64 ((i : Nat) : Int))), (13, (Value.bool true)), (30, (Value.bool false))] 14 ?_
     refine od ?_
     refine q_else (o := .tmp 30) (by kernel_rfl) rfl ?_
     refine q_skip (by kernel_rfl) ?_
     refine qs ?_
     refine qg ?_
     refine og 2 [(2, (Value.int IntKind.u64 0)), (3, (i64 0)), (4, (i64 0)), (5, (Value.int IntKind.u64 ((n : Nat) : Int))), (6, (i64 10)), (7, (i64 0)), (8, (i64 ((i : Nat) : Int))), (9, (Value.int IntKind.u8 ((x.toNat : Nat) : Int))), (10, (Value.slice A bs.length c)), (11, (i64 ((bs.length : Nat) : Int))), (12, (i64 ((i : Nat) : Int))), (13, (Value.bool true)), (30, (Value.bool false)), (31, (Value.int IntKind.u64 ((n : Nat) : Int))), (32, (Value.int IntKind.u8 ((x.toNat : Nat) : Int)))] 2 ?_
     refine Ops.go (v := (Value.int IntKind.u8 ((x.toNat % 128 : Nat) : Int))) (by kernel_rfl) (Runs.int (op := .and) (t := 5) (by kernel_rfl) (run_and127 (by omega))) (d := (some 33)) (by kernel_rfl) rfl ?_
     refine og 1 [(2, (Value.int IntKind.u64 0)), (3, (i64 0)), (4, (i64 0)), (5, (Value.int IntKind.u64 ((n : Nat) : Int))), (6, (i64 10)), (7, (i64 0)), (8, (i64 ((i : Nat) : Int))), (9, (Value.int IntKind.u8 ((x.toNat : Nat) : Int))), (10, (Value.slice A bs.length c)), (11, (i64 ((bs.length : Nat) : Int))), (12, (i64 ((i : Nat) : Int))), (13, (Value.bool true)), (30, (Value.bool false)), (31, (Value.int IntKind.u64 ((n : Nat) : Int))), (34, (Value.int IntKind.u64 (IntKind.u64.wrap (((x.toNat % 128 : Nat) : Int)))))] 4 ?_
     have e23 : IntKind.u64.wrap (((x.toNat % 128 : Nat) : Int)) = ((x.toNat % 128 : Nat) : Int) := wrap_u64 (by omega) (by omega)
     rw [e23]
     refine og 2 [(2, (Value.int IntKind.u64 0)), (3, (i64 0)), (4, (i64 0)), (5, (Value.int IntKind.u64 ((n : Nat) : Int))), (6, (i64 10)), (7, (i64 0)), (8, (i64 ((i : Nat) : Int))), (9, (Value.int IntKind.u8 ((x.toNat : Nat) : Int))), (10, (Value.slice A bs.length c)), (11, (i64 ((bs.length : Nat) : Int))), (12, (i64 ((i : Nat) : Int))), (13, (Value.bool true)), (30, (Value.bool false)), (31, (Value.int IntKind.u64 ((n : Nat) : Int))), (34, (Value.int IntKind.u64 ((x.toNat % 128 : Nat) : Int))), (36, (i64 (IntKind.i64.wrap (7 * ((i : Nat) : Int)))))] 6 ?_
     have e24 : IntKind.i64.wrap (7 * ((i : Nat) : Int)) = ((7 * i : Nat) : Int) := by rw [wrap_i64 (by omega) (by omega)]; omega
     rw [e24]
     clear e24
     have hr := scan_round (c := x) hi hn (by omega)
     refine Ops.go (v := (Value.int IntKind.u64 ((x.toNat % 128 * p7 i : Nat) : Int))) (by kernel_rfl) (Runs.int (op := .shl) (t := 63) (by kernel_rfl) (run_shl7 (k := IntKind.i64) (i := i) (s := ((7 * i : Nat) : Int)) (by omega) (by omega) hr.1)) (d := (some 37)) (by kernel_rfl) rfl ?_
     refine Ops.go (v := (Value.int IntKind.u64 ((n + x.toNat % 128 * p7 i : Nat) : Int))) (by kernel_rfl) (Runs.int (op := .or) (t := 63) (by kernel_rfl) (run_or7 hn hr.2.1)) (d := (some 38)) (by kernel_rfl) rfl ?_
     refine og 1 [(2, (Value.int IntKind.u64 0)), (3, (i64 0)), (4, (i64 0)), (5, (Value.int IntKind.u64 ((n + x.toNat % 128 * p7 i : Nat) : Int))), (6, (i64 10)), (7, (i64 0)), (8, (i64 ((i : Nat) : Int))), (9, (Value.int IntKind.u8 ((x.toNat : Nat) : Int))), (10, (Value.slice A bs.length c)), (11, (i64 ((bs.length : Nat) : Int))), (12, (i64 ((i : Nat) : Int))), (13, (Value.bool true)), (30, (Value.bool false))] 9 ?_
     refine od ?_
     refine qs ?_
     refine qg ?_
     refine og 2 [(2, (Value.int IntKind.u64 0)), (3, (i64 0)), (4, (i64 0)), (5, (Value.int IntKind.u64 ((n + x.toNat % 128 * p7 i : Nat) : Int))), (6, (i64 10)), (7, (i64 0)), (8, (i64 ((i : Nat) : Int))), (9, (Value.int IntKind.u8 ((x.toNat : Nat) : Int))), (10, (Value.slice A bs.length c)), (11, (i64 ((bs.length : Nat) : Int))), (12, (i64 ((i : Nat) : Int))), (13, (Value.bool true)), (30, (Value.bool false)), (40, (Value.bool (decide (((x.toNat : Nat) : Int) < 128))))] 2 ?_
     refine od ?_
     refine q_cond (o := .tmp 40) (b := (decide (((x.toNat : Nat) : Int) < 128))) (by kernel_rfl) rfl (fun h25 => ?_) (fun h25 => ?_)
     ·rw [h25]
      have p26 : ((x.toNat : Nat) : Int) < 128 := of_decide_eq_true h25
      refine qs ?_
      refine qg ?_
      refine og 2 [(2, (Value.int IntKind.u64 0)), (3, (i64 0)), (4, (i64 0)), (5, (Value.int IntKind.u64 ((n + x.toNat % 128 * p7 i : Nat) : Int))), (6, (i64 10)), (7, (i64 0)), (8, (i64 ((i : Nat) : Int))), (9, (Value.int IntKind.u8 ((x.toNat : Nat) : Int))), (10, (Value.slice A bs.length c)), (11, (i64 ((bs.length : Nat) : Int))), (12, (i64 ((i : Nat) : Int))), (13, (Value.bool true)), (30, (Value.bool false)), (40, (Value.bool true)), (42, (i64 (IntKind.i64.wrap (((i : Nat) : Int) + 1))))] 2 ?_
      have e27 : IntKind.i64.wrap (((i : Nat) : Int) + 1) = ((i + 1 : Nat) : Int) := by rw [wrap_i64 (by omega) (by omega)]; omega
      rw [e27]
      clear e27
      refine og 2 [(2, (Value.int IntKind.u64 0)), (3, (i64 0)), (4, (i64 0)), (5, (Value.int IntKind.u64 ((n + x.toNat % 128 * p7 i : Nat) : Int))), (6, (i64 0)), (7, (i64 ((i + 1 : Nat) : Int))), (8, (i64 ((i : Nat) : Int))), (9, (Value.int IntKind.u8 ((x.toNat : Nat) : Int))), (10, (Value.slice A bs.length c)), (11, (i64 ((bs.length : Nat) : Int))), (12, (i64 ((i : Nat) : Int))), (13, (Value.bool true)), (30, (Value.bool false)), (40, (Value.bool true))] 4 ?_
      refine od ?_
      refine q_exit (id := 0) (by kernel_rfl) ?_
      refine qs ?_
      refine qg ?_
      refine og 6 [(2, (Value.int IntKind.u64 ((n + x.toNat % 128 * p7 i : Nat) : Int))), (3, (i64 ((i + 1 : Nat) : Int))), (4, (i64 0))] 6 ?_
      refine od ?_
      refine q_ret (by kernel_rfl) ?_
      refine ⟨(Value.tuple #[(Value.int IntKind.u64 ((n + x.toNat % 128 * p7 i : Nat) : Int)), (i64 ((i + 1 : Nat) : Int)), (i64 0)]), retv_tmp3 rfl rfl rfl rfl, ?_⟩
      have e : scanB bs = (n + x.toNat % 128 * p7 i, i + 1, 0) := by rw [← hE]; first | (exfalso; omega) | (rw [hx, scanA_bad (by omega)]; done) | (rw [hx, scanA_end (by omega) (by omega)]; done) | (rw [show i = bs.length from by omega, List.drop_length]; rfl)
      exact ⟨by first | (rw [e]; done) | (rw [e]; rfl), K2⟩
     ·rw [h25]
      have p28 : ¬ (((x.toNat : Nat) : Int) < 128) := of_decide_eq_false h25
      refine q_skip (by kernel_rfl) ?_
      refine qg ?_
      refine og 1 [(2, (Value.int IntKind.u64 0)), (3, (i64 0)), (4, (i64 0)), (5, (Value.int IntKind.u64 ((n + x.toNat % 128 * p7 i : Nat) : Int))), (6, (i64 10)), (7, (i64 0)), (8, (i64 ((i : Nat) : Int))), (9, (Value.int IntKind.u8 ((x.toNat : Nat) : Int))), (10, (Value.slice A bs.length c)), (11, (i64 ((bs.length : Nat) : Int))), (12, (i64 ((i : Nat) : Int))), (13, (Value.bool true)), (30, (Value.bool false)), (40, (Value.bool false)), (43, (i64 (IntKind.i64.wrap (((i : Nat) : Int) + 1))))] 1 ?_
      have e29 : IntKind.i64.wrap (((i : Nat) : Int) + 1) = ((i + 1 : Nat) : Int) := by rw [wrap_i64 (by omega) (by omega)]; omega
      rw [e29]
      clear e29
      refine og 1 [(2, (Value.int IntKind.u64 0)), (3, (i64 0)), (4, (i64 0)), (5, (Value.int IntKind.u64 ((n + x.toNat % 128 * p7 i : Nat) : Int))), (6, (i64 10)), (7, (i64 0)), (8, (i64 ((i : Nat) : Int))), (9, (Value.int IntKind.u8 ((x.toNat : Nat) : Int))), (10, (Value.slice A bs.length c)), (11, (i64 ((bs.length : Nat) : Int))), (12, (i64 ((i + 1 : Nat) : Int))), (13, (Value.bool true)), (30, (Value.bool false)), (40, (Value.bool false))] 2 ?_
      refine Ops.keep (R := [(2, (Value.int IntKind.u64 0)), (3, (i64 0)), (4, (i64 0)), (5, (Value.int IntKind.u64 ((n + x.toNat % 128 * p7 i : Nat) : Int))), (6, (i64 10)), (7, (i64 0)), (10, (Value.slice A bs.length c)), (11, (i64 ((bs.length : Nat) : Int))), (12, (i64 ((i + 1 : Nat) : Int)))]) (by kernel_rfl) ?_
      refine od ?_
      exact ⟨(i + 1, n + x.toNat % 128 * p7 i), ⟨rfl, (by rw [← hE, hx, scanA_more (by omega) (by omega)]), (by omega), (by omega), (hr.2.2 (by omega)), K2⟩, (show bs.length - (i + 1) < bs.length - i from by omega)⟩
  ·rw [h5]
   have p30 : ¬ (((i : Nat) : Int) = 9) := of_beq_f h5
   refine og 7 [(2, (Value.int IntKind.u64 0)), (3, (i64 0)), (4, (i64 0)), (5, (Value.int IntKind.u64 ((n : Nat) : Int))), (6, (i64 10)), (7, (i64 0)), (8, (i64 ((i : Nat) : Int))), (9, (Value.int IntKind.u8 ((x.toNat : Nat) : Int))), (10, (Value.slice A bs.length c)), (11, (i64 ((bs.length : Nat) : Int))), (12, (i64 ((i : Nat) : Int))), (13, (Value.bool true)), (23, (Value.bool false)), (26, (Value.bool (decide (((i : Nat) : Int) > 0))))] 10 ?_
   refine Ops.split (decide (((i : Nat) : Int) > 0)) (fun h31 => ?_) (fun h31 => ?_)
   ·rw [h31]
    have p32 : ((i : Nat) : Int) > 0 := of_decide_eq_true h31
    refine og 4 [(2, (Value.int IntKind.u64 0)), (3, (i64 0)), (4, (i64 0)), (5, (Value.int IntKind.u64 ((n : Nat) : Int))), (6, (i64 10)), (7, (i64 0)), (8, (i64 ((i : Nat) : Int))), (9, (Value.int IntKind.u8 ((x.toNat : Nat) : Int))), (10, (Value.slice A bs.length c)), (11, (i64 ((bs.length : Nat) : Int))), (12, (i64 ((i : Nat) : Int))), (13, (Value.bool true)), (30, (Value.bool (((x.toNat : Nat) : Int) == 0)))] 14 ?_
    refine od ?_
    refine q_cond (o := .tmp 30) (b := (((x.toNat : Nat) : Int) == 0)) (by kernel_rfl) rfl (fun h33 => ?_) (fun h33 => ?_)
    ·rw [h33]
     have p34 : ((x.toNat : Nat) : Int) = 0 := of_beq_t h33
     refine qs ?_
     refine qg ?_
     refine og 1 [(2, (Value.int IntKind.u64 0)), (3, (i64 0)), (4, (i64 0)), (5, (Value.int IntKind.u64 ((n : Nat) : Int))), (6, (i64 11)), (7, (i64 0)), (8, (i64 ((i : Nat) : Int))), (9, (Value.int IntKind.u8 ((x.toNat : Nat) : Int))), (10, (Value.slice A bs.length c)), (11, (i64 ((bs.length : Nat) : Int))), (12, (i64 ((i : Nat) : Int))), (13, (Value.bool true)), (30, (Value.bool true))] 1 ?_
     refine od ?_
     refine q_exit (id := 0) (by kernel_rfl) ?_
     refine qs ?_
     refine qg ?_
     refine og 6 [(2, (Value.int IntKind.u64 ((n : Nat) : Int))), (3, (i64 0)), (4, (i64 11))] 6 ?_
     refine od ?_
     refine q_ret (by kernel_rfl) ?_
     refine ⟨(Value.tuple #[(Value.int IntKind.u64 ((n : Nat) : Int)), (i64 0), (i64 11)]), retv_tmp3 rfl rfl rfl rfl, ?_⟩
     have e : scanB bs = (n, 0, 11) := by rw [← hE]; first | (exfalso; omega) | (rw [hx, scanA_bad (by omega)]; done) | (rw [hx, scanA_end (by omega) (by omega)]; done) | (rw [show i = bs.length from by omega, List.drop_length]; rfl)
     exact ⟨by first | (rw [e]; done) | (rw [e]; rfl), K2⟩
    ·rw [h33]
     have p35 : ¬ (((x.toNat : Nat) : Int) = 0) := of_beq_f h33
     refine q_skip (by kernel_rfl) ?_
     refine qs ?_
     refine qg ?_
     refine og 2 [(2, (Value.int IntKind.u64 0)), (3, (i64 0)), (4, (i64 0)), (5, (Value.int IntKind.u64 ((n : Nat) : Int))), (6, (i64 10)), (7, (i64 0)), (8, (i64 ((i : Nat) : Int))), (9, (Value.int IntKind.u8 ((x.toNat : Nat) : Int))), (10, (Value.slice A bs.length c)), (11, (i64 ((bs.length : Nat) : Int))), (12, (i64 ((i : Nat) : Int))), (13, (Value.bool true)), (30, (Value.bool false)), (31, (Value.int IntKind.u64 ((n : Nat) : Int))), (32, (Value.int IntKind.u8 ((x.toNat : Nat) : Int)))] 2 ?_
     refine Ops.go (v := (Value.int IntKind.u8 ((x.toNat % 128 : Nat) : Int))) (by kernel_rfl) (Runs.int (op := .and) (t := 5) (by kernel_rfl) (run_and127 (by omega))) (d := (some 33)) (by kernel_rfl) rfl ?_
     refine og 1 [(2, (Value.int IntKind.u64 0)), (3, (i64 0)), (4, (i64 0)), (5, (Value.int IntKind.u64 ((n : Nat) : Int))), (6, (i64 10)), (7, (i64 0)), (8, (i64 ((i : Nat) : Int))), (9, (Value.int IntKind.u8 ((x.toNat : Nat) : Int))), (10, (Value.slice A bs.length c)), (11, (i64 ((bs.length : Nat) : Int))), (12, (i64 ((i : Nat) : Int))), (13, (Value.bool true)), (30, (Value.bool false)), (31, (Value.int IntKind.u64 ((n : Nat) : Int))), (34, (Value.int IntKind.u64 (IntKind.u64.wrap (((x.toNat % 128 : Nat) : Int)))))] 4 ?_
     have e36 : IntKind.u64.wrap (((x.toNat % 128 : Nat) : Int)) = ((x.toNat % 128 : Nat) : Int) := wrap_u64 (by omega) (by omega)
     rw [e36]
     refine og 2 [(2, (Value.int IntKind.u64 0)), (3, (i64 0)), (4, (i64 0)), (5, (Value.int IntKind.u64 ((n : Nat) : Int))), (6, (i64 10)), (7, (i64 0)), (8, (i64 ((i : Nat) : Int))), (9, (Value.int IntKind.u8 ((x.toNat : Nat) : Int))), (10, (Value.slice A bs.length c)), (11, (i64 ((bs.length : Nat) : Int))), (12, (i64 ((i : Nat) : Int))), (13, (Value.bool true)), (30, (Value.bool false)), (31, (Value.int IntKind.u64 ((n : Nat) : Int))), (34, (Value.int IntKind.u64 ((x.toNat % 128 : Nat) : Int))), (36, (i64 (IntKind.i64.wrap (7 * ((i : Nat) : Int)))))] 6 ?_
     have e37 : IntKind.i64.wrap (7 * ((i : Nat) : Int)) = ((7 * i : Nat) : Int) := by rw [wrap_i64 (by omega) (by omega)]; omega
     rw [e37]
     clear e37
     have hr := scan_round (c := x) hi hn (by omega)
     refine Ops.go (v := (Value.int IntKind.u64 ((x.toNat % 128 * p7 i : Nat) : Int))) (by kernel_rfl) (Runs.int (op := .shl) (t := 63) (by kernel_rfl) (run_shl7 (k := IntKind.i64) (i := i) (s := ((7 * i : Nat) : Int)) (by omega) (by omega) hr.1)) (d := (some 37)) (by kernel_rfl) rfl ?_
     refine Ops.go (v := (Value.int IntKind.u64 ((n + x.toNat % 128 * p7 i : Nat) : Int))) (by kernel_rfl) (Runs.int (op := .or) (t := 63) (by kernel_rfl) (run_or7 hn hr.2.1)) (d := (some 38)) (by kernel_rfl) rfl ?_
     refine og 1 [(2, (Value.int IntKind.u64 0)), (3, (i64 0)), (4, (i64 0)), (5, (Value.int IntKind.u64 ((n + x.toNat % 128 * p7 i : Nat) : Int))), (6, (i64 10)), (7, (i64 0)), (8, (i64 ((i : Nat) : Int))), (9, (Value.int IntKind.u8 ((x.toNat : Nat) : Int))), (10, (Value.slice A bs.length c)), (11, (i64 ((bs.length : Nat) : Int))), (12, (i64 ((i : Nat) : Int))), (13, (Value.bool true)), (30, (Value.bool false))] 9 ?_
     refine od ?_
     refine qs ?_
     refine qg ?_
     refine og 2 [(2, (Value.int IntKind.u64 0)), (3, (i64 0)), (4, (i64 0)), (5, (Value.int IntKind.u64 ((n + x.toNat % 128 * p7 i : Nat) : Int))), (6, (i64 10)), (7, (i64 0)), (8, (i64 ((i : Nat) : Int))), (9, (Value.int IntKind.u8 ((x.toNat : Nat) : Int))), (10, (Value.slice A bs.length c)), (11, (i64 ((bs.length : Nat) : Int))), (12, (i64 ((i : Nat) : Int))), (13, (Value.bool true)), (30, (Value.bool false)), (40, (Value.bool (decide (((x.toNat : Nat) : Int) < 128))))] 2 ?_
     refine od ?_
     refine q_cond (o := .tmp 40) (b := (decide (((x.toNat : Nat) : Int) < 128))) (by kernel_rfl) rfl (fun h38 => ?_) (fun h38 => ?_)
     ·rw [h38]
      have p39 : ((x.toNat : Nat) : Int) < 128 := of_decide_eq_true h38
      refine qs ?_
      refine qg ?_
      refine og 2 [(2, (Value.int IntKind.u64 0)), (3, (i64 0)), (4, (i64 0)), (5, (Value.int IntKind.u64 ((n + x.toNat % 128 * p7 i : Nat) : Int))), (6, (i64 10)), (7, (i64 0)), (8, (i64 ((i : Nat) : Int))), (9, (Value.int IntKind.u8 ((x.toNat : Nat) : Int))), (10, (Value.slice A bs.length c)), (11, (i64 ((bs.length : Nat) : Int))), (12, (i64 ((i : Nat) : Int))), (13, (Value.bool true)), (30, (Value.bool false)), (40, (Value.bool true)), (42, (i64 (IntKind.i64.wrap (((i : Nat) : Int) + 1))))] 2 ?_
      have e40 : IntKind.i64.wrap (((i : Nat) : Int) + 1) = ((i + 1 : Nat) : Int) := by rw [wrap_i64 (by omega) (by omega)]; omega
      rw [e40]
      clear e40
      refine og 2 [(2, (Value.int IntKind.u64 0)), (3, (i64 0)), (4, (i64 0)), (5, (Value.int IntKind.u64 ((n + x.toNat % 128 * p7 i : Nat) : Int))), (6, (i64 0)), (7, (i64 ((i + 1 : Nat) : Int))), (8, (i64 ((i : Nat) : Int))), (9, (Value.int IntKind.u8 ((x.toNat : Nat) : Int))), (10, (Value.slice A bs.length c)), (11, (i64 ((bs.length : Nat) : Int))), (12, (i64 ((i : Nat) : Int))), (13, (Value.bool true)), (30, (Value.bool false)), (40, (Value.bool true))] 4 ?_
      refine od ?_
      refine q_exit (id := 0) (by kernel_rfl) ?_
      refine qs ?_
      refine qg ?_
      refine og 6 [(2, (Value.int IntKind.u64 ((n + x.toNat % 128 * p7 i : Nat) : Int))), (3, (i64 ((i + 1 : Nat) : Int))), (4, (i64 0))] 6 ?_
      refine od ?_
      refine q_ret (by kernel_rfl) ?_
      refine ⟨(Value.tuple #[(Value.int IntKind.u64 ((n + x.toNat % 128 * p7 i : Nat) : Int)), (i64 ((i + 1 : Nat) : Int)), (i64 0)]), retv_tmp3 rfl rfl rfl rfl, ?_⟩
      have e : scanB bs = (n + x.toNat % 128 * p7 i, i + 1, 0) := by rw [← hE]; first | (exfalso; omega) | (rw [hx, scanA_bad (by omega)]; done) | (rw [hx, scanA_end (by omega) (by omega)]; done) | (rw [show i = bs.length from by omega, List.drop_length]; rfl)
      exact ⟨by first | (rw [e]; done) | (rw [e]; rfl), K2⟩
     ·rw [h38]
      have p41 : ¬ (((x.toNat : Nat) : Int) < 128) := of_decide_eq_false h38
      refine q_skip (by kernel_rfl) ?_
      refine qg ?_
      refine og 1 [(2, (Value.int IntKind.u64 0)), (3, (i64 0)), (4, (i64 0)), (5, (Value.int IntKind.u64 ((n + x.toNat % 128 * p7 i : Nat) : Int))), (6, (i64 10)), (7, (i64 0)), (8, (i64 ((i : Nat) : Int))), (9, (Value.int IntKind.u8 ((x.toNat : Nat) : Int))), (10, (Value.slice A bs.length c)), (11, (i64 ((bs.length : Nat) : Int))), (12, (i64 ((i : Nat) : Int))), (13, (Value.bool true)), (30, (Value.bool false)), (40, (Value.bool false)), (43, (i64 (IntKind.i64.wrap (((i : Nat) : Int) + 1))))] 1 ?_
      have e42 : IntKind.i64.wrap (((i : Nat) : Int) + 1) = ((i + 1 : Nat) : Int) := by rw [wrap_i64 (by omega) (by omega)]; omega
      rw [e42]
      clear e42
      refine og 1 [(2, (Value.int IntKind.u64 0)), (3, (i64 0)), (4, (i64 0)), (5, (Value.int IntKind.u64 ((n + x.toNat % 128 * p7 i : Nat) : Int))), (6, (i64 10)), (7, (i64 0)), (8, (i64 ((i : Nat) : Int))), (9, (Value.int IntKind.u8 ((x.toNat : Nat) : Int))), (10, (Value.slice A bs.length c)), (11, (i64 ((bs.length : Nat) : Int))), (12, (i64 ((i + 1 : Nat) : Int))), (13, (Value.bool true)), (30, (Value.bool false)), (40, (Value.bool false))] 2 ?_
      refine Ops.keep (R := [(2, (Value.int IntKind.u64 0)), (3, (i64 0)), (4, (i64 0)), (5, (Value.int IntKind.u64 ((n + x.toNat % 128 * p7 i : Nat) : Int))), (6, (i64 10)), (7, (i64 0)), (10, (Value.slice A bs.length c)), (11, (i64 ((bs.length : Nat) : Int))), (12, (i64 ((i + 1 : Nat) : Int)))]) (by kernel_rfl) ?_
      refine od ?_
      exact ⟨(i + 1, n + x.toNat % 128 * p7 i), ⟨rfl, (by rw [← hE, hx, scanA_more (by omega) (by omega)]), (by omega), (by omega), (hr.2.2 (by omega)), K2⟩, (show bs.length - (i + 1) < bs.length - i from by omega)⟩
   ·rw [h31]
    have p43 : ¬ (((i : Nat) : Int) > 0) := of_decide_eq_false h31
    refine og 4 [(2, (Value.int IntKind.u64 0)), (3, (i64 0)), (4, (i64 0)), (5, (Value.int IntKind.u64 ((n : Nat) : Int))), (6, (i64 10)), (7, (i64 0)), (8, (i64 ((i : Nat) : Int))), (9, (Value.int IntKind.u8 ((x.toNat : Nat) : Int))), (10, (Value.slice A bs.length c)), (11, (i64 ((bs.length : Nat) : Int))), (12, (i64 ((i : Nat) : Int))), (13, (Value.bool true)), (30, (Value.bool false))] 14 ?_
    refine od ?_
    refine q_else (o := .tmp 30) (by kernel_rfl) rfl ?_
    refine q_skip (by kernel_rfl) ?_
    refine qs ?_
    refine qg ?_
    refine og 2 [(2, (Value.int IntKind.u64 0)), (3, (i64 0)), (4, (i64 0)), (5, (Value.int IntKind.u64 ((n : Nat) : Int))), (6, (i64 10)), (7, (i64 0)), (8, (i64 ((i : Nat) : Int))), (9, (Value.int IntKind.u8 ((x.toNat : Nat) : Int))), (10, (Value.slice A bs.length c)), (11, (i64 ((bs.length : Nat) : Int))), (12, (i64 ((i : Nat) : Int))), (13, (Value.bool true)), (30, (Value.bool false)), (31, (Value.int IntKind.u64 ((n : Nat) : Int))), (32, (Value.int IntKind.u8 ((x.toNat : Nat) : Int)))] 2 ?_
    refine Ops.go (v := (Value.int IntKind.u8 ((x.toNat % 128 : Nat) : Int))) (by kernel_rfl) (Runs.int (op := .and) (t := 5) (by kernel_rfl) (run_and127 (by omega))) (d := (some 33)) (by kernel_rfl) rfl ?_
    refine og 1 [(2, (Value.int IntKind.u64 0)), (3, (i64 0)), (4, (i64 0)), (5, (Value.int IntKind.u64 ((n : Nat) : Int))), (6, (i64 10)), (7, (i64 0)), (8, (i64 ((i : Nat) : Int))), (9, (Value.int IntKind.u8 ((x.toNat : Nat) : Int))), (10, (Value.slice A bs.length c)), (11, (i64 ((bs.length : Nat) : Int))), (12, (i64 ((i : Nat) : Int))), (13, (Value.bool true)), (30, (Value.bool false)), (31, (Value.int IntKind.u64 ((n : Nat) : Int))), (34, (Value.int IntKind.u64 (IntKind.u64.wrap (((x.toNat % 128 : Nat) : Int)))))] 4 ?_
    have e44 : IntKind.u64.wrap (((x.toNat % 128 : Nat) : Int)) = ((x.toNat % 128 : Nat) : Int) := wrap_u64 (by omega) (by omega)
    rw [e44]
    refine og 2 [(2, (Value.int IntKind.u64 0)), (3, (i64 0)), (4, (i64 0)), (5, (Value.int IntKind.u64 ((n : Nat) : Int))), (6, (i64 10)), (7, (i64 0)), (8, (i64 ((i : Nat) : Int))), (9, (Value.int IntKind.u8 ((x.toNat : Nat) : Int))), (10, (Value.slice A bs.length c)), (11, (i64 ((bs.length : Nat) : Int))), (12, (i64 ((i : Nat) : Int))), (13, (Value.bool true)), (30, (Value.bool false)), (31, (Value.int IntKind.u64 ((n : Nat) : Int))), (34, (Value.int IntKind.u64 ((x.toNat % 128 : Nat) : Int))), (36, (i64 (IntKind.i64.wrap (7 * ((i : Nat) : Int)))))] 6 ?_
    have e45 : IntKind.i64.wrap (7 * ((i : Nat) : Int)) = ((7 * i : Nat) : Int) := by rw [wrap_i64 (by omega) (by omega)]; omega
    rw [e45]
    clear e45
    have hr := scan_round (c := x) hi hn (by omega)
    refine Ops.go (v := (Value.int IntKind.u64 ((x.toNat % 128 * p7 i : Nat) : Int))) (by kernel_rfl) (Runs.int (op := .shl) (t := 63) (by kernel_rfl) (run_shl7 (k := IntKind.i64) (i := i) (s := ((7 * i : Nat) : Int)) (by omega) (by omega) hr.1)) (d := (some 37)) (by kernel_rfl) rfl ?_
    refine Ops.go (v := (Value.int IntKind.u64 ((n + x.toNat % 128 * p7 i : Nat) : Int))) (by kernel_rfl) (Runs.int (op := .or) (t := 63) (by kernel_rfl) (run_or7 hn hr.2.1)) (d := (some 38)) (by kernel_rfl) rfl ?_
    refine og 1 [(2, (Value.int IntKind.u64 0)), (3, (i64 0)), (4, (i64 0)), (5, (Value.int IntKind.u64 ((n + x.toNat % 128 * p7 i : Nat) : Int))), (6, (i64 10)), (7, (i64 0)), (8, (i64 ((i : Nat) : Int))), (9, (Value.int IntKind.u8 ((x.toNat : Nat) : Int))), (10, (Value.slice A bs.length c)), (11, (i64 ((bs.length : Nat) : Int))), (12, (i64 ((i : Nat) : Int))), (13, (Value.bool true)), (30, (Value.bool false))] 9 ?_
    refine od ?_
    refine qs ?_
    refine qg ?_
    refine og 2 [(2, (Value.int IntKind.u64 0)), (3, (i64 0)), (4, (i64 0)), (5, (Value.int IntKind.u64 ((n + x.toNat % 128 * p7 i : Nat) : Int))), (6, (i64 10)), (7, (i64 0)), (8, (i64 ((i : Nat) : Int))), (9, (Value.int IntKind.u8 ((x.toNat : Nat) : Int))), (10, (Value.slice A bs.length c)), (11, (i64 ((bs.length : Nat) : Int))), (12, (i64 ((i : Nat) : Int))), (13, (Value.bool true)), (30, (Value.bool false)), (40, (Value.bool (decide (((x.toNat : Nat) : Int) < 128))))] 2 ?_
    refine od ?_
    refine q_cond (o := .tmp 40) (b := (decide (((x.toNat : Nat) : Int) < 128))) (by kernel_rfl) rfl (fun h46 => ?_) (fun h46 => ?_)
    ·rw [h46]
     have p47 : ((x.toNat : Nat) : Int) < 128 := of_decide_eq_true h46
     refine qs ?_
     refine qg ?_
     refine og 2 [(2, (Value.int IntKind.u64 0)), (3, (i64 0)), (4, (i64 0)), (5, (Value.int IntKind.u64 ((n + x.toNat % 128 * p7 i : Nat) : Int))), (6, (i64 10)), (7, (i64 0)), (8, (i64 ((i : Nat) : Int))), (9, (Value.int IntKind.u8 ((x.toNat : Nat) : Int))), (10, (Value.slice A bs.length c)), (11, (i64 ((bs.length : Nat) : Int))), (12, (i64 ((i : Nat) : Int))), (13, (Value.bool true)), (30, (Value.bool false)), (40, (Value.bool true)), (42, (i64 (IntKind.i64.wrap (((i : Nat) : Int) + 1))))] 2 ?_
     have e48 : IntKind.i64.wrap (((i : Nat) : Int) + 1) = ((i + 1 : Nat) : Int) := by rw [wrap_i64 (by omega) (by omega)]; omega
     rw [e48]
     clear e48
     refine og 2 [(2, (Value.int IntKind.u64 0)), (3, (i64 0)), (4, (i64 0)), (5, (Value.int IntKind.u64 ((n + x.toNat % 128 * p7 i : Nat) : Int))), (6, (i64 0)), (7, (i64 ((i + 1 : Nat) : Int))), (8, (i64 ((i : Nat) : Int))), (9, (Value.int IntKind.u8 ((x.toNat : Nat) : Int))), (10, (Value.slice A bs.length c)), (11, (i64 ((bs.length : Nat) : Int))), (12, (i64 ((i : Nat) : Int))), (13, (Value.bool true)), (30, (Value.bool false)), (40, (Value.bool true))] 4 ?_
     refine od ?_
     refine q_exit (id := 0) (by kernel_rfl) ?_
     refine qs ?_
     refine qg ?_
     refine og 6 [(2, (Value.int IntKind.u64 ((n + x.toNat % 128 * p7 i : Nat) : Int))), (3, (i64 ((i + 1 : Nat) : Int))), (4, (i64 0))] 6 ?_
     refine od ?_
     refine q_ret (by kernel_rfl) ?_
     refine ⟨(Value.tuple #[(Value.int IntKind.u64 ((n + x.toNat % 128 * p7 i : Nat) : Int)), (i64 ((i + 1 : Nat) : Int)), (i64 0)]), retv_tmp3 rfl rfl rfl rfl, ?_⟩
     have e : scanB bs = (n + x.toNat % 128 * p7 i, i + 1, 0) := by rw [← hE]; first | (exfalso; omega) | (rw [hx, scanA_bad (by omega)]; done) | (rw [hx, scanA_end (by omega) (by omega)]; done) | (rw [show i = bs.length from by omega, List.drop_length]; rfl)
     exact ⟨by first | (rw [e]; done) | (rw [e]; rfl), K2⟩
    ·rw [h46]
     have p49 : ¬ (((x.toNat : Nat) : Int) < 128) := of_decide_eq_false h46
     refine q_skip (by kernel_rfl) ?_
     refine qg ?_
     refine og 1 [(2, (Value.int IntKind.u64 0)), (3, (i64 0)), (4, (i64 0)), (5, (Value.int IntKind.u64 ((n + x.toNat % 128 * p7 i : Nat) : Int))), (6, (i64 10)), (7, (i64 0)), (8, (i64 ((i : Nat) : Int))), (9, (Value.int IntKind.u8 ((x.toNat : Nat) : Int))), (10, (Value.slice A bs.length c)), (11, (i64 ((bs.length : Nat) : Int))), (12, (i64 ((i : Nat) : Int))), (13, (Value.bool true)), (30, (Value.bool false)), (40, (Value.bool false)), (43, (i64 (IntKind.i64.wrap (((i : Nat) : Int) + 1))))] 1 ?_
     have e50 : IntKind.i64.wrap (((i : Nat) : Int) + 1) = ((i + 1 : Nat) : Int) := by rw [wrap_i64 (by omega) (by omega)]; omega
     rw [e50]
     clear e50
     refine og 1 [(2, (Value.int IntKind.u64 0)), (3, (i64 0)), (4, (i64 0)), (5, (Value.int IntKind.u64 ((n + x.toNat % 128 * p7 i : Nat) : Int))), (6, (i64 10)), (7, (i64 0)), (8, (i64 ((i : Nat) : Int))), (9, (Value.int IntKind.u8 ((x.toNat : Nat) : Int))), (10, (Value.slice A bs.length c)), (11, (i64 ((bs.length : Nat) : Int))), (12, (i64 ((i + 1 : Nat) : Int))), (13, (Value.bool true)), (30, (Value.bool false)), (40, (Value.bool false))] 2 ?_
     refine Ops.keep (R := [(2, (Value.int IntKind.u64 0)), (3, (i64 0)), (4, (i64 0)), (5, (Value.int IntKind.u64 ((n + x.toNat % 128 * p7 i : Nat) : Int))), (6, (i64 10)), (7, (i64 0)), (10, (Value.slice A bs.length c)), (11, (i64 ((bs.length : Nat) : Int))), (12, (i64 ((i + 1 : Nat) : Int)))]) (by kernel_rfl) ?_
     refine od ?_
     exact ⟨(i + 1, n + x.toNat % 128 * p7 i), ⟨rfl, (by rw [← hE, hx, scanA_more (by omega) (by omega)]), (by omega), (by omega), (hr.2.2 (by omega)), K2⟩, (show bs.length - (i + 1) < bs.length - i from by omega)⟩
 ·rw [h3]
  have p51 : ¬ (((i : Nat) : Int) < ((bs.length : Nat) : Int)) := of_decide_eq_false h3
  refine q_exit (id := 0) (by kernel_rfl) ?_
  refine qs ?_
  refine qg ?_
  refine og 6 [(2, (Value.int IntKind.u64 ((n : Nat) : Int))), (3, (i64 0)), (4, (i64 10))] 6 ?_
  refine od ?_
  refine q_ret (by kernel_rfl) ?_
  refine ⟨(Value.tuple #[(Value.int IntKind.u64 ((n : Nat) : Int)), (i64 0), (i64 10)]), retv_tmp3 rfl rfl rfl rfl, ?_⟩
  have e : scanB bs = (n, 0, 10) := by rw [← hE]; first | (exfalso; omega) | (rw [hx, scanA_bad (by omega)]; done) | (rw [hx, scanA_end (by omega) (by omega)]; done) | (rw [show i = bs.length from by omega, List.drop_length]; rfl)
  exact ⟨by first | (rw [e]; done) | (rw [e]; rfl), K2⟩

theorem ok_calls (w : World) (b : Nat) (A : Option Addr) (c : Nat) (r : Rdr) (hok : r.Ok) (H0 : Has w b (rowL (rdrL A c r) 86)) (hR : RdO w A c r.bs) (hne : ∀ g o s, A = some ⟨g, o, s⟩ → g ≠ b) : Calls Tryz.prog 82 ⟨[(ptr b)]⟩ w (fun e w' => e = .returned (.bool (r.why == 0)) ∧ Keeps none_ w w') := by
 have hpos := hok.pos
 have hlen := hok.len
 have hsc := r.scan_le
 have hdl : (r.bs.drop r.pos).length = r.bs.length - r.pos := List.length_drop
 have hcap := hR.1.slice
 have Hb := H0.lt
 have K0 : Keeps none_ w w := Keeps.refl w
 refine q_calls Tryz.func82 (by kernel_rfl) (by kernel_rfl) ?_
 refine qs ?_
 refine qg ?_
 refine og 1 [(0, (ptr b)), (2, (Value.bool false))] 1 ?_
 refine od ?_
 refine qs ?_
 refine qg ?_
 refine og 6 [(2, (Value.bool false)), (5, (Value.bool true)), (8, (Value.pointer (some ⟨b, 2, none⟩)))] 6 ?_
 refine Ops.go (v := (i64 r.why)) (by kernel_rfl) (Runs.load (t := 25) (a := ⟨b, 2, none⟩) (by kernel_rfl) (H0.loads (by kernel_rfl))) (d := (some 9)) (by kernel_rfl) rfl ?_
 refine og 3 [(2, (Value.bool (r.why == 0)))] 10 ?_
 refine od ?_
 refine q_ret (by kernel_rfl) ?_
 refine ⟨(Value.bool (r.why == 0)), retv_tmp rfl rfl, ?_⟩
 exact ⟨rfl, K0⟩

theorem left_calls (w : World) (b : Nat) (A : Option Addr) (c : Nat) (r : Rdr) (hok : r.Ok) (H0 : Has w b (rowL (rdrL A c r) 86)) (hR : RdO w A c r.bs) (hne : ∀ g o s, A = some ⟨g, o, s⟩ → g ≠ b) : Calls Tryz.prog 64 ⟨[(ptr b)]⟩ w (fun e w' => ∃ A2 c2, e = .returned (.slice A2 (r.bs.drop r.pos).length c2) ∧ Keeps none_ w w' ∧ RdB w' (.slice A2 (r.bs.drop r.pos).length c2) (r.bs.drop r.pos) ∧ (∀ g o s, A2 = some ⟨g, o, s⟩ → ∃ o2 s2, A = some ⟨g, o2, s2⟩)) := by
 have hpos := hok.pos
 have hlen := hok.len
 have hsc := r.scan_le
 have hdl : (r.bs.drop r.pos).length = r.bs.length - r.pos := List.length_drop
 have hcap := hR.1.slice
 have Hb := H0.lt
 have K0 : Keeps none_ w w := Keeps.refl w
 refine q_calls Tryz.func64 (by kernel_rfl) (by kernel_rfl) ?_
 refine qs ?_
 refine qg ?_
 refine og 1 [(0, (ptr b)), (2, (Value.slice none 0 0))] 1 ?_
 refine od ?_
 refine qs ?_
 refine q_draw (fun wz => Keeps none_ w wz) 10 (by kernel_rfl) (by kernel_rfl) (by kernel_rfl) (fun w1 K2 _ _ => ⟨K2, ?_⟩)
 replace K0 := K0.t0 K2
 replace H0 := H0.keep K2 (fun h => h)
 replace hR := RdO.keep0 hR K2
 refine Dr.strong (S' := (fun wz => Keeps none_ w1 wz)) (Keeps.refl w1) (fun wz hx => K2.trans hx (fun i _ h => h) (fun _ _ h => h)) ?_
 clear K2
 refine Dr.takes (fuel' := 7) (is' := [2, 1, 0]) [0, 1, 2] [(0, (ptr b)), (2, (Value.slice none 0 0)), (5, (ptr b))] (by kernel_rfl) rfl (by kernel_rfl) ?_
 refine Dr.take (i := 3) (v := (Value.slice A r.bs.length c)) (by kernel_rfl) (by kernel_rfl) (fun wz hS => Runs.load (t := 22) (a := ⟨b, 0, none⟩) (by kernel_rfl) ((H0.keep hS (fun h => h)).loads (by kernel_rfl))) (d := (some 6)) (by kernel_rfl) rfl ?_
 refine Dr.takes (fuel' := 3) (is' := [6, 5, 4, 3, 2, 1, 0]) [4, 5, 6] [(2, (Value.slice none 0 0)), (6, (Value.slice A r.bs.length c)), (9, (Value.pointer (some ⟨b, 1, none⟩)))] (by kernel_rfl) rfl (by kernel_rfl) ?_
 refine Dr.take (i := 7) (v := (i64 ((r.pos : Nat) : Int))) (by kernel_rfl) (by kernel_rfl) (fun wz hS => Runs.load (t := 3) (a := ⟨b, 1, none⟩) (by kernel_rfl) ((H0.keep hS (fun h => h)).loads (by kernel_rfl))) (d := (some 10)) (by kernel_rfl) rfl ?_
 refine Dr.take (i := 8) (v := (Value.slice (if c = r.pos then A else Option.map (fun q => Addr.add q (r.pos * 1)) A) (r.bs.length - r.pos) (c - r.pos))) (by kernel_rfl) (by kernel_rfl) (fun wz hS => Runs.slice (by kernel_rfl) (run_cut (sz := 1) (t := 22) (A := A) (n := r.bs.length) (c := c) r.pos r.bs.length c (lo := some (i64 ((r.pos : Nat) : Int))) (hi := none) (mx := none) tyB.slice (by kernel_rfl) (.inr ⟨_, rfl⟩) (.inl ⟨rfl, rfl, rfl⟩) (.inl ⟨rfl, rfl⟩) (by omega) (by omega) (by omega))) (d := (some 11)) (by kernel_rfl) rfl ?_
 refine Dr.takes (fuel' := 0) (is' := [9, 8, 7, 6, 5, 4, 3, 2, 1, 0]) [9] [(2, (Value.slice (if c = r.pos then A else Option.map (fun q => Addr.add q (r.pos * 1)) A) (r.bs.length - r.pos) (c - r.pos)))] (by kernel_rfl) rfl (by kernel_rfl) ?_
 refine Dr.done (by kernel_rfl) ?_
 refine q_ret (by kernel_rfl) ?_
 refine ⟨(Value.slice (if c = r.pos then A else Option.map (fun q => Addr.add q (r.pos * 1)) A) (r.bs.length - r.pos) (c - r.pos)), retv_tmp rfl rfl, ?_⟩
 have hD := RdB.drop hR.1 hpos
 exact ⟨_, _, by rw [hdl], K0, by rw [hdl]; exact hD, fun g o s h => cut_block h⟩

theorem RdUint_calls (w : World) (b : Nat) (A : Option Addr) (c : Nat) (r : Rdr) (hok : r.Ok) (H0 : Has w b (rowL (rdrL A c r) 86)) (hR : RdO w A c r.bs) (hne : ∀ g o s, A = some ⟨g, o, s⟩ → g ≠ b) : Calls Tryz.prog 60 ⟨[(ptr b)]⟩ w (fun e w' => e = .returned (.int .u64 ((r.uint.1 : Nat) : Int)) ∧ Keeps (fun i => i = b) w w' ∧ Has w' b (rowL (rdrL A c r.uint.2) 86)) := by
 have hpos := hok.pos
 have hlen := hok.len
 have hsc := r.scan_le
 have hdl : (r.bs.drop r.pos).length = r.bs.length - r.pos := List.length_drop
 have hcap := hR.1.slice
 have Hb := H0.lt
 have K0 : Keeps (fun i => i = b) w w := (Keeps.refl w).mono (fun _ _ h => h.elim)
 refine q_calls Tryz.func60 (by kernel_rfl) (by kernel_rfl) ?_
 refine qs ?_
 refine qg ?_
 refine og 1 [(0, (ptr b)), (2, (Value.int IntKind.u64 0))] 1 ?_
 refine od ?_
 refine qs ?_
 refine qs ?_
 refine qg ?_
 refine og 1 [(0, (ptr b)), (2, (Value.int IntKind.u64 0)), (6, (ptr b))] 1 ?_
 refine Ops.call (by kernel_rfl) (d := (some 7)) (by kernel_rfl) (ok_calls _ b A c r hok H0 hR hne) ?_
 rintro _ w1 ⟨rfl, K2⟩
 refine ⟨_, _, rfl, rfl, ?_⟩
 replace K0 := K0.trans K2 (U := (fun i => i = b)) (fun i h1 h2 => h2) (fun i h1 h2 => by exact h2.elim)
 replace H0 := H0.keep K2 (fun h => h)
 replace hR := RdO.keep0 hR K2
 clear K2
 refine og 1 [(0, (ptr b)), (2, (Value.int IntKind.u64 0)), (8, (Value.bool (!(r.why == 0))))] 3 ?_
 refine od ?_
 refine q_cond (o := .tmp 8) (b := (!(r.why == 0))) (by kernel_rfl) rfl (fun h3 => ?_) (fun h3 => ?_)
 ·rw [h3]
  have p4 : ¬ (r.why = 0) := of_beq_f (bnot_true h3)
  refine qs ?_
  refine qg ?_
  refine og 1 [(0, (ptr b)), (2, (Value.int IntKind.u64 0))] 1 ?_
  refine od ?_
  refine q_ret (by kernel_rfl) ?_
  refine ⟨(Value.int IntKind.u64 0), retv_tmp rfl rfl, ?_⟩
  have e : r.uint = (0, ⟨r.bs, r.pos, r.why⟩) := by unfold Rdr.uint; (repeat' split) <;> first | (exfalso; omega) | rfl | (rw [show (scanB (r.bs.drop r.pos)).2.2 = r.why from by omega])
  exact ⟨by first | (rw [e]; done) | (rw [e]; rfl), K0, by rw [e]; exact H0⟩
 ·rw [h3]
  have p5 : r.why = 0 := of_beq_t (bnot_false h3)
  refine q_skip (by kernel_rfl) ?_
  refine qs ?_
  refine qg ?_
  refine og 1 [(0, (ptr b)), (2, (Value.int IntKind.u64 0)), (10, (ptr b))] 1 ?_
  refine Ops.call (by kernel_rfl) (d := (some 11)) (by kernel_rfl) (left_calls _ b A c r hok H0 hR hne) ?_
  rintro _ w6 ⟨A8, c9, rfl, K7, h10, hlb11⟩
  refine ⟨_, _, rfl, rfl, ?_⟩
  replace K0 := K0.trans K7 (U := (fun i => i = b)) (fun i h1 h2 => h2) (fun i h1 h2 => by exact h2.elim)
  replace H0 := H0.keep K7 (fun h => h)
  replace hR := RdO.keep0 hR K7
  clear K7
  refine Ops.call (by kernel_rfl) (d := (some 12)) (by kernel_rfl) (scan_calls _ A8 c9 (r.bs.drop r.pos) h10 (by omega)) ?_
  rintro _ w12 ⟨rfl, K13⟩
  refine ⟨_, _, rfl, rfl, ?_⟩
  replace K0 := K0.trans K13 (U := (fun i => i = b)) (fun i h1 h2 => h2) (fun i h1 h2 => by exact h2.elim)
  replace H0 := H0.keep K13 (fun h => h)
  replace hR := RdO.keep0 hR K13
  replace h10 := (Rd.keep0 (by omega) h10 K13)
  clear K13
  refine og 7 [(0, (ptr b)), (2, (Value.int IntKind.u64 0)), (3, (Value.int IntKind.u64 (((scanB (r.bs.drop r.pos)).1 : Nat) : Int))), (4, (i64 (((scanB (r.bs.drop r.pos)).2.1 : Nat) : Int))), (5, (i64 ((scanB (r.bs.drop r.pos)).2.2)))] 10 ?_
  refine od ?_
  refine qs ?_
  refine qs ?_
  refine qg ?_
  refine og 4 [(0, (ptr b)), (2, (Value.int IntKind.u64 0)), (3, (Value.int IntKind.u64 (((scanB (r.bs.drop r.pos)).1 : Nat) : Int))), (4, (i64 (((scanB (r.bs.drop r.pos)).2.1 : Nat) : Int))), (5, (i64 ((scanB (r.bs.drop r.pos)).2.2))), (17, (i64 ((scanB (r.bs.drop r.pos)).2.2))), (19, (Value.pointer (some ⟨b, 2, none⟩)))] 4 ?_
  refine Ops.put (t := 25) (b := b) (off := 2) (v := (i64 ((scanB (r.bs.drop r.pos)).2.2))) (ys := [(Value.slice A r.bs.length c), (i64 ((r.pos : Nat) : Int)), (i64 ((scanB (r.bs.drop r.pos)).2.2))]) (by kernel_rfl) (by kernel_rfl) H0 (by kernel_rfl) (d := none) (by kernel_rfl) rfl (fun w14 H15 K16 => ?_)
  clear H0
  replace K0 := K0.trans K16 (U := (fun i => i = b)) (fun i h1 h2 => h2) (fun i h1 h2 => by have h2 : i = b := h2; show i = b; omega)
  replace hR := RdO.keep hR K16 (fun i _ _ hi hs => by have hs : i = b := hs; have := hne i _ _ hi; omega)
  clear h10
  clear K16
  refine od ?_
  refine qs ?_
  refine qg ?_
  refine og 2 [(0, (ptr b)), (2, (Value.int IntKind.u64 0)), (3, (Value.int IntKind.u64 (((scanB (r.bs.drop r.pos)).1 : Nat) : Int))), (4, (i64 (((scanB (r.bs.drop r.pos)).2.1 : Nat) : Int))), (21, (Value.bool (((scanB (r.bs.drop r.pos)).2.2) != 0)))] 2 ?_
  refine od ?_
  refine q_cond (o := .tmp 21) (b := (((scanB (r.bs.drop r.pos)).2.2) != 0)) (by kernel_rfl) rfl (fun h17 => ?_) (fun h17 => ?_)
  ·rw [h17]
   have p18 : ¬ ((scanB (r.bs.drop r.pos)).2.2 = 0) := of_bne_t h17
   refine qs ?_
   refine qg ?_
   refine og 1 [(0, (ptr b)), (2, (Value.int IntKind.u64 0)), (3, (Value.int IntKind.u64 (((scanB (r.bs.drop r.pos)).1 : Nat) : Int))), (4, (i64 (((scanB (r.bs.drop r.pos)).2.1 : Nat) : Int)))] 1 ?_
   refine od ?_
   refine q_ret (by kernel_rfl) ?_
   refine ⟨(Value.int IntKind.u64 0), retv_tmp rfl rfl, ?_⟩
   have e : r.uint = (0, ⟨r.bs, r.pos, (scanB (r.bs.drop r.pos)).2.2⟩) := by unfold Rdr.uint; (repeat' split) <;> first | (exfalso; omega) | rfl | (rw [show (scanB (r.bs.drop r.pos)).2.2 = r.why from by omega])
   exact ⟨by first | (rw [e]; done) | (rw [e]; rfl), K0, by rw [e]; exact H15⟩
  ·rw [h17]
   have p19 : (scanB (r.bs.drop r.pos)).2.2 = 0 := of_bne_f h17
   refine q_skip (by kernel_rfl) ?_
   refine qs ?_
   refine qg ?_
   refine og 3 [(2, (Value.int IntKind.u64 0)), (3, (Value.int IntKind.u64 (((scanB (r.bs.drop r.pos)).1 : Nat) : Int))), (4, (i64 (((scanB (r.bs.drop r.pos)).2.1 : Nat) : Int))), (22, (ptr b)), (24, (Value.pointer (some ⟨b, 1, none⟩)))] 3 ?_
   refine Ops.go (v := (i64 ((r.pos : Nat) : Int))) (by kernel_rfl) (Runs.load (t := 3) (a := ⟨b, 1, none⟩) (by kernel_rfl) (H15.loads (by kernel_rfl))) (d := (some 25)) (by kernel_rfl) rfl ?_
   refine og 2 [(2, (Value.int IntKind.u64 0)), (3, (Value.int IntKind.u64 (((scanB (r.bs.drop r.pos)).1 : Nat) : Int))), (22, (ptr b)), (27, (i64 (IntKind.i64.wrap (((r.pos : Nat) : Int) + (((scanB (r.bs.drop r.pos)).2.1 : Nat) : Int)))))] 6 ?_
   have e20 : IntKind.i64.wrap (((r.pos : Nat) : Int) + (((scanB (r.bs.drop r.pos)).2.1 : Nat) : Int)) = ((r.pos + ((scanB (r.bs.drop r.pos)).2.1) : Nat) : Int) := by rw [wrap_i64 (by omega) (by omega)]; omega
   rw [e20]
   clear e20
   refine og 2 [(2, (Value.int IntKind.u64 0)), (3, (Value.int IntKind.u64 (((scanB (r.bs.drop r.pos)).1 : Nat) : Int))), (27, (i64 ((r.pos + ((scanB (r.bs.drop r.pos)).2.1) : Nat) : Int))), (29, (Value.pointer (some ⟨b, 1, none⟩)))] 8 ?_
   refine Ops.put (t := 3) (b := b) (off := 1) (v := (i64 ((r.pos + ((scanB (r.bs.drop r.pos)).2.1) : Nat) : Int))) (ys := [(Value.slice A r.bs.length c), (i64 ((r.pos + ((scanB (r.bs.drop r.pos)).2.1) : Nat) : Int)), (i64 ((scanB (r.bs.drop r.pos)).2.2))]) (by kernel_rfl) (by kernel_rfl) H15 (by kernel_rfl) (d := none) (by kernel_rfl) rfl (fun w21 H22 K23 => ?_)
   clear H15
   replace K0 := K0.trans K23 (U := (fun i => i = b)) (fun i h1 h2 => h2) (fun i h1 h2 => by have h2 : i = b := h2; show i = b; omega)
   replace hR := RdO.keep hR K23 (fun i _ _ hi hs => by have hs : i = b := hs; have := hne i _ _ hi; omega)
   clear K23
   refine od ?_
   refine qs ?_
   refine qg ?_
   refine og 2 [(2, (Value.int IntKind.u64 (((scanB (r.bs.drop r.pos)).1 : Nat) : Int)))] 2 ?_
   refine od ?_
   refine q_ret (by kernel_rfl) ?_
   refine ⟨(Value.int IntKind.u64 (((scanB (r.bs.drop r.pos)).1 : Nat) : Int)), retv_tmp rfl rfl, ?_⟩
   have e : r.uint = ((scanB (r.bs.drop r.pos)).1, ⟨r.bs, r.pos + ((scanB (r.bs.drop r.pos)).2.1), (scanB (r.bs.drop r.pos)).2.2⟩) := by unfold Rdr.uint; (repeat' split) <;> first | (exfalso; omega) | rfl | (rw [show (scanB (r.bs.drop r.pos)).2.2 = r.why from by omega])
   exact ⟨by first | (rw [e]; done) | (rw [e]; rfl), K0, by rw [e]; exact H22⟩

theorem RdInt_calls (w : World) (b : Nat) (A : Option Addr) (c : Nat) (r : Rdr) (hok : r.Ok) (H0 : Has w b (rowL (rdrL A c r) 86)) (hR : RdO w A c r.bs) (hne : ∀ g o s, A = some ⟨g, o, s⟩ → g ≠ b) : Calls Tryz.prog 21 ⟨[(ptr b)]⟩ w (fun e w' => e = .returned (i64 r.int.1) ∧ Keeps (fun i => i = b) w w' ∧ Has w' b (rowL (rdrL A c r.int.2) 86)) := by
 have hpos := hok.pos
 have hlen := hok.len
 have hsc := r.scan_le
 have hdl : (r.bs.drop r.pos).length = r.bs.length - r.pos := List.length_drop
 have hcap := hR.1.slice
 have Hb := H0.lt
 have K0 : Keeps (fun i => i = b) w w := (Keeps.refl w).mono (fun _ _ h => h.elim)
 refine q_calls Tryz.func21 (by kernel_rfl) (by kernel_rfl) ?_
 refine qs ?_
 refine qg ?_
 refine og 1 [(0, (ptr b)), (2, (i64 0))] 1 ?_
 refine od ?_
 refine qs ?_
 refine qg ?_
 refine og 1 [(2, (i64 0)), (4, (ptr b))] 1 ?_
 refine Ops.call (by kernel_rfl) (d := (some 5)) (by kernel_rfl) (RdUint_calls _ b A c r hok H0 hR hne) ?_
 rintro _ w1 ⟨rfl, K2, H3⟩
 have hok4 := Rdr.Ok.uint hok
 have hu5 := Rdr.uint_lt r
 refine ⟨_, _, rfl, rfl, ?_⟩
 replace K0 := K0.trans K2 (U := (fun i => i = b)) (fun i h1 h2 => h2) (fun i h1 h2 => by have h2 : i = b := h2; show i = b; omega)
 replace hR := RdO.keep hR K2 (fun i _ _ hi hs => by have hs : i = b := hs; have := hne i _ _ hi; omega)
 clear K2
 have F6 : RdO w1 A c (r.uint.2).bs := by rw [Rdr.uint_bs]; exact hR
 clear hR
 refine og 1 [(2, (i64 0)), (3, (Value.int IntKind.u64 ((r.uint.1 : Nat) : Int)))] 3 ?_
 refine od ?_
 refine qs ?_
 refine qg ?_
 refine og 2 [(2, (i64 0)), (3, (Value.int IntKind.u64 ((r.uint.1 : Nat) : Int))), (7, (Value.int IntKind.u64 ((((r.uint.1 : Nat) : Int)).fdiv 2)))] 2 ?_
 have e7 : (((r.uint.1 : Nat) : Int)).fdiv 2 = ((r.uint.1 / 2 : Nat) : Int) := fdiv_nat r.uint.1 2
 rw [e7]
 clear e7
 refine og 1 [(2, (i64 0)), (3, (Value.int IntKind.u64 ((r.uint.1 : Nat) : Int))), (8, (i64 (IntKind.i64.wrap (((r.uint.1 / 2 : Nat) : Int)))))] 3 ?_
 have e8 : IntKind.i64.wrap (((r.uint.1 / 2 : Nat) : Int)) = ((r.uint.1 / 2 : Nat) : Int) := wrap_i64 (by omega) (by omega)
 rw [e8]
 refine og 1 [(2, (i64 0)), (8, (i64 ((r.uint.1 / 2 : Nat) : Int))), (9, (Value.int IntKind.u64 ((r.uint.1 : Nat) : Int)))] 4 ?_
 refine Ops.go (v := (Value.int IntKind.u64 ((r.uint.1 % 2 : Nat) : Int))) (by kernel_rfl) (Runs.int (op := .and) (t := 63) (by kernel_rfl) (run_and1 (by omega))) (d := (some 10)) (by kernel_rfl) rfl ?_
 refine og 1 [(2, (i64 0)), (8, (i64 ((r.uint.1 / 2 : Nat) : Int))), (11, (i64 (IntKind.i64.wrap (((r.uint.1 % 2 : Nat) : Int)))))] 6 ?_
 have e9 : IntKind.i64.wrap (((r.uint.1 % 2 : Nat) : Int)) = ((r.uint.1 % 2 : Nat) : Int) := wrap_i64 (by omega) (by omega)
 rw [e9]
 refine og 1 [(2, (i64 0)), (8, (i64 ((r.uint.1 / 2 : Nat) : Int))), (12, (i64 (IntKind.i64.wrap (0 - ((r.uint.1 % 2 : Nat) : Int)))))] 7 ?_
 have e10 : IntKind.i64.wrap (0 - ((r.uint.1 % 2 : Nat) : Int)) = 0 - ((r.uint.1 % 2 : Nat) : Int) := wrap_i64 (by omega) (by omega)
 rw [e10]
 refine Ops.go (v := (i64 (unzz r.uint.1))) (by kernel_rfl) (Runs.int (op := .xor) (t := 2) (by kernel_rfl) (run_unzz (by omega))) (d := (some 13)) (by kernel_rfl) rfl ?_
 refine og 1 [(2, (i64 (unzz r.uint.1)))] 9 ?_
 refine od ?_
 refine q_ret (by kernel_rfl) ?_
 refine ⟨(i64 (unzz r.uint.1)), retv_tmp rfl rfl, ?_⟩
 exact ⟨rfl, K0, H3⟩

theorem RdEnd_calls (w : World) (b : Nat) (A : Option Addr) (c : Nat) (r : Rdr) (hok : r.Ok) (H0 : Has w b (rowL (rdrL A c r) 86)) (hR : RdO w A c r.bs) (hne : ∀ g o s, A = some ⟨g, o, s⟩ → g ≠ b) : Calls Tryz.prog 24 ⟨[(ptr b)]⟩ w (fun e w' => e = .returned (i64 r.end_) ∧ Keeps none_ w w') := by
 have hpos := hok.pos
 have hlen := hok.len
 have hsc := r.scan_le
 have hdl : (r.bs.drop r.pos).length = r.bs.length - r.pos := List.length_drop
 have hcap := hR.1.slice
 have Hb := H0.lt
 have K0 : Keeps none_ w w := Keeps.refl w
 refine q_calls Tryz.func24 (by kernel_rfl) (by kernel_rfl) ?_
 refine qs ?_
 refine qg ?_
 refine og 1 [(0, (ptr b)), (2, (i64 0))] 1 ?_
 refine od ?_
 refine qs ?_
 refine q_block (id := 0) (by kernel_rfl) ?_
 refine qs ?_
 refine qg ?_
 refine og 3 [(0, (ptr b)), (2, (i64 0)), (3, (Value.bool false))] 3 ?_
 refine od ?_
 refine q_else (o := .tmp 3) (by kernel_rfl) rfl ?_
 refine qs ?_
 refine qg ?_
 refine og 3 [(0, (ptr b)), (2, (i64 0)), (9, (Value.pointer (some ⟨b, 2, none⟩)))] 3 ?_
 refine Ops.go (v := (i64 r.why)) (by kernel_rfl) (Runs.load (t := 25) (a := ⟨b, 2, none⟩) (by kernel_rfl) (H0.loads (by kernel_rfl))) (d := (some 10)) (by kernel_rfl) rfl ?_
 refine og 2 [(0, (ptr b)), (2, (i64 0)), (12, (Value.bool (r.why == 0)))] 6 ?_
 refine Ops.split (r.why == 0) (fun h1 => ?_) (fun h1 => ?_)
 ·rw [h1]
  have p2 : r.why = 0 := of_beq_t h1
  refine og 1 [(0, (ptr b)), (2, (i64 0)), (12, (Value.bool true)), (13, (ptr b))] 7 ?_
  refine Ops.call (by kernel_rfl) (d := (some 14)) (by kernel_rfl) (left_calls _ b A c r hok H0 hR hne) ?_
  rintro _ w3 ⟨A5, c6, rfl, K4, h7, hlb8⟩
  refine ⟨_, _, rfl, rfl, ?_⟩
  replace K0 := K0.t0 K4
  replace H0 := H0.keep K4 (fun h => h)
  replace hR := RdO.keep0 hR K4
  clear K4
  refine og 4 [(0, (ptr b)), (2, (i64 0)), (6, (Value.bool (decide ((((r.bs.drop r.pos).length : Nat) : Int) > 0))))] 12 ?_
  refine od ?_
  refine q_cond (o := .tmp 6) (b := (decide ((((r.bs.drop r.pos).length : Nat) : Int) > 0))) (by kernel_rfl) rfl (fun h9 => ?_) (fun h9 => ?_)
  ·rw [h9]
   have p10 : (((r.bs.drop r.pos).length : Nat) : Int) > 0 := of_decide_eq_true h9
   refine qs ?_
   refine qg ?_
   refine og 1 [(0, (ptr b)), (2, (i64 11))] 1 ?_
   refine od ?_
   refine q_ret (by kernel_rfl) ?_
   refine ⟨(i64 11), retv_tmp rfl rfl, ?_⟩
   have e : r.end_ = 11 := by unfold Rdr.end_; (split <;> first | (exfalso; omega) | rfl | omega)
   exact ⟨by rw [e], K0⟩
  ·rw [h9]
   have p11 : ¬ ((((r.bs.drop r.pos).length : Nat) : Int) > 0) := of_decide_eq_false h9
   refine q_skip (by kernel_rfl) ?_
   refine qs ?_
   refine qg ?_
   refine og 3 [(2, (i64 0)), (20, (Value.pointer (some ⟨b, 2, none⟩)))] 3 ?_
   refine Ops.go (v := (i64 r.why)) (by kernel_rfl) (Runs.load (t := 25) (a := ⟨b, 2, none⟩) (by kernel_rfl) (H0.loads (by kernel_rfl))) (d := (some 21)) (by kernel_rfl) rfl ?_
   refine og 1 [(2, (i64 r.why))] 5 ?_
   refine od ?_
   refine q_ret (by kernel_rfl) ?_
   refine ⟨(i64 r.why), retv_tmp rfl rfl, ?_⟩
   have e : r.end_ = r.why := by unfold Rdr.end_; (split <;> first | (exfalso; omega) | rfl | omega)
   exact ⟨by rw [e], K0⟩
 ·rw [h1]
  have p12 : ¬ (r.why = 0) := of_beq_f h1
  refine og 6 [(0, (ptr b)), (2, (i64 0)), (6, (Value.bool false))] 12 ?_
  refine od ?_
  refine q_else (o := .tmp 6) (by kernel_rfl) rfl ?_
  refine q_skip (by kernel_rfl) ?_
  refine qs ?_
  refine qg ?_
  refine og 3 [(2, (i64 0)), (20, (Value.pointer (some ⟨b, 2, none⟩)))] 3 ?_
  refine Ops.go (v := (i64 r.why)) (by kernel_rfl) (Runs.load (t := 25) (a := ⟨b, 2, none⟩) (by kernel_rfl) (H0.loads (by kernel_rfl))) (d := (some 21)) (by kernel_rfl) rfl ?_
  refine og 1 [(2, (i64 r.why))] 5 ?_
  refine od ?_
  refine q_ret (by kernel_rfl) ?_
  refine ⟨(i64 r.why), retv_tmp rfl rfl, ?_⟩
  have e : r.end_ = r.why := by unfold Rdr.end_; (split <;> first | (exfalso; omega) | rfl | omega)
  exact ⟨by rw [e], K0⟩

theorem Clone_nil (w : World) (n c : Nat) (bs : List UInt8) (hv : RdB w (.slice none n c) bs) : Calls Tryz.prog 57 ⟨[(Value.slice none n c)]⟩ w (fun e w' => ∃ v', e = .returned v' ∧ Keeps none_ w w' ∧ OwnB w' w.heap.size 5 v' (bs)) := by
 have K0 : Keeps none_ w w := Keeps.refl w
 have hz : [] = bs := hv.none_nil.symm
 refine q_calls Tryz.func57 (by kernel_rfl) (by kernel_rfl) ?_
 refine qs ?_
 refine qg ?_
 refine og 1 [(0, (Value.slice none n c)), (2, (Value.slice none 0 0))] 1 ?_
 refine od ?_
 refine qs ?_
 refine qs ?_
 refine qg ?_
 refine og 2 [(0, (Value.slice none n c)), (2, (Value.slice none 0 0)), (4, (Value.bool true))] 2 ?_
 refine od ?_
 refine q_then (o := .tmp 4) (by kernel_rfl) rfl ?_
 refine qs ?_
 refine qg ?_
 refine og 1 [(0, (Value.slice none n c)), (2, (Value.slice none 0 0))] 1 ?_
 refine od ?_
 refine q_ret (by kernel_rfl) ?_
 refine ⟨(Value.slice none 0 0), retv_tmp rfl rfl, ?_⟩
 exact ⟨_, rfl, K0, hz ▸ World.ownsRow_nil _ _ _ _⟩

theorem Clone_some (w : World) (a : Addr) (c : Nat) (bs : List UInt8) (hv : RdB w (.slice (some a) bs.length c) bs) (hl : bs.length ≤ 140737488351232) : Calls Tryz.prog 57 ⟨[(Value.slice (some a) bs.length c)]⟩ w (fun e w' => ∃ v', e = .returned v' ∧ Keeps none_ w w' ∧ OwnB w' w.heap.size 5 v' (bs)) := by
 have K0 : Keeps none_ w w := Keeps.refl w
 refine q_calls Tryz.func57 (by kernel_rfl) (by kernel_rfl) ?_
 refine qs ?_
 refine qg ?_
 refine og 1 [(0, (Value.slice (some a) bs.length c)), (2, (Value.slice none 0 0))] 1 ?_
 refine od ?_
 refine qs ?_
 refine qs ?_
 refine qg ?_
 refine og 2 [(0, (Value.slice (some a) bs.length c)), (2, (Value.slice none 0 0)), (4, (Value.bool false))] 2 ?_
 refine od ?_
 refine q_else (o := .tmp 4) (by kernel_rfl) rfl ?_
 refine q_skip (by kernel_rfl) ?_
 refine qs ?_
 refine qg ?_
 refine Ops.new (o := rowL [] 5) (V := fun b => (Value.slice (some ⟨b, 0, none⟩) 0 0)) (by kernel_rfl) (d := (some 5)) (by kernel_rfl) (fun b => rfl) (fun b1 w2 hb3 H4 K5 hs6 => ?_)
 have nb1 : w.heap.size ≤ b1 := by have := K0.size; omega
 replace K0 := K0.t0 K5
 clear K5 hs6
 refine og 1 [(2, (Value.slice none 0 0)), (5, (Value.slice (some ⟨b1, 0, none⟩) 0 0)), (6, (Value.slice (some a) bs.length c))] 2 ?_
 have hE7 : OwnB w2 w.heap.size 5 (Value.slice (some ⟨b1, 0, none⟩) 0 0) [] := own_empty H4 nb1
 obtain ⟨v8, w9, hr10, hO11, K12⟩ := OwnB.app (ty := 22) tyB hE7 (hv.keep0 (by omega) K0) (by (try simp only at *); (try simp only [List.length_append] at *); (try simp only [List.length_cons] at *); (try simp only [List.length_nil] at *); omega) K0.size
 refine Ops.go (v := v8) (by kernel_rfl) (Runs.append (ts := #[22, 22]) (ty := 22) (vs := [(Value.slice (some ⟨b1, 0, none⟩) 0 0), (Value.slice (some a) bs.length c)]) (by kernel_rfl) hr10) (d := (some 7)) (by kernel_rfl) rfl ?_
 have K13 := Keeps.own2 K0 K12
 clear H4 hE7 K0 hr10 K12
 refine og 1 [(2, v8)] 4 ?_
 refine od ?_
 refine q_ret (by kernel_rfl) ?_
 refine ⟨v8, retv_tmp rfl rfl, ?_⟩
 exact ⟨_, rfl, K13, hO11⟩

theorem Clone_calls (w : World) (v : Value) (bs : List UInt8) (hv : RdB w v bs) (hl : bs.length ≤ 140737488351232) : Calls Tryz.prog 57 ⟨[v]⟩ w (fun e w' => ∃ v', e = .returned v' ∧ Keeps none_ w w' ∧ OwnB w' w.heap.size 5 v' (bs)) := by
 obtain ⟨A, c, rfl⟩ := hv.form
 cases A with
 | none => exact Clone_nil w _ c bs hv
 | some a => exact Clone_some w a c bs hv hl

theorem NewReader_calls (w : World) (v : Value) (bs : List UInt8) (hv : RdB w v bs) (hl : bs.length ≤ 140737488351232) : Calls Tryz.prog 18 ⟨[v]⟩ w (fun e w' => ∃ b A c, e = .returned (.pointer (some ⟨b, 0, none⟩)) ∧ w.heap.size ≤ b ∧ Keeps none_ w w' ∧ Has w' b (rowL (rdrL A c ⟨bs, 0, 0⟩) 86) ∧ RdO w' A c bs ∧ (∀ g o s, A = some ⟨g, o, s⟩ → g ≠ b) ∧ (∀ g o s, A = some ⟨g, o, s⟩ → w.heap.size ≤ g)) := by
 have K0 : Keeps none_ w w := Keeps.refl w
 refine q_calls Tryz.func18 (by kernel_rfl) (by kernel_rfl) ?_
 refine qs ?_
 refine qg ?_
 refine og 1 [(0, v), (2, (Value.pointer none))] 1 ?_
 refine od ?_
 refine qs ?_
 refine qg ?_
 refine og 1 [(2, (Value.pointer none)), (3, v)] 1 ?_
 refine Ops.call (by kernel_rfl) (d := (some 4)) (by kernel_rfl) (Clone_calls _ v bs (hv.keep0 (by omega) K0) (by omega)) ?_
 rintro _ w2 ⟨v1, rfl, K3, hO4⟩
 obtain ⟨A5, c6, rfl, hr7, hge8⟩ := OwnB.rdo hO4
 have hszhr7 := K0.size
 clear hO4
 refine ⟨_, _, rfl, rfl, ?_⟩
 replace K0 := K0.t0 K3
 clear K3
 refine og 1 [(2, (Value.pointer none)), (5, (agg [(Value.slice A5 bs.length c6), (i64 0), (i64 0)]))] 3 ?_
 refine Ops.new (o := rowL [(Value.slice A5 bs.length c6), (i64 0), (i64 0)] 86) (V := fun b => (ptr b)) (by kernel_rfl) (d := (some 6)) (by kernel_rfl) (fun b => rfl) (fun b9 w10 hb11 H12 K13 hs14 => ?_)
 have nb9 : w.heap.size ≤ b9 := by have := K0.size; omega
 have ob15 : ∀ i o s, A5 = some ⟨i, o, s⟩ → i ≠ b9 := fun i o s hi => by have := hr7.2 i o s hi; omega
 replace K0 := K0.t0 K13
 replace hr7 := RdO.keep0 hr7 K13
 clear K13 hs14
 refine og 1 [(2, (ptr b9))] 5 ?_
 refine od ?_
 refine q_ret (by kernel_rfl) ?_
 refine ⟨(ptr b9), retv_tmp rfl rfl, ?_⟩
 exact ⟨b9, A5, c6, rfl, nb9, K0, H12, hr7, ob15, fun g o s hi => by have := hge8 g o s hi; omega⟩
end Go.Proofs.YtooginpgclcldaaGreatDoor
namespace Go.Proofs.YtooginpgclcldaaGreatDoor
open Go.Q Go.RowKit

theorem sized_calls (w : World) (b : Nat) (A : Option Addr) (c : Nat) (r : Rdr) (hok : r.Ok) (H0 : Has w b (rowL (rdrL A c r) 86)) (hR : RdO w A c r.bs) (hne : ∀ g o s, A = some ⟨g, o, s⟩ → g ≠ b) (most : Int) (hm : -9223372036854775808 ≤ most ∧ most ≤ 9223372036854775807) : Calls Tryz.prog 58 ⟨[(ptr b), (i64 most)]⟩ w (fun e w' => e = .returned (i64 (((r.sized most).1 : Nat) : Int)) ∧ Keeps (fun i => i = b) w w' ∧ Has w' b (rowL (rdrL A c (r.sized most).2) 86)) := by
 have hpos := hok.pos
 have hlen := hok.len
 have hsc := r.scan_le
 have hdl : (r.bs.drop r.pos).length = r.bs.length - r.pos := List.length_drop
 have hcap := hR.1.slice
 have Hb := H0.lt
 have K0 : Keeps (fun i => i = b) w w := (Keeps.refl w).mono (fun _ _ h => h.elim)
 have hub := r.uint_bs
 have hubl := congrArg List.length hub
 have hul := r.uint_lt
 refine q_calls Tryz.func58 (by kernel_rfl) (by kernel_rfl) ?_
 refine qs ?_
 refine qg ?_
 refine og 1 [(0, (ptr b)), (1, (i64 most)), (4, (i64 0))] 1 ?_
 refine od ?_
 refine qs ?_
 refine qs ?_
 refine qg ?_
 refine og 1 [(0, (ptr b)), (1, (i64 most)), (4, (i64 0)), (7, (ptr b))] 1 ?_
 refine Ops.call (by kernel_rfl) (d := (some 8)) (by kernel_rfl) (ok_calls _ b A c r hok H0 hR hne) ?_
 rintro _ w1 ⟨rfl, K2⟩
 refine ⟨_, _, rfl, rfl, ?_⟩
 replace K0 := K0.trans K2 (U := (fun i => i = b)) (fun i h1 h2 => h2) (fun i h1 h2 => by exact h2.elim)
 replace H0 := H0.keep K2 (fun h => h)
 replace hR := RdO.keep0 hR K2
 clear K2
 refine og 1 [(0, (ptr b)), (1, (i64 most)), (4, (i64 0)), (9, (Value.bool (!(r.why == 0))))] 3 ?_
 refine od ?_
 refine q_cond (o := .tmp 9) (b := (!(r.why == 0))) (by kernel_rfl) rfl (fun h3 => ?_) (fun h3 => ?_)
 ·rw [h3]
  have p4 : ¬ (r.why = 0) := of_beq_f (bnot_true h3)
  refine qs ?_
  refine qg ?_
  refine og 1 [(0, (ptr b)), (1, (i64 most)), (4, (i64 0))] 1 ?_
  refine od ?_
  refine q_ret (by kernel_rfl) ?_
  refine ⟨(i64 0), retv_tmp rfl rfl, ?_⟩
  have e : r.sized most = (0, r) := by unfold Rdr.sized; (repeat' split) <;> first | (exfalso; omega) | rfl | (simp only [Rdr.uint_bs]; done) | (rw [Rdr.uint_bs]; done)
  exact ⟨by first | (rw [e]; done) | (rw [e]; rfl), K0, by rw [e]; exact H0⟩
 ·rw [h3]
  have p5 : r.why = 0 := of_beq_t (bnot_false h3)
  refine q_skip (by kernel_rfl) ?_
  refine qs ?_
  refine qg ?_
  refine og 3 [(0, (ptr b)), (1, (i64 most)), (4, (i64 0)), (12, (Value.pointer (some ⟨b, 1, none⟩)))] 3 ?_
  refine Ops.go (v := (i64 ((r.pos : Nat) : Int))) (by kernel_rfl) (Runs.load (t := 3) (a := ⟨b, 1, none⟩) (by kernel_rfl) (H0.loads (by kernel_rfl))) (d := (some 13)) (by kernel_rfl) rfl ?_
  refine og 1 [(0, (ptr b)), (1, (i64 most)), (4, (i64 0)), (5, (i64 ((r.pos : Nat) : Int)))] 5 ?_
  refine od ?_
  refine qs ?_
  refine qg ?_
  refine og 1 [(0, (ptr b)), (1, (i64 most)), (4, (i64 0)), (5, (i64 ((r.pos : Nat) : Int))), (14, (ptr b))] 1 ?_
  refine Ops.call (by kernel_rfl) (d := (some 15)) (by kernel_rfl) (RdUint_calls _ b A c r hok H0 hR hne) ?_
  rintro _ w6 ⟨rfl, K7, H8⟩
  have hok9 := Rdr.Ok.uint hok
  have hu10 := Rdr.uint_lt r
  refine ⟨_, _, rfl, rfl, ?_⟩
  replace K0 := K0.trans K7 (U := (fun i => i = b)) (fun i h1 h2 => h2) (fun i h1 h2 => by have h2 : i = b := h2; show i = b; omega)
  replace hR := RdO.keep hR K7 (fun i _ _ hi hs => by have hs : i = b := hs; have := hne i _ _ hi; omega)
  clear K7
  have F11 : RdO w6 A c (r.uint.2).bs := by rw [Rdr.uint_bs]; exact hR
  clear hR
  refine og 1 [(0, (ptr b)), (1, (i64 most)), (4, (i64 0)), (5, (i64 ((r.pos : Nat) : Int))), (6, (Value.int IntKind.u64 ((r.uint.1 : Nat) : Int)))] 3 ?_
  refine od ?_
  refine qs ?_
  refine q_block (id := 0) (by kernel_rfl) ?_
  refine qs ?_
  refine qg ?_
  refine og 3 [(0, (ptr b)), (1, (i64 most)), (4, (i64 0)), (5, (i64 ((r.pos : Nat) : Int))), (6, (Value.int IntKind.u64 ((r.uint.1 : Nat) : Int))), (21, (Value.pointer (some ⟨b, 2, none⟩)))] 3 ?_
  refine Ops.go (v := (i64 r.uint.2.why)) (by kernel_rfl) (Runs.load (t := 25) (a := ⟨b, 2, none⟩) (by kernel_rfl) (H8.loads (by kernel_rfl))) (d := (some 22)) (by kernel_rfl) rfl ?_
  refine og 2 [(0, (ptr b)), (1, (i64 most)), (4, (i64 0)), (5, (i64 ((r.pos : Nat) : Int))), (6, (Value.int IntKind.u64 ((r.uint.1 : Nat) : Int))), (18, (Value.bool (r.uint.2.why != 0)))] 6 ?_
  refine od ?_
  refine q_cond (o := .tmp 18) (b := (r.uint.2.why != 0)) (by kernel_rfl) rfl (fun h12 => ?_) (fun h12 => ?_)
  ·rw [h12]
   have p13 : ¬ (r.uint.2.why = 0) := of_bne_t h12
   refine q_skip (by kernel_rfl) ?_
   refine qs ?_
   refine qg ?_
   refine og 4 [(4, (i64 0)), (47, (i64 ((r.pos : Nat) : Int))), (49, (Value.pointer (some ⟨b, 1, none⟩)))] 4 ?_
   refine Ops.put (t := 3) (b := b) (off := 1) (v := (i64 ((r.pos : Nat) : Int))) (ys := [(Value.slice A r.uint.2.bs.length c), (i64 ((r.pos : Nat) : Int)), (i64 r.uint.2.why)]) (by kernel_rfl) (by kernel_rfl) H8 (by kernel_rfl) (d := none) (by kernel_rfl) rfl (fun w14 H15 K16 => ?_)
   clear H8
   replace K0 := K0.trans K16 (U := (fun i => i = b)) (fun i h1 h2 => h2) (fun i h1 h2 => by have h2 : i = b := h2; show i = b; omega)
   replace F11 := RdO.keep F11 K16 (fun i _ _ hi hs => by have hs : i = b := hs; have := hne i _ _ hi; omega)
   clear K16
   refine od ?_
   refine qs ?_
   refine qg ?_
   refine og 1 [(4, (i64 0))] 1 ?_
   refine od ?_
   refine q_ret (by kernel_rfl) ?_
   refine ⟨(i64 0), retv_tmp rfl rfl, ?_⟩
   have e : r.sized most = (0, (⟨r.uint.2.bs, r.pos, r.uint.2.why⟩ : Rdr)) := by unfold Rdr.sized; (repeat' split) <;> first | (exfalso; omega) | rfl | (simp only [Rdr.uint_bs]; done) | (rw [Rdr.uint_bs]; done)
   exact ⟨by first | (rw [e]; done) | (rw [e]; rfl), K0, by rw [e]; exact H15⟩
  ·rw [h12]
   have p17 : r.uint.2.why = 0 := of_bne_f h12
   refine qs ?_
   refine qg ?_
   refine og 3 [(0, (ptr b)), (1, (i64 most)), (4, (i64 0)), (5, (i64 ((r.pos : Nat) : Int))), (6, (Value.int IntKind.u64 ((r.uint.1 : Nat) : Int))), (27, (Value.bool (decide (most < 0))))] 3 ?_
   refine Ops.split (decide (most < 0)) (fun h18 => ?_) (fun h18 => ?_)
   ·rw [h18]
    have p19 : most < 0 := of_decide_eq_true h18
    refine og 6 [(0, (ptr b)), (4, (i64 0)), (5, (i64 ((r.pos : Nat) : Int))), (6, (Value.int IntKind.u64 ((r.uint.1 : Nat) : Int))), (24, (Value.bool true))] 9 ?_
    refine od ?_
    refine q_then (o := .tmp 24) (by kernel_rfl) rfl ?_
    refine qg ?_
    refine og 3 [(0, (ptr b)), (4, (i64 0)), (5, (i64 ((r.pos : Nat) : Int))), (6, (Value.int IntKind.u64 ((r.uint.1 : Nat) : Int))), (35, (Value.pointer (some ⟨b, 2, none⟩)))] 3 ?_
    refine Ops.put (t := 25) (b := b) (off := 2) (v := (i64 3)) (ys := [(Value.slice A r.uint.2.bs.length c), (i64 ((r.uint.2.pos : Nat) : Int)), (i64 3)]) (by kernel_rfl) (by kernel_rfl) H8 (by kernel_rfl) (d := none) (by kernel_rfl) rfl (fun w20 H21 K22 => ?_)
    clear H8
    replace K0 := K0.trans K22 (U := (fun i => i = b)) (fun i h1 h2 => h2) (fun i h1 h2 => by have h2 : i = b := h2; show i = b; omega)
    replace F11 := RdO.keep F11 K22 (fun i _ _ hi hs => by have hs : i = b := hs; have := hne i _ _ hi; omega)
    clear K22
    refine od ?_
    refine qs ?_
    refine qg ?_
    refine og 4 [(4, (i64 0)), (47, (i64 ((r.pos : Nat) : Int))), (49, (Value.pointer (some ⟨b, 1, none⟩)))] 4 ?_
    refine Ops.put (t := 3) (b := b) (off := 1) (v := (i64 ((r.pos : Nat) : Int))) (ys := [(Value.slice A r.uint.2.bs.length c), (i64 ((r.pos : Nat) : Int)), (i64 3)]) (by kernel_rfl) (by kernel_rfl) H21 (by kernel_rfl) (d := none) (by kernel_rfl) rfl (fun w23 H24 K25 => ?_)
    clear H21
    replace K0 := K0.trans K25 (U := (fun i => i = b)) (fun i h1 h2 => h2) (fun i h1 h2 => by have h2 : i = b := h2; show i = b; omega)
    replace F11 := RdO.keep F11 K25 (fun i _ _ hi hs => by have hs : i = b := hs; have := hne i _ _ hi; omega)
    clear K25
    refine od ?_
    refine qs ?_
    refine qg ?_
    refine og 1 [(4, (i64 0))] 1 ?_
    refine od ?_
    refine q_ret (by kernel_rfl) ?_
    refine ⟨(i64 0), retv_tmp rfl rfl, ?_⟩
    have e : r.sized most = (0, (⟨r.uint.2.bs, r.pos, 3⟩ : Rdr)) := by unfold Rdr.sized; (repeat' split) <;> first | (exfalso; omega) | rfl | (simp only [Rdr.uint_bs]; done) | (rw [Rdr.uint_bs]; done)
    exact ⟨by first | (rw [e]; done) | (rw [e]; rfl), K0, by rw [e]; exact H24⟩
   ·rw [h18]
    have p26 : ¬ (most < 0) := of_decide_eq_false h18
    refine og 3 [(0, (ptr b)), (4, (i64 0)), (5, (i64 ((r.pos : Nat) : Int))), (6, (Value.int IntKind.u64 ((r.uint.1 : Nat) : Int))), (27, (Value.bool false)), (28, (Value.int IntKind.u64 ((r.uint.1 : Nat) : Int))), (30, (Value.int IntKind.u64 (IntKind.u64.wrap (most))))] 6 ?_
    have e27 : IntKind.u64.wrap (most) = most := wrap_u64 (by omega) (by omega)
    rw [e27]
    refine og 3 [(0, (ptr b)), (4, (i64 0)), (5, (i64 ((r.pos : Nat) : Int))), (6, (Value.int IntKind.u64 ((r.uint.1 : Nat) : Int))), (24, (Value.bool (decide (((r.uint.1 : Nat) : Int) > most))))] 9 ?_
    refine od ?_
    refine q_cond (o := .tmp 24) (b := (decide (((r.uint.1 : Nat) : Int) > most))) (by kernel_rfl) rfl (fun h28 => ?_) (fun h28 => ?_)
    ·rw [h28]
     have p29 : ((r.uint.1 : Nat) : Int) > most := of_decide_eq_true h28
     refine qg ?_
     refine og 3 [(0, (ptr b)), (4, (i64 0)), (5, (i64 ((r.pos : Nat) : Int))), (6, (Value.int IntKind.u64 ((r.uint.1 : Nat) : Int))), (35, (Value.pointer (some ⟨b, 2, none⟩)))] 3 ?_
     refine Ops.put (t := 25) (b := b) (off := 2) (v := (i64 3)) (ys := [(Value.slice A r.uint.2.bs.length c), (i64 ((r.uint.2.pos : Nat) : Int)), (i64 3)]) (by kernel_rfl) (by kernel_rfl) H8 (by kernel_rfl) (d := none) (by kernel_rfl) rfl (fun w30 H31 K32 => ?_)
     clear H8
     replace K0 := K0.trans K32 (U := (fun i => i = b)) (fun i h1 h2 => h2) (fun i h1 h2 => by have h2 : i = b := h2; show i = b; omega)
     replace F11 := RdO.keep F11 K32 (fun i _ _ hi hs => by have hs : i = b := hs; have := hne i _ _ hi; omega)
     clear K32
     refine od ?_
     refine qs ?_
     refine qg ?_
     refine og 4 [(4, (i64 0)), (47, (i64 ((r.pos : Nat) : Int))), (49, (Value.pointer (some ⟨b, 1, none⟩)))] 4 ?_
     refine Ops.put (t := 3) (b := b) (off := 1) (v := (i64 ((r.pos : Nat) : Int))) (ys := [(Value.slice A r.uint.2.bs.length c), (i64 ((r.pos : Nat) : Int)), (i64 3)]) (by kernel_rfl) (by kernel_rfl) H31 (by kernel_rfl) (d := none) (by kernel_rfl) rfl (fun w33 H34 K35 => ?_)
     clear H31
     replace K0 := K0.trans K35 (U := (fun i => i = b)) (fun i h1 h2 => h2) (fun i h1 h2 => by have h2 : i = b := h2; show i = b; omega)
     replace F11 := RdO.keep F11 K35 (fun i _ _ hi hs => by have hs : i = b := hs; have := hne i _ _ hi; omega)
     clear K35
     refine od ?_
     refine qs ?_
     refine qg ?_
     refine og 1 [(4, (i64 0))] 1 ?_
     refine od ?_
     refine q_ret (by kernel_rfl) ?_
     refine ⟨(i64 0), retv_tmp rfl rfl, ?_⟩
     have e : r.sized most = (0, (⟨r.uint.2.bs, r.pos, 3⟩ : Rdr)) := by unfold Rdr.sized; (repeat' split) <;> first | (exfalso; omega) | rfl | (simp only [Rdr.uint_bs]; done) | (rw [Rdr.uint_bs]; done)
     exact ⟨by first | (rw [e]; done) | (rw [e]; rfl), K0, by rw [e]; exact H34⟩
    ·rw [h28]
     have p36 : ¬ (((r.uint.1 : Nat) : Int) > most) := of_decide_eq_false h28
     refine qs ?_
     refine qg ?_
     refine og 2 [(0, (ptr b)), (4, (i64 0)), (5, (i64 ((r.pos : Nat) : Int))), (6, (Value.int IntKind.u64 ((r.uint.1 : Nat) : Int))), (37, (Value.int IntKind.u64 ((r.uint.1 : Nat) : Int))), (38, (ptr b))] 2 ?_
     refine Ops.call (by kernel_rfl) (d := (some 39)) (by kernel_rfl) (left_calls _ b A c r.uint.2 hok9 H8 F11 hne) ?_
     rintro _ w37 ⟨A39, c40, rfl, K38, h41, hlb42⟩
     have ob43 := left_ne (n := (r.uint.2.bs.drop r.uint.2.pos).length) (c := c40) hlb42 hne
     have hdlA39 : (r.uint.2.bs.drop r.uint.2.pos).length = r.uint.2.bs.length - r.uint.2.pos := List.length_drop
     have hslA39 := RdB.slice h41
     refine ⟨_, _, rfl, rfl, ?_⟩
     replace K0 := K0.trans K38 (U := (fun i => i = b)) (fun i h1 h2 => h2) (fun i h1 h2 => by exact h2.elim)
     replace H8 := H8.keep K38 (fun h => h)
     replace F11 := RdO.keep0 F11 K38
     clear K38
     refine og 2 [(0, (ptr b)), (4, (i64 0)), (5, (i64 ((r.pos : Nat) : Int))), (6, (Value.int IntKind.u64 ((r.uint.1 : Nat) : Int))), (37, (Value.int IntKind.u64 ((r.uint.1 : Nat) : Int))), (41, (Value.int IntKind.u64 (IntKind.u64.wrap ((((r.uint.2.bs.drop r.uint.2.pos).length : Nat) : Int)))))] 5 ?_
     have e44 : IntKind.u64.wrap ((((r.uint.2.bs.drop r.uint.2.pos).length : Nat) : Int)) = (((r.uint.2.bs.drop r.uint.2.pos).length : Nat) : Int) := wrap_u64 (by omega) (by omega)
     rw [e44]
     refine og 2 [(0, (ptr b)), (4, (i64 0)), (5, (i64 ((r.pos : Nat) : Int))), (6, (Value.int IntKind.u64 ((r.uint.1 : Nat) : Int))), (36, (Value.bool (decide (((r.uint.1 : Nat) : Int) > (((r.uint.2.bs.drop r.uint.2.pos).length : Nat) : Int)))))] 7 ?_
     refine od ?_
     refine q_cond (o := .tmp 36) (b := (decide (((r.uint.1 : Nat) : Int) > (((r.uint.2.bs.drop r.uint.2.pos).length : Nat) : Int)))) (by kernel_rfl) rfl (fun h45 => ?_) (fun h45 => ?_)
     ·rw [h45]
      have p46 : ((r.uint.1 : Nat) : Int) > (((r.uint.2.bs.drop r.uint.2.pos).length : Nat) : Int) := of_decide_eq_true h45
      refine qg ?_
      refine og 3 [(0, (ptr b)), (4, (i64 0)), (5, (i64 ((r.pos : Nat) : Int))), (6, (Value.int IntKind.u64 ((r.uint.1 : Nat) : Int))), (45, (Value.pointer (some ⟨b, 2, none⟩)))] 3 ?_
      refine Ops.put (t := 25) (b := b) (off := 2) (v := (i64 10)) (ys := [(Value.slice A r.uint.2.bs.length c), (i64 ((r.uint.2.pos : Nat) : Int)), (i64 10)]) (by kernel_rfl) (by kernel_rfl) H8 (by kernel_rfl) (d := none) (by kernel_rfl) rfl (fun w47 H48 K49 => ?_)
      clear H8
      replace K0 := K0.trans K49 (U := (fun i => i = b)) (fun i h1 h2 => h2) (fun i h1 h2 => by have h2 : i = b := h2; show i = b; omega)
      replace F11 := RdO.keep F11 K49 (fun i _ _ hi hs => by have hs : i = b := hs; have := hne i _ _ hi; omega)
      replace h41 := Rd.keep (by omega) h41 K49 (fun i hi hs => by have hs : i = b := hs; have := ob43 i hi; omega)
      clear K49
      refine od ?_
      refine qs ?_
      refine qg ?_
      refine og 4 [(4, (i64 0)), (47, (i64 ((r.pos : Nat) : Int))), (49, (Value.pointer (some ⟨b, 1, none⟩)))] 4 ?_
      refine Ops.put (t := 3) (b := b) (off := 1) (v := (i64 ((r.pos : Nat) : Int))) (ys := [(Value.slice A r.uint.2.bs.length c), (i64 ((r.pos : Nat) : Int)), (i64 10)]) (by kernel_rfl) (by kernel_rfl) H48 (by kernel_rfl) (d := none) (by kernel_rfl) rfl (fun w50 H51 K52 => ?_)
      clear H48
      replace K0 := K0.trans K52 (U := (fun i => i = b)) (fun i h1 h2 => h2) (fun i h1 h2 => by have h2 : i = b := h2; show i = b; omega)
      replace F11 := RdO.keep F11 K52 (fun i _ _ hi hs => by have hs : i = b := hs; have := hne i _ _ hi; omega)
      replace h41 := Rd.keep (by omega) h41 K52 (fun i hi hs => by have hs : i = b := hs; have := ob43 i hi; omega)
      clear K52
      refine od ?_
      refine qs ?_
      refine qg ?_
      refine og 1 [(4, (i64 0))] 1 ?_
      refine od ?_
      refine q_ret (by kernel_rfl) ?_
      refine ⟨(i64 0), retv_tmp rfl rfl, ?_⟩
      have e : r.sized most = (0, (⟨r.uint.2.bs, r.pos, 10⟩ : Rdr)) := by unfold Rdr.sized; (repeat' split) <;> first | (exfalso; omega) | rfl | (simp only [Rdr.uint_bs]; done) | (rw [Rdr.uint_bs]; done)
      exact ⟨by first | (rw [e]; done) | (rw [e]; rfl), K0, by rw [e]; exact H51⟩
     ·rw [h45]
      have p53 : ¬ (((r.uint.1 : Nat) : Int) > (((r.uint.2.bs.drop r.uint.2.pos).length : Nat) : Int)) := of_decide_eq_false h45
      refine qs ?_
      refine qg ?_
      refine og 2 [(0, (ptr b)), (4, (i64 0)), (5, (i64 ((r.pos : Nat) : Int))), (17, (i64 (IntKind.i64.wrap (((r.uint.1 : Nat) : Int)))))] 2 ?_
      have e54 : IntKind.i64.wrap (((r.uint.1 : Nat) : Int)) = ((r.uint.1 : Nat) : Int) := wrap_i64 (by omega) (by omega)
      rw [e54]
      refine og 1 [(0, (ptr b)), (4, (i64 ((r.uint.1 : Nat) : Int))), (5, (i64 ((r.pos : Nat) : Int)))] 3 ?_
      refine od ?_
      refine q_ret (by kernel_rfl) ?_
      refine ⟨(i64 ((r.uint.1 : Nat) : Int)), retv_tmp rfl rfl, ?_⟩
      have e : r.sized most = (r.uint.1, r.uint.2) := by unfold Rdr.sized; (repeat' split) <;> first | (exfalso; omega) | rfl | (simp only [Rdr.uint_bs]; done) | (rw [Rdr.uint_bs]; done)
      exact ⟨by first | (rw [e]; done) | (rw [e]; rfl), K0, by rw [e]; exact H8⟩

theorem Count_calls (w : World) (b : Nat) (A : Option Addr) (c : Nat) (r : Rdr) (hok : r.Ok) (H0 : Has w b (rowL (rdrL A c r) 86)) (hR : RdO w A c r.bs) (hne : ∀ g o s, A = some ⟨g, o, s⟩ → g ≠ b) (most : Int) (hm : -9223372036854775808 ≤ most ∧ most ≤ 9223372036854775807) : Calls Tryz.prog 19 ⟨[(ptr b), (i64 most)]⟩ w (fun e w' => e = .returned (i64 (((r.sized most).1 : Nat) : Int)) ∧ Keeps (fun i => i = b) w w' ∧ Has w' b (rowL (rdrL A c (r.sized most).2) 86)) := by
 have hpos := hok.pos
 have hlen := hok.len
 have hsc := r.scan_le
 have hdl : (r.bs.drop r.pos).length = r.bs.length - r.pos := List.length_drop
 have hcap := hR.1.slice
 have Hb := H0.lt
 have K0 : Keeps (fun i => i = b) w w := (Keeps.refl w).mono (fun _ _ h => h.elim)
 refine q_calls Tryz.func19 (by kernel_rfl) (by kernel_rfl) ?_
 refine qs ?_
 refine qg ?_
 refine og 1 [(0, (ptr b)), (1, (i64 most)), (4, (i64 0))] 1 ?_
 refine od ?_
 refine qs ?_
 refine qg ?_
 refine og 2 [(4, (i64 0)), (5, (ptr b)), (6, (i64 most))] 2 ?_
 refine Ops.call (by kernel_rfl) (d := (some 7)) (by kernel_rfl) (sized_calls _ b A c r hok H0 hR hne most (by omega)) ?_
 rintro _ w1 ⟨rfl, K2, H3⟩
 have hok4 : (r.sized most).2.Ok := Rdr.Ok.sized hok most
 have hu5 := Rdr.sized_le hok most
 have hu6 := Rdr.sized_lt r most
 refine ⟨_, _, rfl, rfl, ?_⟩
 replace K0 := K0.trans K2 (U := (fun i => i = b)) (fun i h1 h2 => h2) (fun i h1 h2 => by have h2 : i = b := h2; show i = b; omega)
 replace hR := RdO.keep hR K2 (fun i _ _ hi hs => by have hs : i = b := hs; have := hne i _ _ hi; omega)
 clear K2
 have F7 : RdO w1 A c (r.sized most).2.bs := by rw [Rdr.sized_bs]; exact hR
 clear hR
 refine og 1 [(4, (i64 (((r.sized most).1 : Nat) : Int)))] 4 ?_
 refine od ?_
 refine q_ret (by kernel_rfl) ?_
 refine ⟨(i64 (((r.sized most).1 : Nat) : Int)), retv_tmp rfl rfl, ?_⟩
 have e : r.sized most = ((r.sized most).1, (r.sized most).2) := by rfl
 exact ⟨by first | (rw [e]; done) | (rw [e]; rfl), K0, by rw [e]; exact H3⟩

theorem RdBytes_calls (w : World) (b : Nat) (A : Option Addr) (c : Nat) (r : Rdr) (hok : r.Ok) (H0 : Has w b (rowL (rdrL A c r) 86)) (hR : RdO w A c r.bs) (hne : ∀ g o s, A = some ⟨g, o, s⟩ → g ≠ b) : Calls Tryz.prog 59 ⟨[(ptr b)]⟩ w (fun e w' => ∃ v', e = .returned v' ∧ Keeps (fun i => i = b) w w' ∧ OwnB w' w.heap.size 5 v' (r.bytes.1) ∧ Has w' b (rowL (rdrL A c (r.bytes).2) 86)) := by
 have hpos := hok.pos
 have hlen := hok.len
 have hsc := r.scan_le
 have hdl : (r.bs.drop r.pos).length = r.bs.length - r.pos := List.length_drop
 have hcap := hR.1.slice
 have Hb := H0.lt
 have K0 : Keeps (fun i => i = b) w w := (Keeps.refl w).mono (fun _ _ h => h.elim)
 have hsb := r.sized_bs 65536
 have hsbl := congrArg List.length hsb
 refine q_calls Tryz.func59 (by kernel_rfl) (by kernel_rfl) ?_
 refine qs ?_
 refine qg ?_
 refine og 1 [(0, (ptr b)), (2, (Value.slice none 0 0))] 1 ?_
 refine od ?_
 refine qs ?_
 refine qg ?_
 refine og 1 [(0, (ptr b)), (2, (Value.slice none 0 0)), (5, (ptr b))] 1 ?_
 refine Ops.call (by kernel_rfl) (d := (some 6)) (by kernel_rfl) (sized_calls _ b A c r hok H0 hR hne 65536 (by omega)) ?_
 rintro _ w1 ⟨rfl, K2, H3⟩
 have hok4 : (r.sized 65536).2.Ok := Rdr.Ok.sized hok 65536
 have hu5 := Rdr.sized_le hok 65536
 have hu6 := Rdr.sized_lt r 65536
 refine ⟨_, _, rfl, rfl, ?_⟩
 replace K0 := K0.trans K2 (U := (fun i => i = b)) (fun i h1 h2 => h2) (fun i h1 h2 => by have h2 : i = b := h2; show i = b; omega)
 replace hR := RdO.keep hR K2 (fun i _ _ hi hs => by have hs : i = b := hs; have := hne i _ _ hi; omega)
 clear K2
 have F7 : RdO w1 A c (r.sized 65536).2.bs := by rw [Rdr.sized_bs]; exact hR
 clear hR
 refine og 1 [(0, (ptr b)), (2, (Value.slice none 0 0)), (3, (i64 (((r.sized 65536).1 : Nat) : Int)))] 3 ?_
 refine od ?_
 refine qs ?_
 refine qs ?_
 refine qg ?_
 refine og 1 [(0, (ptr b)), (2, (Value.slice none 0 0)), (3, (i64 (((r.sized 65536).1 : Nat) : Int))), (7, (ptr b))] 1 ?_
 refine Ops.call (by kernel_rfl) (d := (some 8)) (by kernel_rfl) (ok_calls _ b A c ((r.sized 65536).2) hok4 H3 F7 hne) ?_
 rintro _ w8 ⟨rfl, K9⟩
 refine ⟨_, _, rfl, rfl, ?_⟩
 replace K0 := K0.trans K9 (U := (fun i => i = b)) (fun i h1 h2 => h2) (fun i h1 h2 => by exact h2.elim)
 replace H3 := H3.keep K9 (fun h => h)
 replace F7 := RdO.keep0 F7 K9
 clear K9
 refine og 1 [(0, (ptr b)), (2, (Value.slice none 0 0)), (3, (i64 (((r.sized 65536).1 : Nat) : Int))), (9, (Value.bool (!((((r.sized 65536).2).why) == 0))))] 3 ?_
 refine od ?_
 refine q_cond (o := .tmp 9) (b := (!((((r.sized 65536).2).why) == 0))) (by kernel_rfl) rfl (fun h10 => ?_) (fun h10 => ?_)
 ·rw [h10]
  have p11 : ¬ (((r.sized 65536).2).why = 0) := of_beq_f (bnot_true h10)
  refine qs ?_
  refine qg ?_
  refine og 1 [(0, (ptr b)), (2, (Value.slice none 0 0)), (3, (i64 (((r.sized 65536).1 : Nat) : Int)))] 1 ?_
  refine od ?_
  refine q_ret (by kernel_rfl) ?_
  refine ⟨(Value.slice none 0 0), retv_tmp rfl rfl, ?_⟩
  have e : r.bytes = ([], (r.sized 65536).2) := by unfold Rdr.bytes; split <;> first | (exfalso; omega) | rfl | (simp only [Rdr.sized_bs]; done)
  exact ⟨(Value.slice none 0 0), rfl, K0, by rw [e]; exact (World.ownsRow_nil _ _ _ _), by rw [e]; exact H3⟩
 ·rw [h10]
  have p12 : ((r.sized 65536).2).why = 0 := of_beq_t (bnot_false h10)
  refine q_skip (by kernel_rfl) ?_
  refine qs ?_
  refine qg ?_
  refine og 1 [(0, (ptr b)), (2, (Value.slice none 0 0)), (3, (i64 (((r.sized 65536).1 : Nat) : Int))), (10, (ptr b))] 1 ?_
  refine Ops.call (by kernel_rfl) (d := (some 11)) (by kernel_rfl) (left_calls _ b A c ((r.sized 65536).2) hok4 H3 F7 hne) ?_
  rintro _ w13 ⟨A15, c16, rfl, K14, h17, hlb18⟩
  have ob19 := left_ne (n := (((r.sized 65536).2).bs.drop ((r.sized 65536).2).pos).length) (c := c16) hlb18 hne
  have hdlA15 : (((r.sized 65536).2).bs.drop ((r.sized 65536).2).pos).length = ((r.sized 65536).2).bs.length - ((r.sized 65536).2).pos := List.length_drop
  have hslA15 := RdB.slice h17
  refine ⟨_, _, rfl, rfl, ?_⟩
  replace K0 := K0.trans K14 (U := (fun i => i = b)) (fun i h1 h2 => h2) (fun i h1 h2 => by exact h2.elim)
  replace H3 := H3.keep K14 (fun h => h)
  replace F7 := RdO.keep0 F7 K14
  clear K14
  refine og 1 [(0, (ptr b)), (2, (Value.slice none 0 0)), (3, (i64 (((r.sized 65536).1 : Nat) : Int))), (11, (Value.slice A15 ((((r.sized 65536).2).bs.drop ((r.sized 65536).2).pos).length) c16)), (12, (i64 (((r.sized 65536).1 : Nat) : Int)))] 3 ?_
  have hcut := run_cut (sz := 1) (P := Tryz.prog) (w := w13) (t := 22) (A := A15) (n := ((((r.sized 65536).2).bs.drop ((r.sized 65536).2).pos).length)) (c := c16) 0 ((r.sized 65536).1) c16 (lo := none) (hi := some (i64 (((r.sized 65536).1 : Nat) : Int))) (mx := none) tyB.slice (by kernel_rfl) (.inl ⟨rfl, rfl⟩) (.inr ⟨_, rfl⟩) (.inl ⟨rfl, rfl⟩) (by omega) (by omega) (by omega)
  have hA0 : (if c16 = 0 then A15 else Option.map (fun q => Addr.add q (0 * 1)) A15) = A15 := by cases A15 <;> simp [Addr.add]
  rw [hA0, Nat.sub_zero, Nat.sub_zero] at hcut
  have F20 := RdB.take h17 (k := (r.sized 65536).1) (by omega)
  have htl : ((((r.sized 65536).2).bs.drop ((r.sized 65536).2).pos).take ((r.sized 65536).1)).length = (r.sized 65536).1 := by rw [List.length_take]; omega
  refine Ops.go (v := (Value.slice A15 ((r.sized 65536).1) c16)) (by kernel_rfl) (Runs.slice (by kernel_rfl) hcut) (d := (some 13)) (by kernel_rfl) rfl ?_
  clear hcut hA0
  refine Ops.call (by kernel_rfl) (d := (some 14)) (by kernel_rfl) (Clone_calls _ (Value.slice A15 ((r.sized 65536).1) c16) ((((r.sized 65536).2).bs.drop ((r.sized 65536).2).pos).take ((r.sized 65536).1)) F20 (by omega)) ?_
  rintro _ w22 ⟨v21, rfl, K23, hO24⟩
  have ob26 : ∀ i, (v21).ownBlock = some i → i ≠ b := fun i hi => by have := (World.ownsRow.lt hO24 i hi).1; have := H3.lt; omega
  have oo27 : ∀ i o s, A = some ⟨i, o, s⟩ → (v21).ownBlock = some i → False := fun i o s hi hs => by have := (World.ownsRow.lt hO24 i hs).1; have := F7.2 i o s hi; omega
  have O25 := own_base hO24 K0.size
  clear hO24
  refine ⟨_, _, rfl, rfl, ?_⟩
  replace K0 := K0.trans K23 (U := (fun i => i = b)) (fun i h1 h2 => h2) (fun i h1 h2 => by exact h2.elim)
  replace H3 := H3.keep K23 (fun h => h)
  replace F7 := RdO.keep0 F7 K23
  replace h17 := (Rd.keep0 (by omega) h17 K23)
  replace F20 := (Rd.keep0 (by omega) F20 K23)
  clear K23
  refine og 1 [(0, (ptr b)), (2, (Value.slice none 0 0)), (3, (i64 (((r.sized 65536).1 : Nat) : Int))), (4, v21)] 6 ?_
  refine od ?_
  refine qs ?_
  refine qg ?_
  refine og 3 [(2, (Value.slice none 0 0)), (3, (i64 (((r.sized 65536).1 : Nat) : Int))), (4, v21), (15, (ptr b)), (17, (Value.pointer (some ⟨b, 1, none⟩)))] 3 ?_
  refine Ops.go (v := (i64 ((((r.sized 65536).2).pos : Nat) : Int))) (by kernel_rfl) (Runs.load (t := 3) (a := ⟨b, 1, none⟩) (by kernel_rfl) (H3.loads (by kernel_rfl))) (d := (some 18)) (by kernel_rfl) rfl ?_
  refine og 2 [(2, (Value.slice none 0 0)), (4, v21), (15, (ptr b)), (20, (i64 (IntKind.i64.wrap (((((r.sized 65536).2).pos : Nat) : Int) + (((r.sized 65536).1 : Nat) : Int)))))] 6 ?_
  have e29 : IntKind.i64.wrap (((((r.sized 65536).2).pos : Nat) : Int) + (((r.sized 65536).1 : Nat) : Int)) = (((((r.sized 65536).2).pos) + ((r.sized 65536).1) : Nat) : Int) := by rw [wrap_i64 (by omega) (by omega)]; omega
  rw [e29]
  clear e29
  refine og 2 [(2, (Value.slice none 0 0)), (4, v21), (20, (i64 (((((r.sized 65536).2).pos) + ((r.sized 65536).1) : Nat) : Int))), (22, (Value.pointer (some ⟨b, 1, none⟩)))] 8 ?_
  refine Ops.put (t := 3) (b := b) (off := 1) (v := (i64 (((((r.sized 65536).2).pos) + ((r.sized 65536).1) : Nat) : Int))) (ys := [(Value.slice A (((r.sized 65536).2).bs.length) c), (i64 (((((r.sized 65536).2).pos) + ((r.sized 65536).1) : Nat) : Int)), (i64 (((r.sized 65536).2).why))]) (by kernel_rfl) (by kernel_rfl) H3 (by kernel_rfl) (d := none) (by kernel_rfl) rfl (fun w30 H31 K32 => ?_)
  clear H3
  replace K0 := K0.trans K32 (U := (fun i => i = b)) (fun i h1 h2 => h2) (fun i h1 h2 => by have h2 : i = b := h2; show i = b; omega)
  replace F7 := RdO.keep F7 K32 (fun i _ _ hi hs => by have hs : i = b := hs; have := hne i _ _ hi; omega)
  replace h17 := Rd.keep (by omega) h17 K32 (fun i hi hs => by have hs : i = b := hs; have := ob19 i hi; omega)
  clear F20
  replace O25 := own_keep O25 K32 (fun i hi hs => by have hs : i = b := hs; have := ob26 i hi; omega)
  clear K32
  refine od ?_
  refine qs ?_
  refine qg ?_
  refine og 2 [(2, v21)] 2 ?_
  refine od ?_
  refine q_ret (by kernel_rfl) ?_
  refine ⟨v21, retv_tmp rfl rfl, ?_⟩
  have e : r.bytes = ((((r.sized 65536).2).bs.drop ((r.sized 65536).2).pos).take ((r.sized 65536).1), (⟨((r.sized 65536).2).bs, (((r.sized 65536).2).pos) + ((r.sized 65536).1), ((r.sized 65536).2).why⟩ : Rdr)) := by unfold Rdr.bytes; split <;> first | (exfalso; omega) | rfl | (simp only [Rdr.sized_bs]; done)
  exact ⟨v21, rfl, K0, by rw [e]; exact O25, by rw [e]; exact H31⟩

theorem RdText_calls (w : World) (b : Nat) (A : Option Addr) (c : Nat) (r : Rdr) (hok : r.Ok) (H0 : Has w b (rowL (rdrL A c r) 86)) (hR : RdO w A c r.bs) (hne : ∀ g o s, A = some ⟨g, o, s⟩ → g ≠ b) : Calls Tryz.prog 20 ⟨[(ptr b)]⟩ w (fun e w' => e = .returned (.string (str r.bytes.1)) ∧ Keeps (fun i => i = b) w w' ∧ Has w' b (rowL (rdrL A c (r.bytes).2) 86)) := by
 have hpos := hok.pos
 have hlen := hok.len
 have hsc := r.scan_le
 have hdl : (r.bs.drop r.pos).length = r.bs.length - r.pos := List.length_drop
 have hcap := hR.1.slice
 have Hb := H0.lt
 have K0 : Keeps (fun i => i = b) w w := (Keeps.refl w).mono (fun _ _ h => h.elim)
 refine q_calls Tryz.func20 (by kernel_rfl) (by kernel_rfl) ?_
 refine qs ?_
 refine qg ?_
 refine og 1 [(0, (ptr b)), (2, (Value.string (str ([] : List UInt8))))] 1 ?_
 refine od ?_
 refine qs ?_
 refine qg ?_
 refine og 1 [(2, (Value.string (str ([] : List UInt8)))), (3, (ptr b))] 1 ?_
 refine Ops.call (by kernel_rfl) (d := (some 4)) (by kernel_rfl) (RdBytes_calls _ b A c r hok H0 hR hne ) ?_
 rintro _ w1 ⟨v6, rfl, K2, hO7, H3⟩
 have hok4 : (r.bytes).2.Ok := Rdr.Ok.bytes hok
 have hu5 := Rdr.bytes_le hok
 have ob9 : ∀ i, (v6).ownBlock = some i → i ≠ b := fun i hi => by have := (World.ownsRow.lt hO7 i hi).1; have := H0.lt; omega
 have oo10 : ∀ i o s, A = some ⟨i, o, s⟩ → (v6).ownBlock = some i → False := fun i o s hi hs => by have := (World.ownsRow.lt hO7 i hs).1; have := hR.2 i o s hi; omega
 have O8 := own_base hO7 K0.size
 clear hO7
 refine ⟨_, _, rfl, rfl, ?_⟩
 replace K0 := K0.trans K2 (U := (fun i => i = b)) (fun i h1 h2 => h2) (fun i h1 h2 => by have h2 : i = b := h2; show i = b; omega)
 replace hR := RdO.keep hR K2 (fun i _ _ hi hs => by have hs : i = b := hs; have := hne i _ _ hi; omega)
 clear K2
 have F12 : RdO w1 A c (r.bytes).2.bs := by rw [Rdr.bytes_bs]; exact hR
 clear hR
 refine Ops.go (v := (Value.string (str ((r.bytes).1)))) (by kernel_rfl) (Runs.b2s (s := 22) (d := 9) (e := 5) (by kernel_rfl) (by kernel_rfl) (by kernel_rfl) (OwnB.rd O8)) (d := (some 5)) (by kernel_rfl) rfl ?_
 refine og 1 [(2, (Value.string (str ((r.bytes).1))))] 4 ?_
 refine od ?_
 refine q_ret (by kernel_rfl) ?_
 refine ⟨(Value.string (str ((r.bytes).1))), retv_tmp rfl rfl, ?_⟩
 exact ⟨rfl, K0, H3⟩
end Go.Proofs.YtooginpgclcldaaGreatDoor
