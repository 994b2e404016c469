/- What the claim stands on, part 8: rules of the walk, contracts of the functions, plain laws. -/
import Derived.Test.YtnfeemhpoaflfaaGreatDoorKDoes7
import Derived.RangeFuncNested
import Derived.Test.YtnfeemhpoaflfaaGreatDoorKDoes2
import Derived.Test.YtnfeemhpoaflfaaGreatDoorKDoes3
import Derived.Test.YtnfeemhpoaflfaaGreatDoorKDoes4
set_option linter.unusedVariables false
namespace Go.Q
open Go.RowKit

def isRange : Code → Option (Operand × Array Tmp)
  | .rangeFunc g ps _ _ => some (g, ps)
  | _ => none
end Go.Q
namespace Go.Q
open Go.RowKit

def OpsR (F : Fence) (P : Program) (m n : Nat) (os : Array Oper) (i : Nat) (K : List Deferred → Exit → Loc → World → Prop) (ds : List Deferred) (L : Loc) (w : World) : Prop :=
  ∀ a, Rep n a L → wpOpsIn F m P os (fun e a' w' => ∃ ds2 a2 L', a' = wd ds2 a2 ∧ Rep n a2 L' ∧ K ds2 e L' w') (List.range' i (os.size - i)) (wd ds a) w
section
variable {F : Fence} {P : Program} {m n : Nat} {os : Array Oper} {K : List Deferred → Exit → Loc → World → Prop} {ds : List Deferred} {L : Loc} {w : World} {i : Nat}
theorem OpsR.keep {R : Loc} (hs : restrict L (R.map Prod.fst) = some R) (h : OpsR F P m n os i K ds R w) : OpsR F P m n os i K ds L w :=
  fun a ha => h a (ha.sub (restrict_sub hs))
theorem OpsR.done (hi : Nat.beq os.size i = true) (h : K ds .normal L w) : OpsR F P m n os i K ds L w := by
  intro a ha
  have : os.size - i = 0 := by have := Nat.eq_of_beq_eq_true hi; omega
  rw [this]
  exact ⟨ds, a, L, rfl, ha, h⟩
theorem OpsR.cons {o : Oper} (ho : os[i]? = some o) (h : ∀ a, Rep n a L → wpOpIn F m P os (fun e a' w' => ∃ ds2 a2 L', a' = wd ds2 a2 ∧ Rep n a2 L' ∧ K ds2 e L' w') i
    (fun a' w' => ∃ a2 L', a' = wd ds a2 ∧ Rep n a2 L' ∧ OpsR F P m n os (i + 1) K ds L' w') (wd ds a) w) : OpsR F P m n os i K ds L w := by
  intro a ha
  rw [range'_head ho, wpOpsIn_cons]
  exact wpOpIn_mono (fun a' w' ⟨a2, L', e, r, q⟩ => by subst e; exact q a2 r) (h a ha)
theorem OpsR.unwanted (hF : Open F) {o : Oper} {L' : Loc} (ho : os[i]? = some o) (hw : wants os L o = some false) (hs : setL n o.dst undef L = some L') (h : OpsR F P m n os (i + 1) K ds L' w) :
    OpsR F P m n os i K ds L w := by
  refine OpsR.cons ho fun a ha => ?_
  unfold wpOpIn
  have hww := wants_wanted ha hw
  simp only [ho]
  rw [if_neg (show ¬ Region.wanted o (yielded os (wd ds a).tmps) = true from by rw [show (wd ds a).tmps = a.tmps from rfl, hww]; simp)]
  exact ⟨fun f _ => hF.fn f, a.put o.dst undef, L', wd_put _ _ _ _, ha.setL hs, h⟩
theorem OpsR.regs_go (hF : Open F) (hd : noDefer os = true) : ∀ (k i : Nat) (L L1 : Loc), Q.regs P n os k i L = some L1 → OpsR F P m n os (i + k) K ds L1 w → OpsR F P m n os i K ds L w
  | 0, i, L, L1, h, hn => by simp only [Q.regs, Option.some.injEq] at h; subst h; exact hn
  | k + 1, i, L, L1, h, hn => by
    simp only [Q.regs] at h
    cases ho : os[i]? with
    | none => rw [ho] at h; cases h
    | some o =>
      rw [ho] at h
      simp only at h
      have hn' : OpsR F P m n os (i + 1 + k) K ds L1 w := by rw [show i + 1 + k = i + (k + 1) from by omega]; exact hn
      cases hw : wants os L o with
      | none => rw [hw] at h; cases h
      | some b =>
        rw [hw] at h
        cases b with
        | false =>
          simp only at h
          cases hs : setL n o.dst undef L with
          | none => rw [hs] at h; cases h
          | some L' => rw [hs] at h; exact OpsR.unwanted hF ho hw hs (OpsR.regs_go hF hd k (i + 1) L' L1 h hn')
        | true =>
          simp only at h
          cases hx : next? P L o with
          | none => rw [hx] at h; cases h
          | some x =>
            rw [hx] at h
            cases x with
            | value v =>
              simp only at h
              cases hs : setL n o.dst v L with
              | none => rw [hs] at h; cases h
              | some L' =>
                rw [hs] at h
                refine OpsR.cons ho fun a ha => ?_
                unfold wpOpIn
                have hww := wants_wanted ha hw
                simp only [ho]
                rw [if_pos (show Region.wanted o (yielded os (wd ds a).tmps) = true from by rw [show (wd ds a).tmps = a.tmps from rfl, hww])]
                have hsem : o.semAt F.round (wd ds a).eval = execOp a.eval o := by
                  cases hr : F.round with
                  | none => rw [Oper.semAt_none]; rfl
                  | some l => exact Oper.semAt_some l _ _ (noDefer_op hd i o ho)
                refine ⟨fun f _ => hF.fn f, ?_⟩
                rw [hsem, next?_run ha hx]
                exact ⟨a.put o.dst v, L', wd_put _ _ _ _, ha.setL hs, OpsR.regs_go hF hd k (i + 1) L' L1 h hn'⟩
            | _ => cases h
/-- k operations at once; only what 'R' names is kept. -/
theorem OpsR.regs (hF : Open F) (hd : noDefer os = true) {j : Nat} (k : Nat) (R : Loc) (hj : Nat.beq (i + k) j = true) (h : (match Q.regs P n os k i L with | some L1 => restrict L1 (R.map Prod.fst) | none => none) = some R)
    (hn : OpsR F P m n os j K ds R w) : OpsR F P m n os i K ds L w := by
  cases h1 : Q.regs P n os k i L with
  | none => rw [h1] at h; cases h
  | some L1 =>
    rw [h1] at h
    have := Nat.eq_of_beq_eq_true hj
    subst this
    exact OpsR.regs_go hF hd k i L L1 h1 (OpsR.keep h hn)
/-- An operation whose run is known. -/
theorem OpsR.run (hF : Open F) (hd : noDefer os = true) {o : Oper} {x : Next} {w' : World} (ho : at? os L i = some o) (hr : (execOp (ev L) o).run P w = .ok x w')
    (h : ∀ a, Rep n a L → o.uponIn F m P (wd ds a) (fun a' w' => ∃ a2 L', a' = wd ds a2 ∧ Rep n a2 L' ∧ OpsR F P m n os (i + 1) K ds L' w') (fun e a' w' => ∃ ds2 a2 L', a' = wd ds2 a2 ∧ Rep n a2 L' ∧ K ds2 e L' w') (.ok x w')) : OpsR F P m n os i K ds L w := by
  obtain ⟨h0, hw, hp, hk⟩ := at?_spec ho
  refine OpsR.cons h0 fun a ha => ?_
  unfold wpOpIn
  have hww := wants_wanted ha hw
  simp only [h0]
  rw [if_pos (show Region.wanted o (yielded os (wd ds a).tmps) = true from by rw [show (wd ds a).tmps = a.tmps from rfl, hww])]
  have hsem : o.semAt F.round (wd ds a).eval = execOp a.eval o := by
    cases hr : F.round with
    | none => rw [Oper.semAt_none]; rfl
    | some l => exact Oper.semAt_some l _ _ (noDefer_op hd i o h0)
  refine ⟨fun f _ => hF.fn f, ?_⟩
  rw [hsem, exec_known ha hp hk, hr]
  exact h a ha
/-- A call of yield: what the round says. -/
theorem OpsR.yield (hF : Open F) (hd : noDefer os = true) {o : Oper} {l : Nat} {args : Array Value} {R : Ending → World → Prop} (ho : at? os L i = some o) (hx : (execOp (ev L) o).run P w = (Instr.yield l args).run P w) (hY : YieldAt F (m - 1) P l args w R)
    (h : ∀ e w', R e w' → ∃ v L', e = .returned v ∧ setL n o.dst v L = some L' ∧ OpsR F P m n os (i + 1) K ds L' w') : OpsR F P m n os i K ds L w := by
  obtain ⟨fn, tmps, assign, body, hy, hR⟩ := hY
  refine OpsR.run hF hd ho (hx.trans hy) fun a ha => ?_
  refine ⟨fun q => (by rw [hF.depth] at q; cases q), hR.mono fun e w' he => ?_⟩
  obtain ⟨v, L', rfl, hs, hn⟩ := h e w' he
  exact ⟨a.put o.dst v, L', wd_put _ _ _ _, ha.setL hs, hn⟩
end
section
variable {F : Fence} {P : Program} {m n : Nat} {Q : List Deferred → Exit → Loc → World → Prop} {L : Loc} {w : World} {f : Func} {p : List Nat} {ds : List Deferred}
/-- A region, its operations one by one inside the fence. -/
theorem qr_opsR (hc : isRegion (cd f p) = true) (h : OpsR F P m n (opsOf (cd f p)) 0 Q ds L w) : wpR F P m n (cd f p) Q ds L w := by
  intro a ha
  cases e : cd f p with
  | region id os dr =>
    rw [e] at hc h
    cases dr with
    | true => cases hc
    | false =>
      have h1 := h a ha
      simp only [opsOf] at h1
      refine wpIn_region ?_
      rw [List.range_eq_range']
      exact h1
  | _ => rw [e] at hc; cases hc
end
end Go.Q
namespace Go.Q
open Go.RowKit

/-- From W on nothing has changed but blocks from B on that hold no cells. -/
def Loose (B : Nat) (W W' : World) : Prop := Keeps (fun i => B ≤ i ∧ ∃ o, W.heap[i]? = some o ∧ o.isCells = false) W W'
theorem Loose.none {B : Nat} {W W' : World} (k : Keeps none_ W W') : Loose B W W' := k.mono fun _ _ h => h.elim
theorem Loose.put {B : Nat} {W : World} {l : Nat} {o : Obj} (o' : Obj) (hB : B ≤ l) (h : W.heap[l]? = some o) (ho : o.isCells = false) : Loose B W (W.putObj l o') :=
  ⟨rfl, rfl, rfl, by simp, fun i _ hn => World.putObj_heap_other (fun e => hn (by subst e; exact ⟨hB, o, h, ho⟩))⟩
theorem Loose.has {B : Nat} {W W' : World} (k : Loose B W W') {b : Nat} {xs : List Value} {E : TypeId} (h : Has W b (rowL xs E)) : Has W' b (rowL xs E) :=
  h.keep k fun ⟨_, o, ho, hc⟩ => by rw [show W.heap[b]? = some (rowL xs E) from h] at ho; cases ho; cases hc
theorem Loose.keeps {B : Nat} {W W' : World} (k : Loose B W W') : Keeps (fun i => B ≤ i) W W' := k.mono fun _ _ h => h.1
theorem Loose.own {B base e sz n : Nat} {v : Value} {xs : List Value} {W W' : World} (k : Loose B W W') (h : W.ownsRow base e sz v n xs) : W'.ownsRow base e sz v n xs := own_keep h k fun b hb ⟨_, o, ho, hc⟩ => by
  obtain ⟨_, h2⟩ := h
  rcases h2 with h2 | ⟨g, cap, cur, hv, hg, hh, _⟩
  · obtain ⟨rfl, _⟩ := h2; cases hb
  · subst hv
    obtain rfl : g = b := by simpa [Value.ownBlock] using hb
    rw [hh] at ho; cases ho; cases hc
theorem keepsFrom_of {B : Nat} {U : Nat → Prop} {W W' : World} (k : Keeps U W W') (h : ∀ i, U i → B ≤ i → ∃ o, W.heap[i]? = some o ∧ o.isCells = true) : KeepsFrom B W W' :=
  ⟨k.size, fun i o hB hi ho => (k.blk i (Array.getElem?_eq_some_iff.1 hi).1 fun hu => by obtain ⟨o2, h2, h3⟩ := h i hu hB; rw [hi] at h2; cases h2; rw [ho] at h3; cases h3).trans hi⟩

theorem own_is_cells {B e sz n : Nat} {v : Value} {xs : List Value} {W : World} (h : W.ownsRow B e sz v n xs) {i : Nat} (hi : v.ownBlock = some i) : ∃ o, W.heap[i]? = some o ∧ o.isCells = true := by
  obtain ⟨_, h2⟩ := h
  rcases h2 with ⟨rfl, _⟩ | ⟨g, cap, cur, hv, hg, hh, _⟩
  · cases hi
  · subst hv
    obtain rfl : g = i := by simpa [Value.ownBlock] using hi
    exact ⟨_, hh, rfl⟩
/-- A call of a function that has a body enters it. -/
theorem enters {P : Program} {f : FuncId} {fn : Func} (hf : P.funcs[f]? = some fn) (hn : (fn.name == "runtime.NumGoroutine") = false) (hb : fn.body.isSome = true) (args : Array Value) (w : World) : (callFunc f args).run P w = .ok (.enter f args) w := by
  have h1 : fn.name ≠ "runtime.NumGoroutine" := by simpa using hn
  cases hc : fn.body with
  | none => rw [hc] at hb; cases hb
  | some c => simp [callFunc, hf, h1, hc, mark]
/-- The function gf with what it has captured, made ahead of w0, tells N elements one by one, of the k-th of which 'A k' is known; what it reads lies outside T. -/
def Tells (P : Program) (m : Nat) (gf : Nat) (lb : List Value) (A : Nat → Value → World → Prop) (T : Nat → Prop) (N : Nat) (w0 : World) : Prop :=
  ∀ (l : Nat) (J : Nat → World → Prop) (W : World), Keeps T w0 W → (∀ k W W', J k W → Keeps none_ W W' → J k W') →
    (∀ k v W1, J k W1 → k < N → A k v W1 → YieldAt Fence.wide m P l #[v] W1 fun e W' => e = .returned (.bool true) ∧ J (k + 1) W' ∧ Keeps T W1 W') →
    J 0 W → Calls P gf ⟨.func (.yield l) #[] #[] :: lb⟩ W fun e W' => (∃ v, e = .returned v) ∧ J N W'

/-- A function's end, nothing put off. -/
theorem retR_norm {P : Program} {m : Nat} {L : Loc} {w : World} {fn : Func} {R : Ending → World → Prop} {v : Value} (hv : retv P fn w v L) (hR : R (.returned v) w) : retR P fn m R [] .normal L w :=
  fun a ha => ⟨v, hv a.tmps ha.val, hR⟩
end Go.Q
namespace Go.Q
open Go.RowKit

/-- The loop variables are given their values. -/
def setLs (n : Nat) : List Tmp → List Value → Loc → Option Loc
  | [], [], L => some L
  | t :: ts, v :: vs, L => match setL n (some t) v L with
    | some L' => setLs n ts vs L'
    | none => none
  | _, _, _ => none
theorem setLs_rep {n : Nat} : ∀ {ts : List Tmp} {vs : List Value} {a : Act} {L L' : Loc}, Rep n a L → setLs n ts vs L = some L' → Rep n { tmps := (ts.zip vs).foldl (fun t x => t.setIfInBounds x.1 x.2) a.tmps, defers := a.defers } L'
  | [], [], a, L, L', h, hs => by simp only [setLs, Option.some.injEq] at hs; subst hs; simpa using h
  | [], _ :: _, _, _, _, _, hs => by simp [setLs] at hs
  | _ :: _, [], _, _, _, _, hs => by simp [setLs] at hs
  | t :: ts, v :: vs, a, L, L', h, hs => by
    simp only [setLs] at hs
    cases h1 : setL n (some t) v L with
    | none => rw [h1] at hs; cases hs
    | some L1 =>
      rw [h1] at hs
      exact setLs_rep (a := a.put (some t) v) (h.setL h1) hs
theorem setLs_len {n : Nat} : ∀ {ts : List Tmp} {vs : List Value} {L L' : Loc}, setLs n ts vs L = some L' → vs.length = ts.length
  | [], [], _, _, _ => rfl
  | [], _ :: _, _, _, hs => by simp [setLs] at hs
  | _ :: _, [], _, _, hs => by simp [setLs] at hs
  | t :: ts, v :: vs, L, L', hs => by
    simp only [setLs] at hs
    cases h1 : setL n (some t) v L with
    | none => rw [h1] at hs; cases hs
    | some L1 => rw [h1] at hs; simp [setLs_len hs]
/-- As 'Tells', of elements of several values. -/
def TellsN (P : Program) (m : Nat) (gf : Nat) (lb : List Value) (A : Nat → List Value → World → Prop) (T : Nat → Prop) (N : Nat) (w0 : World) : Prop :=
  ∀ (l : Nat) (J : Nat → World → Prop) (W : World), Keeps T w0 W → (∀ k W W', J k W → Keeps none_ W W' → J k W') →
    (∀ k vs W1, J k W1 → k < N → A k vs W1 → YieldAt Fence.wide m P l ⟨vs⟩ W1 fun e W' => e = .returned (.bool true) ∧ J (k + 1) W' ∧ Keeps T W1 W') →
    J 0 W → Calls P gf ⟨.func (.yield l) #[] #[] :: lb⟩ W fun e W' => (∃ v, e = .returned v) ∧ J N W'
end Go.Q
namespace Go.Q
open Go.RowKit

/-- As 'TellsN', of elements of which it is known alone which lists of them can come. -/
def TellsM {β : Type} (P : Program) (m : Nat) (gf : Nat) (lb : List Value) (enc : β → List Value) (T : Nat → Prop) (S : List β → Prop) (w0 : World) : Prop :=
  ∀ (l : Nat) (J : List β → World → Prop) (W : World), Keeps T w0 W → (∀ k W1 W2, J k W1 → Loose W.heap.size W1 W2 → J k W2) →
    (∀ pre x W1, J pre W1 → (∃ post, S (pre ++ x :: post)) → YieldAt Fence.wide m P l ⟨enc x⟩ W1 fun e W' => e = .returned (.bool true) ∧ J (pre ++ [x]) W' ∧ Keeps T W1 W' ∧ KeepsFrom W.heap.size W1 W') →
    J [] W → Calls P gf ⟨.func (.yield l) #[] #[] :: lb⟩ W fun e W' => (∃ v, e = .returned v) ∧ ∃ all, S all ∧ J all W'
theorem Loose.le {B B' : Nat} {W W' : World} (k : Loose B' W W') (h : B ≤ B') : Loose B W W' := k.mono fun _ _ hs => ⟨Nat.le_trans h hs.1, hs.2⟩
theorem KeepsFrom.le {B B' : Nat} {W W' : World} (k : KeepsFrom B W W') (h : B ≤ B') : KeepsFrom B' W W' := ⟨k.size, fun i o hB hi ho => k.same i o (Nat.le_trans h hB) hi ho⟩
theorem keepsFrom_put {B l : Nat} {W : World} {o o' : Obj} (h : W.heap[l]? = some o) (hB : l < B) : KeepsFrom B W (W.putObj l o') :=
  ⟨by simp, fun i x hi hx _ => (World.putObj_heap_other (by omega)).trans hx⟩
section
variable {κ α : Type} {w w' : World} {r mb : Nat} {kf : κ → Value} {vf : α → Value} {m rest : List (κ × α)} {last : Option (κ × α)}
theorem IterM.iter (h : IterM w r mb kf vf m rest last) : ∃ o, w.heap[r]? = some o ∧ o.isCells = false := by
  obtain ⟨es, clock, since, seen, c0, hr, _⟩ := h
  exact ⟨_, hr, rfl⟩
theorem IterM.loose {B : Nat} (h : IterM w r mb kf vf m rest last) (hB : B ≤ r) (k : Keeps (fun i => i = r) w w') : Loose B w w' := k.mono fun i _ hi => by
  subst hi
  exact ⟨hB, h.iter⟩
theorem IterM.keepF {B : Nat} {T : Nat → Prop} (h : IterM w r mb kf vf m rest last) (k : Keeps T w w') (kF : KeepsFrom B w w') (hB : B ≤ r) (hT : ¬ T mb) : IterM w' r mb kf vf m rest last := by
  obtain ⟨o, ho, hc⟩ := h.iter
  have e := kF.same r o hB ho hc
  exact h.keep (S := fun i => T i ∧ i ≠ r) ⟨k.os, k.tape, k.output, k.size, fun i hi hn => by
    by_cases hir : i = r
    · subst hir; exact e.trans ho.symm
    · exact k.blk i hi fun ht => hn ⟨ht, hir⟩⟩ (fun h => h.2 rfl) (fun h => hT h.1)
theorem OpsR.go {F : Fence} {P : Program} {m n : Nat} {os : Array Oper} {K : List Deferred → Exit → Loc → World → Prop} {L L' : Loc} {w : World} {i : Nat} {d : Option Tmp} {ds : List Deferred} (hF : Open F) (hd : noDefer os = true) {v : Value} {w' : World} (h0 : okAt os L i = true) (hr : Runs P L (opn os i) w v w') (hdd : dst? os i = some d) (hs : setL n d v L = some L')
    (hn : OpsR F P m n os (i + 1) K ds L' w') : OpsR F P m n os i K ds L w := by
  have h1 := at?_opn h0
  have hd' : (opn os i).dst = d := by have := (at?_spec h1).1; simpa [dst?, this] using hdd
  refine OpsR.run hF hd h1 hr fun a ha => ?_
  show ∃ a2 L', (wd ds a).put (opn os i).dst v = wd ds a2 ∧ _
  rw [hd']
  exact ⟨a.put d v, L', wd_put _ _ _ _, ha.setL hs, hn⟩
theorem came_perm {β : Type} {s p q m : List β} {x : β} (h : (s ++ (p ++ x :: q)).Perm m) : ((s ++ [x]) ++ (p ++ q)).Perm m := by
  refine List.Perm.trans ?_ h
  rw [List.append_assoc]
  exact List.Perm.append_left _ (List.perm_middle (l₁ := p) (l₂ := q) (a := x)).symm
theorem came_next {β : Type} {s p q m : List β} {x : β} (h : (s ++ (p ++ x :: q)).Perm m) : (s ++ x :: (p ++ q)).Perm m := (List.Perm.append_left _ List.perm_middle.symm).trans h
end
/-- A loop over a function that is never left ahead of its end. -/
theorem qr_eachM {β : Type} {P : Program} {m n : Nat} {Q : List Deferred → Exit → Loc → World → Prop} {L : Loc} {w : World} {f : Func} {p : List Nat} {ds : List Deferred} {g : Operand} {ts : List Tmp}
    (hc : isRange (cd f p) = some (g, ⟨ts⟩)) (h1 : 1 ≤ m) {gf : Nat} {lb : List Value} (hg : evo L g = some (.func (.func gf) #[] ⟨lb⟩)) (eg : ∀ args w, (callFunc gf args).run P w = .ok (.enter gf args) w)
    {enc : β → List Value} {T : Nat → Prop} {S : List β → Prop} {w0 : World} (hseq : TellsM P (m - 1 - 1) gf lb enc T S w0) (hT : ∀ i, w.heap.size ≤ i → T i) (hw0 : Keeps T w0 w)
    (I : List β → World → Prop) (hI : ∀ k W W', I k W → Loose w.heap.size W W' → I k W') (h0 : I [] w) (La : β → Loc) (hLa : ∀ x, setLs n ts (enc x) L = some (La x))
    (Ax : β → Loc → World → Prop) (hAx : ∀ x L W W', Ax x L W → Loose w.heap.size W W' → Ax x L W')
    (hassign : ∀ (l : Nat) (pre : List β) (x : β) (W : World), w.heap.size + 1 < W.heap.size → I pre W → (∃ post, S (pre ++ x :: post)) → wpR (Fence.wide.inRound l) P (m - 1 - 1) n (cd f (0 :: p)) (fun ds e L' W' => e = .normal ∧ ds = [] ∧ Keeps none_ W W' ∧ Ax x L' W') [] (La x) W)
    (hbody : ∀ (l : Nat) (pre : List β) (x : β) (L1 : Loc) (W : World), I pre W → (∃ post, S (pre ++ x :: post)) → Ax x L1 W → wpR (Fence.wide.inRound l) P (m - 1 - 1) n (cd f (1 :: p)) (fun _ e _ W' => e = .normal ∧ KeepsFrom w.heap.size W W' ∧ Keeps T W W' ∧ I (pre ++ [x]) W') [] L1 W)
    (hdone : ∀ (D : Nat) (all : List β) (W : World), w.heap.size ≤ D → S all → I all W → W.heap[D]? = some (.deferred (some [])) → Q ({ target := .collected D, args := #[] } :: ds) .normal L W) :
    wpR Fence.wide P m n (cd f p) Q ds L w := by
  intro a ha
  simp only [cd] at hassign hbody
  cases e : cd f p with
  | rangeFunc g' ps assign body =>
    rw [e] at hc hassign hbody
    simp only [isRange, Option.some.injEq, Prod.mk.injEq] at hc
    obtain ⟨rfl, rfl⟩ := hc
    simp only [sub] at hassign hbody
    refine wpIn_rangeFunc fun fn hfn => ?_
    obtain ⟨rec, hrec⟩ : ∃ rec : LoopState → Loop, rec = fun st => { state := st, pending := none, fn, tmps := (wd ds a).tmps, params := ⟨ts⟩, assign, body, defers := w.heap.size } := ⟨_, rfl⟩
    have hev : (wd ds a).eval g' = .func (.func gf) #[] ⟨lb⟩ := ha.ev hg
    obtain ⟨W1, hW1⟩ : ∃ W1, (w.alloc (.deferred (some []))).alloc (.loop (rec .ready)) = W1 := ⟨_, rfl⟩
    have hK1 : Keeps none_ w W1 := by rw [← hW1]; exact (Keeps.alloc w _).trans (Keeps.alloc _ _) (fun _ _ h => h) (fun _ _ h => h)
    have hl1 : W1.heap[w.heap.size + 1]? = some (.loop (rec .ready)) := by
      rw [← hW1]; have := World.alloc_heap_new (w.alloc (.deferred (some []))) (.loop (rec .ready)); rwa [World.size_alloc] at this
    have hd1 : W1.heap[w.heap.size]? = some (.deferred (some [])) := by
      rw [← hW1]; exact ((Keeps.alloc (w.alloc (.deferred (some []))) (.loop (rec .ready))).blk _ (by simp) (fun h => h)).trans (World.alloc_heap_new w _)
    refine ⟨w.heap.size + 1, [{ target := .collected w.heap.size, args := #[] }], W1, { target := .fn (.func gf) ⟨lb⟩, args := #[.func (.yield (w.heap.size + 1)) #[] #[]] }, W1, gf,
      #[.func (.yield (w.heap.size + 1)) #[] #[]] ++ ⟨lb⟩, W1, ?_, ?_, fun f' hf' => True.intro, ?_, fun _ => h1, ?_⟩
    · rw [← hW1, hrec]; exact run_enterLoop_outer _ _ _ _ _
    · simp only [resolve, hev]
      simp [go_sem]
    · simp [invoke, go_sem, eg]
    · refine callsIn_wide.2 ?_
      have harr : (#[.func (.yield (w.heap.size + 1)) #[] #[]] ++ ⟨lb⟩ : Array Value) = ⟨.func (.yield (w.heap.size + 1)) #[] #[] :: lb⟩ := by simp
      rw [harr]
      have hs1 : W1.heap.size = w.heap.size + 2 := by rw [← hW1]; simp
      refine (hseq (w.heap.size + 1) (fun k W => I k W ∧ W.heap[w.heap.size + 1]? = some (.loop (rec .ready)) ∧ W.heap[w.heap.size]? = some (.deferred (some []))) _
        (hw0.trans hK1 (fun _ _ h => h) (fun _ _ h => h.elim)) ?_ ?_ ⟨hI _ _ _ h0 (.none hK1), hl1, hd1⟩).mono ?_
      · rintro k W W' ⟨hi, hl, hd⟩ hk
        exact ⟨hI _ _ _ hi (hk.le (by omega)), (hk.blk _ (Array.getElem?_eq_some_iff.1 hl).1 (fun h => by have := h.1; omega)).trans hl, (hk.blk _ (Array.getElem?_eq_some_iff.1 hd).1 (fun h => by have := h.1; omega)).trans hd⟩
      · rintro pre x W ⟨hi, hl, hd⟩ hpost
        have hLv := hLa x
        have hy := run_yield (P := P) (args := ⟨enc x⟩) hl (by rw [hrec]; simpa using setLs_len hLv)
        refine ⟨_, _, _, _, hy, roundIn_of_wpIn trivial ?_⟩
        have hlt : w.heap.size + 1 < W.heap.size := (Array.getElem?_eq_some_iff.1 hl).1
        have hr := setLs_rep ha hLv
        have ea : ({ tmps := ((rec .ready).params.zip ⟨enc x⟩).foldl (fun t (p, v) => t.setIfInBounds p v) (rec .ready).tmps, defers := [] } : Act) = wd [] { tmps := (ts.zip (enc x)).foldl (fun t x => t.setIfInBounds x.1 x.2) a.tmps, defers := a.defers } := by rw [hrec]; simp [wd]
        have easg : (rec .ready).assign = assign := by rw [hrec]
        have ebdy : (rec .ready).body = body := by rw [hrec]
        rw [easg, ebdy]
        refine (congrArg (fun z => Code.wpIn _ _ P assign _ z W) ea).mpr ?_
        refine wpIn_mono (hassign _ pre x W hlt hi hpost _ hr) ?_
        rintro ex a' W' ⟨ds2, a2, L', rfl, r, rfl, rfl, hka, hax⟩
        have hlA := (hka.blk _ hlt (fun h => h)).trans hl
        have hdA := (hka.blk _ (by omega) (fun h => h)).trans hd
        have hltA : w.heap.size + 1 < W'.heap.size := Nat.lt_of_lt_of_le hlt hka.size
        have hp2 : Loose w.heap.size W' (W'.putObj (w.heap.size + 1) (.loop { rec .ready with state := .busy })) := .put _ (by omega) hlA rfl
        have hl2 : (W'.putObj (w.heap.size + 1) (.loop { rec .ready with state := .busy })).heap[w.heap.size + 1]? = some (.loop { rec .ready with state := .busy }) := World.putObj_heap_same hltA
        have hd2 : (W'.putObj (w.heap.size + 1) (.loop { rec .ready with state := .busy })).heap[w.heap.size]? = some (.deferred (some [])) := (World.putObj_heap_other (by omega)).trans hdA
        refine ⟨_, run_beginRound hlA (by rw [hrec]), ?_⟩
        refine wpIn_mono (hbody _ pre x _ _ (hI _ _ _ (hI _ _ _ hi (.none hka)) hp2) hpost (hAx _ _ _ _ hax hp2) _ r) ?_
        rintro ex3 a3 W3 ⟨_, _, _, _, _, rfl, hkf, hkT, hi3⟩
        have hl3 := hkf.same _ _ (by omega) hl2 rfl
        have hd3 := hkf.same _ _ (Nat.le_refl _) hd2 rfl
        have hlt3 : w.heap.size + 1 < W3.heap.size := (Array.getElem?_eq_some_iff.1 hl3).1
        refine ⟨_, _, run_endRound none hl3, rfl, ⟨hI _ _ _ hi3 (.put _ (by omega) hl3 rfl), ?_, (World.putObj_heap_other (by omega)).trans hd3⟩, ?_, ?_⟩
        · rw [World.putObj_heap_same hlt3, hrec]; rfl
        · have kT : ∀ {X : World} {o : Obj}, X.heap[w.heap.size + 1]? = some o → ∀ o', o.isCells = false → Keeps T X (X.putObj (w.heap.size + 1) o') := fun hx o' ho => (Loose.put (B := w.heap.size) o' (by omega) hx ho).keeps.mono fun i _ h => hT i h
          exact ((hka.trans (kT hlA _ rfl) (fun _ _ h => h.elim) (fun _ _ h => h)).trans hkT (fun _ _ h => h) (fun _ _ h => h)).trans (kT hl3 _ rfl) (fun _ _ h => h) (fun _ _ h => h)
        · exact (((keepsFrom_of hka fun i h => h.elim).trans (keepsFrom_put hlA (by omega))).trans (KeepsFrom.le hkf (by omega))).trans (keepsFrom_put hl3 (by omega))
      · rintro ex W ⟨⟨v, rfl⟩, all, hall, hi, hl, hd⟩
        have hel := run_endLoop (P := P) hl (by rw [hrec]; simp)
        rw [show (rec .ready).pending = none from by rw [hrec]] at hel
        refine ⟨none, _, hel, ?_⟩
        exact ⟨_, a, L, rfl, ha, hdone _ all _ (Nat.le_refl _) hall (hI _ _ _ hi (.put _ (by omega) hl rfl)) ((World.putObj_heap_other (by omega)).trans hd)⟩
  | _ => rw [e] at hc; cases hc
end Go.Q
namespace Go.Q
end Go.Q
