/- What the claim stands on, part 9: rules of the walk, contracts of the functions, plain laws. -/
import Derived.Test.YtnbcghbgeiocbaaDoorKHTurns8
import Derived.RangeFuncNested
import Derived.Test.YtnbcghbgeiocbaaDoorKHTurns2
import Derived.Test.YtnbcghbgeiocbaaDoorKHTurns3
import Derived.Test.YtnbcghbgeiocbaaDoorKHTurns4
set_option linter.unusedVariables false
namespace Go.Q
open Go.RowKit

def isRange : Code → Option (Operand × Array Tmp)
  | .rangeFunc g ps _ _ => some (g, ps)
  | _ => none
end Go.Q
namespace Go.Q
open Go.RowKit

def OpsR (F : Fence) (P : Program) (m n : Nat) (os : Array Oper) (i : Nat) (K : List Deferred → Exit → Loc → World → Prop) (ds : List Deferred) (L : Loc) (w : World) : Prop :=
  ∀ a, Rep n a L → wpOpsIn F m P os (fun e a' w' => ∃ ds2 a2 L', a' = wd ds2 a2 ∧ Rep n a2 L' ∧ K ds2 e L' w') (List.range' i (os.size - i)) (wd ds a) w
section
variable {F : Fence} {P : Program} {m n : Nat} {os : Array Oper} {K : List Deferred → Exit → Loc → World → Prop} {ds : List Deferred} {L : Loc} {w : World} {i : Nat}
theorem OpsR.keep {R : Loc} (hs : restrict L (R.map Prod.fst) = some R) (h : OpsR F P m n os i K ds R w) : OpsR F P m n os i K ds L w :=
  fun a ha => h a (ha.sub (restrict_sub hs))
theorem OpsR.done (hi : Nat.beq os.size i = true) (h : K ds .normal L w) : OpsR F P m n os i K ds L w := by
  intro a ha
  have : os.size - i = 0 := by have := Nat.eq_of_beq_eq_true hi; omega
  rw [this]
  exact ⟨ds, a, L, rfl, ha, h⟩
theorem OpsR.cons {o : Oper} (ho : os[i]? = some o) (h : ∀ a, Rep n a L → wpOpIn F m P os (fun e a' w' => ∃ ds2 a2 L', a' = wd ds2 a2 ∧ Rep n a2 L' ∧ K ds2 e L' w') i
    (fun a' w' => ∃ a2 L', a' = wd ds a2 ∧ Rep n a2 L' ∧ OpsR F P m n os (i + 1) K ds L' w') (wd ds a) w) : OpsR F P m n os i K ds L w := by
  intro a ha
  rw [range'_head ho, wpOpsIn_cons]
  exact wpOpIn_mono (fun a' w' ⟨a2, L', e, r, q⟩ => by subst e; exact q a2 r) (h a ha)
theorem OpsR.unwanted (hF : Open F) {o : Oper} {L' : Loc} (ho : os[i]? = some o) (hw : wants os L o = some false) (hs : setL n o.dst undef L = some L') (h : OpsR F P m n os (i + 1) K ds L' w) :
    OpsR F P m n os i K ds L w := by
  refine OpsR.cons ho fun a ha => ?_
  unfold wpOpIn
  have hww := wants_wanted ha hw
  simp only [ho]
  rw [if_neg (show ¬ Region.wanted o (yielded os (wd ds a).tmps) = true from by rw [show (wd ds a).tmps = a.tmps from rfl, hww]; simp)]
  exact ⟨fun f _ => hF.fn f, a.put o.dst undef, L', wd_put _ _ _ _, ha.setL hs, h⟩
theorem OpsR.regs_go (hF : Open F) (hd : noDefer os = true) : ∀ (k i : Nat) (L L1 : Loc), Q.regs P n os k i L = some L1 → OpsR F P m n os (i + k) K ds L1 w → OpsR F P m n os i K ds L w
  | 0, i, L, L1, h, hn => by simp only [Q.regs, Option.some.injEq] at h; subst h; exact hn
  | k + 1, i, L, L1, h, hn => by
    simp only [Q.regs] at h
    cases ho : os[i]? with
    | none => rw [ho] at h; cases h
    | some o =>
      rw [ho] at h
      simp only at h
      have hn' : OpsR F P m n os (i + 1 + k) K ds L1 w := by rw [show i + 1 + k = i + (k + 1) from by omega]; exact hn
      cases hw : wants os L o with
      | none => rw [hw] at h; cases h
      | some b =>
        rw [hw] at h
        cases b with
        | false =>
          simp only at h
          cases hs : setL n o.dst undef L with
          | none => rw [hs] at h; cases h
          | some L' => rw [hs] at h; exact OpsR.unwanted hF ho hw hs (OpsR.regs_go hF hd k (i + 1) L' L1 h hn')
        | true =>
          simp only at h
          cases hx : next? P L o with
          | none => rw [hx] at h; cases h
          | some x =>
            rw [hx] at h
            cases x with
            | value v =>
              simp only at h
              cases hs : setL n o.dst v L with
              | none => rw [hs] at h; cases h
              | some L' =>
                rw [hs] at h
                refine OpsR.cons ho fun a ha => ?_
                unfold wpOpIn
                have hww := wants_wanted ha hw
                simp only [ho]
                rw [if_pos (show Region.wanted o (yielded os (wd ds a).tmps) = true from by rw [show (wd ds a).tmps = a.tmps from rfl, hww])]
                have hsem : o.semAt F.round (wd ds a).eval = execOp a.eval o := by
                  cases hr : F.round with
                  | none => rw [Oper.semAt_none]; rfl
                  | some l => exact Oper.semAt_some l _ _ (noDefer_op hd i o ho)
                refine ⟨fun f _ => hF.fn f, ?_⟩
                rw [hsem, next?_run ha hx]
                exact ⟨a.put o.dst v, L', wd_put _ _ _ _, ha.setL hs, OpsR.regs_go hF hd k (i + 1) L' L1 h hn'⟩
            | _ => cases h
/-- k operations at once; only what 'R' names is kept. -/
theorem OpsR.regs (hF : Open F) (hd : noDefer os = true) {j : Nat} (k : Nat) (R : Loc) (hj : Nat.beq (i + k) j = true) (h : (match Q.regs P n os k i L with | some L1 => restrict L1 (R.map Prod.fst) | none => none) = some R)
    (hn : OpsR F P m n os j K ds R w) : OpsR F P m n os i K ds L w := by
  cases h1 : Q.regs P n os k i L with
  | none => rw [h1] at h; cases h
  | some L1 =>
    rw [h1] at h
    have := Nat.eq_of_beq_eq_true hj
    subst this
    exact OpsR.regs_go hF hd k i L L1 h1 (OpsR.keep h hn)
/-- An operation whose run is known. -/
theorem OpsR.run (hF : Open F) (hd : noDefer os = true) {o : Oper} {x : Next} {w' : World} (ho : at? os L i = some o) (hr : (execOp (ev L) o).run P w = .ok x w')
    (h : ∀ a, Rep n a L → o.uponIn F m P (wd ds a) (fun a' w' => ∃ a2 L', a' = wd ds a2 ∧ Rep n a2 L' ∧ OpsR F P m n os (i + 1) K ds L' w') (fun e a' w' => ∃ ds2 a2 L', a' = wd ds2 a2 ∧ Rep n a2 L' ∧ K ds2 e L' w') (.ok x w')) : OpsR F P m n os i K ds L w := by
  obtain ⟨h0, hw, hp, hk⟩ := at?_spec ho
  refine OpsR.cons h0 fun a ha => ?_
  unfold wpOpIn
  have hww := wants_wanted ha hw
  simp only [h0]
  rw [if_pos (show Region.wanted o (yielded os (wd ds a).tmps) = true from by rw [show (wd ds a).tmps = a.tmps from rfl, hww])]
  have hsem : o.semAt F.round (wd ds a).eval = execOp a.eval o := by
    cases hr : F.round with
    | none => rw [Oper.semAt_none]; rfl
    | some l => exact Oper.semAt_some l _ _ (noDefer_op hd i o h0)
  refine ⟨fun f _ => hF.fn f, ?_⟩
  rw [hsem, exec_known ha hp hk, hr]
  exact h a ha
/-- A call of yield: what the round says. -/
theorem OpsR.yield (hF : Open F) (hd : noDefer os = true) {o : Oper} {l : Nat} {args : Array Value} {R : Ending → World → Prop} (ho : at? os L i = some o) (hx : (execOp (ev L) o).run P w = (Instr.yield l args).run P w) (hY : YieldAt F (m - 1) P l args w R)
    (h : ∀ e w', R e w' → ∃ v L', e = .returned v ∧ setL n o.dst v L = some L' ∧ OpsR F P m n os (i + 1) K ds L' w') : OpsR F P m n os i K ds L w := by
  obtain ⟨fn, tmps, assign, body, hy, hR⟩ := hY
  refine OpsR.run hF hd ho (hx.trans hy) fun a ha => ?_
  refine ⟨fun q => (by rw [hF.depth] at q; cases q), hR.mono fun e w' he => ?_⟩
  obtain ⟨v, L', rfl, hs, hn⟩ := h e w' he
  exact ⟨a.put o.dst v, L', wd_put _ _ _ _, ha.setL hs, hn⟩
end
section
variable {F : Fence} {P : Program} {m n : Nat} {Q : List Deferred → Exit → Loc → World → Prop} {L : Loc} {w : World} {f : Func} {p : List Nat} {ds : List Deferred}
/-- A region, its operations one by one inside the fence. -/
theorem qr_opsR (hc : isRegion (cd f p) = true) (h : OpsR F P m n (opsOf (cd f p)) 0 Q ds L w) : wpR F P m n (cd f p) Q ds L w := by
  intro a ha
  cases e : cd f p with
  | region id os dr =>
    rw [e] at hc h
    cases dr with
    | true => cases hc
    | false =>
      have h1 := h a ha
      simp only [opsOf] at h1
      refine wpIn_region ?_
      rw [List.range_eq_range']
      exact h1
  | _ => rw [e] at hc; cases hc
end
end Go.Q
namespace Go.Q
open Go.RowKit

/-- From W on nothing has changed but blocks from B on that hold no cells. -/
def Loose (B : Nat) (W W' : World) : Prop := Keeps (fun i => B ≤ i ∧ ∃ o, W.heap[i]? = some o ∧ o.isCells = false) W W'
theorem Loose.none {B : Nat} {W W' : World} (k : Keeps none_ W W') : Loose B W W' := k.mono fun _ _ h => h.elim
theorem Loose.put {B : Nat} {W : World} {l : Nat} {o : Obj} (o' : Obj) (hB : B ≤ l) (h : W.heap[l]? = some o) (ho : o.isCells = false) : Loose B W (W.putObj l o') :=
  ⟨rfl, rfl, rfl, by simp, fun i _ hn => World.putObj_heap_other (fun e => hn (by subst e; exact ⟨hB, o, h, ho⟩))⟩
theorem Loose.has {B : Nat} {W W' : World} (k : Loose B W W') {b : Nat} {xs : List Value} {E : TypeId} (h : Has W b (rowL xs E)) : Has W' b (rowL xs E) :=
  h.keep k fun ⟨_, o, ho, hc⟩ => by rw [show W.heap[b]? = some (rowL xs E) from h] at ho; cases ho; cases hc
theorem Loose.own {B base e sz n : Nat} {v : Value} {xs : List Value} {W W' : World} (k : Loose B W W') (h : W.ownsRow base e sz v n xs) : W'.ownsRow base e sz v n xs := own_keep h k fun b hb ⟨_, o, ho, hc⟩ => by
  obtain ⟨_, h2⟩ := h
  rcases h2 with h2 | ⟨g, cap, cur, hv, hg, hh, _⟩
  · obtain ⟨rfl, _⟩ := h2; cases hb
  · subst hv
    obtain rfl : g = b := by simpa [Value.ownBlock] using hb
    rw [hh] at ho; cases ho; cases hc
theorem keepsFrom_of {B : Nat} {U : Nat → Prop} {W W' : World} (k : Keeps U W W') (h : ∀ i, U i → B ≤ i → ∃ o, W.heap[i]? = some o ∧ o.isCells = true) : KeepsFrom B W W' :=
  ⟨k.size, fun i o hB hi ho => (k.blk i (Array.getElem?_eq_some_iff.1 hi).1 fun hu => by obtain ⟨o2, h2, h3⟩ := h i hu hB; rw [hi] at h2; cases h2; rw [ho] at h3; cases h3).trans hi⟩

theorem own_is_cells {B e sz n : Nat} {v : Value} {xs : List Value} {W : World} (h : W.ownsRow B e sz v n xs) {i : Nat} (hi : v.ownBlock = some i) : ∃ o, W.heap[i]? = some o ∧ o.isCells = true := by
  obtain ⟨_, h2⟩ := h
  rcases h2 with ⟨rfl, _⟩ | ⟨g, cap, cur, hv, hg, hh, _⟩
  · cases hi
  · subst hv
    obtain rfl : g = i := by simpa [Value.ownBlock] using hi
    exact ⟨_, hh, rfl⟩
/-- A call of a function that has a body enters it. -/
theorem enters {P : Program} {f : FuncId} {fn : Func} (hf : P.funcs[f]? = some fn) (hn : (fn.name == "runtime.NumGoroutine") = false) (hb : fn.body.isSome = true) (args : Array Value) (w : World) : (callFunc f args).run P w = .ok (.enter f args) w := by
  have h1 : fn.name ≠ "runtime.NumGoroutine" := by simpa using hn
  cases hc : fn.body with
  | none => rw [hc] at hb; cases hb
  | some c => simp [callFunc, hf, h1, hc, mark]
/-- The function gf with what it has captured, made ahead of w0, tells N elements one by one, of the k-th of which 'A k' is known; what it reads lies outside T. -/
def Tells (P : Program) (m : Nat) (gf : Nat) (lb : List Value) (A : Nat → Value → World → Prop) (T : Nat → Prop) (N : Nat) (w0 : World) : Prop :=
  ∀ (l : Nat) (J : Nat → World → Prop) (W : World), Keeps T w0 W → (∀ k W W', J k W → Keeps none_ W W' → J k W') →
    (∀ k v W1, J k W1 → k < N → A k v W1 → YieldAt Fence.wide m P l #[v] W1 fun e W' => e = .returned (.bool true) ∧ J (k + 1) W' ∧ Keeps T W1 W') →
    J 0 W → Calls P gf ⟨.func (.yield l) #[] #[] :: lb⟩ W fun e W' => (∃ v, e = .returned v) ∧ J N W'

/-- A function's end, nothing put off. -/
theorem retR_norm {P : Program} {m : Nat} {L : Loc} {w : World} {fn : Func} {R : Ending → World → Prop} {v : Value} (hv : retv P fn w v L) (hR : R (.returned v) w) : retR P fn m R [] .normal L w :=
  fun a ha => ⟨v, hv a.tmps ha.val, hR⟩
end Go.Q
namespace Go.Q
open Go.RowKit

/-- The loop variables are given their values. -/
def setLs (n : Nat) : List Tmp → List Value → Loc → Option Loc
  | [], [], L => some L
  | t :: ts, v :: vs, L => match setL n (some t) v L with
    | some L' => setLs n ts vs L'
    | none => none
  | _, _, _ => none
/-- As 'Tells', of elements of several values. -/
def TellsN (P : Program) (m : Nat) (gf : Nat) (lb : List Value) (A : Nat → List Value → World → Prop) (T : Nat → Prop) (N : Nat) (w0 : World) : Prop :=
  ∀ (l : Nat) (J : Nat → World → Prop) (W : World), Keeps T w0 W → (∀ k W W', J k W → Keeps none_ W W' → J k W') →
    (∀ k vs W1, J k W1 → k < N → A k vs W1 → YieldAt Fence.wide m P l ⟨vs⟩ W1 fun e W' => e = .returned (.bool true) ∧ J (k + 1) W' ∧ Keeps T W1 W') →
    J 0 W → Calls P gf ⟨.func (.yield l) #[] #[] :: lb⟩ W fun e W' => (∃ v, e = .returned v) ∧ J N W'
end Go.Q
namespace Go.Q
open Go.RowKit

/-- As 'TellsN', of elements of which it is known alone which lists of them can come. -/
def TellsM {β : Type} (P : Program) (m : Nat) (gf : Nat) (lb : List Value) (enc : β → List Value) (T : Nat → Prop) (S : List β → Prop) (w0 : World) : Prop :=
  ∀ (l : Nat) (J : List β → World → Prop) (W : World), Keeps T w0 W → (∀ k W1 W2, J k W1 → Loose W.heap.size W1 W2 → J k W2) →
    (∀ pre x W1, J pre W1 → (∃ post, S (pre ++ x :: post)) → YieldAt Fence.wide m P l ⟨enc x⟩ W1 fun e W' => e = .returned (.bool true) ∧ J (pre ++ [x]) W' ∧ Keeps T W1 W' ∧ KeepsFrom W.heap.size W1 W') →
    J [] W → Calls P gf ⟨.func (.yield l) #[] #[] :: lb⟩ W fun e W' => (∃ v, e = .returned v) ∧ ∃ all, S all ∧ J all W'
theorem Loose.le {B B' : Nat} {W W' : World} (k : Loose B' W W') (h : B ≤ B') : Loose B W W' := k.mono fun _ _ hs => ⟨Nat.le_trans h hs.1, hs.2⟩
theorem KeepsFrom.le {B B' : Nat} {W W' : World} (k : KeepsFrom B W W') (h : B ≤ B') : KeepsFrom B' W W' := ⟨k.size, fun i o hB hi ho => k.same i o (Nat.le_trans h hB) hi ho⟩
section
variable {κ α : Type} {w w' : World} {r mb : Nat} {kf : κ → Value} {vf : α → Value} {m rest : List (κ × α)} {last : Option (κ × α)}
theorem OpsR.go {F : Fence} {P : Program} {m n : Nat} {os : Array Oper} {K : List Deferred → Exit → Loc → World → Prop} {L L' : Loc} {w : World} {i : Nat} {d : Option Tmp} {ds : List Deferred} (hF : Open F) (hd : noDefer os = true) {v : Value} {w' : World} (h0 : okAt os L i = true) (hr : Runs P L (opn os i) w v w') (hdd : dst? os i = some d) (hs : setL n d v L = some L')
    (hn : OpsR F P m n os (i + 1) K ds L' w') : OpsR F P m n os i K ds L w := by
  have h1 := at?_opn h0
  have hd' : (opn os i).dst = d := by have := (at?_spec h1).1; simpa [dst?, this] using hdd
  refine OpsR.run hF hd h1 hr fun a ha => ?_
  show ∃ a2 L', (wd ds a).put (opn os i).dst v = wd ds a2 ∧ _
  rw [hd']
  exact ⟨a.put d v, L', wd_put _ _ _ _, ha.setL hs, hn⟩
theorem came_perm {β : Type} {s p q m : List β} {x : β} (h : (s ++ (p ++ x :: q)).Perm m) : ((s ++ [x]) ++ (p ++ q)).Perm m := by
  refine List.Perm.trans ?_ h
  rw [List.append_assoc]
  exact List.Perm.append_left _ (List.perm_middle (l₁ := p) (l₂ := q) (a := x)).symm
end
end Go.Q
namespace Go.Q
end Go.Q
