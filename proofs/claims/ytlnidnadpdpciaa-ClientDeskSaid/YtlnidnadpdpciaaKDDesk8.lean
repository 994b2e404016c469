/- What the claim stands on, part 8: rules of the walk, contracts of the functions, plain laws. -/
import Derived.Test.YtlnidnadpdpciaaKDDesk7
import Derived.RangeFuncNested
import Derived.Test.YtlnidnadpdpciaaKDDesk2
import Derived.Test.YtlnidnadpdpciaaProg
import Derived.Test.YtlnidnadpdpciaaKDDesk5
import Derived.Test.YtlnidnadpdpciaaKDDesk6
set_option linter.unusedVariables false
namespace Go.Q
open Go.RowKit

def isRange : Code → Option (Operand × Array Tmp)
  | .rangeFunc g ps _ _ => some (g, ps)
  | _ => none
end Go.Q
namespace Go.Q
open Go.RowKit

def OpsR (F : Fence) (P : Program) (m n : Nat) (os : Array Oper) (i : Nat) (K : List Deferred → Exit → Loc → World → Prop) (ds : List Deferred) (L : Loc) (w : World) : Prop :=
  ∀ a, Rep n a L → wpOpsIn F m P os (fun e a' w' => ∃ ds2 a2 L', a' = wd ds2 a2 ∧ Rep n a2 L' ∧ K ds2 e L' w') (List.range' i (os.size - i)) (wd ds a) w
section
variable {F : Fence} {P : Program} {m n : Nat} {os : Array Oper} {K : List Deferred → Exit → Loc → World → Prop} {ds : List Deferred} {L : Loc} {w : World} {i : Nat}
theorem OpsR.keep {R : Loc} (hs : restrict L (R.map Prod.fst) = some R) (h : OpsR F P m n os i K ds R w) : OpsR F P m n os i K ds L w :=
  fun a ha => h a (ha.sub (restrict_sub hs))
theorem OpsR.done (hi : Nat.beq os.size i = true) (h : K ds .normal L w) : OpsR F P m n os i K ds L w := by
  intro a ha
  have : os.size - i = 0 := by have := Nat.eq_of_beq_eq_true hi; omega
  rw [this]
  exact ⟨ds, a, L, rfl, ha, h⟩
theorem OpsR.cons {o : Oper} (ho : os[i]? = some o) (h : ∀ a, Rep n a L → wpOpIn F m P os (fun e a' w' => ∃ ds2 a2 L', a' = wd ds2 a2 ∧ Rep n a2 L' ∧ K ds2 e L' w') i
    (fun a' w' => ∃ a2 L', a' = wd ds a2 ∧ Rep n a2 L' ∧ OpsR F P m n os (i + 1) K ds L' w') (wd ds a) w) : OpsR F P m n os i K ds L w := by
  intro a ha
  rw [range'_head ho, wpOpsIn_cons]
  exact wpOpIn_mono (fun a' w' ⟨a2, L', e, r, q⟩ => by subst e; exact q a2 r) (h a ha)
theorem OpsR.unwanted (hF : Open F) {o : Oper} {L' : Loc} (ho : os[i]? = some o) (hw : wants os L o = some false) (hs : setL n o.dst undef L = some L') (h : OpsR F P m n os (i + 1) K ds L' w) :
    OpsR F P m n os i K ds L w := by
  refine OpsR.cons ho fun a ha => ?_
  unfold wpOpIn
  have hww := wants_wanted ha hw
  simp only [ho]
  rw [if_neg (show ¬ Region.wanted o (yielded os (wd ds a).tmps) = true from by rw [show (wd ds a).tmps = a.tmps from rfl, hww]; simp)]
  exact ⟨fun f _ => hF.fn f, a.put o.dst undef, L', wd_put _ _ _ _, ha.setL hs, h⟩
theorem OpsR.regs_go (hF : Open F) (hd : noDefer os = true) : ∀ (k i : Nat) (L L1 : Loc), Q.regs P n os k i L = some L1 → OpsR F P m n os (i + k) K ds L1 w → OpsR F P m n os i K ds L w
  | 0, i, L, L1, h, hn => by simp only [Q.regs, Option.some.injEq] at h; subst h; exact hn
  | k + 1, i, L, L1, h, hn => by
    simp only [Q.regs] at h
    cases ho : os[i]? with
    | none => rw [ho] at h; cases h
    | some o =>
      rw [ho] at h
      simp only at h
      have hn' : OpsR F P m n os (i + 1 + k) K ds L1 w := by rw [show i + 1 + k = i + (k + 1) from by omega]; exact hn
      cases hw : wants os L o with
      | none => rw [hw] at h; cases h
      | some b =>
        rw [hw] at h
        cases b with
        | false =>
          simp only at h
          cases hs : setL n o.dst undef L with
          | none => rw [hs] at h; cases h
          | some L' => rw [hs] at h; exact OpsR.unwanted hF ho hw hs (OpsR.regs_go hF hd k (i + 1) L' L1 h hn')
        | true =>
          simp only at h
          cases hx : next? P L o with
          | none => rw [hx] at h; cases h
          | some x =>
            rw [hx] at h
            cases x with
            | value v =>
              simp only at h
              cases hs : setL n o.dst v L with
              | none => rw [hs] at h; cases h
              | some L' =>
                rw [hs] at h
                refine OpsR.cons ho fun a ha => ?_
                unfold wpOpIn
                have hww := wants_wanted ha hw
                simp only [ho]
                rw [if_pos (show Region.wanted o (yielded os (wd ds a).tmps) = true from by rw [show (wd ds a).tmps = a.tmps from rfl, hww])]
                have hsem : o.semAt F.round (wd ds a).eval = execOp a.eval o := by
                  cases hr : F.round with
                  | none => rw [Oper.semAt_none]; rfl
                  | some l => exact Oper.semAt_some l _ _ (noDefer_op hd i o ho)
                refine ⟨fun f _ => hF.fn f, ?_⟩
                rw [hsem, next?_run ha hx]
                exact ⟨a.put o.dst v, L', wd_put _ _ _ _, ha.setL hs, OpsR.regs_go hF hd k (i + 1) L' L1 h hn'⟩
            | _ => cases h
/-- k operations at once; only what 'R' names is kept. -/
theorem OpsR.regs (hF : Open F) (hd : noDefer os = true) {j : Nat} (k : Nat) (R : Loc) (hj : Nat.beq (i + k) j = true) (h : (match Q.regs P n os k i L with | some L1 => restrict L1 (R.map Prod.fst) | none => none) = some R)
    (hn : OpsR F P m n os j K ds R w) : OpsR F P m n os i K ds L w := by
  cases h1 : Q.regs P n os k i L with
  | none => rw [h1] at h; cases h
  | some L1 =>
    rw [h1] at h
    have := Nat.eq_of_beq_eq_true hj
    subst this
    exact OpsR.regs_go hF hd k i L L1 h1 (OpsR.keep h hn)
/-- An operation whose run is known. -/
theorem OpsR.run (hF : Open F) (hd : noDefer os = true) {o : Oper} {x : Next} {w' : World} (ho : at? os L i = some o) (hr : (execOp (ev L) o).run P w = .ok x w')
    (h : ∀ a, Rep n a L → o.uponIn F m P (wd ds a) (fun a' w' => ∃ a2 L', a' = wd ds a2 ∧ Rep n a2 L' ∧ OpsR F P m n os (i + 1) K ds L' w') (fun e a' w' => ∃ ds2 a2 L', a' = wd ds2 a2 ∧ Rep n a2 L' ∧ K ds2 e L' w') (.ok x w')) : OpsR F P m n os i K ds L w := by
  obtain ⟨h0, hw, hp, hk⟩ := at?_spec ho
  refine OpsR.cons h0 fun a ha => ?_
  unfold wpOpIn
  have hww := wants_wanted ha hw
  simp only [h0]
  rw [if_pos (show Region.wanted o (yielded os (wd ds a).tmps) = true from by rw [show (wd ds a).tmps = a.tmps from rfl, hww])]
  have hsem : o.semAt F.round (wd ds a).eval = execOp a.eval o := by
    cases hr : F.round with
    | none => rw [Oper.semAt_none]; rfl
    | some l => exact Oper.semAt_some l _ _ (noDefer_op hd i o h0)
  refine ⟨fun f _ => hF.fn f, ?_⟩
  rw [hsem, exec_known ha hp hk, hr]
  exact h a ha
/-- A call of yield: what the round says. -/
theorem OpsR.yield (hF : Open F) (hd : noDefer os = true) {o : Oper} {l : Nat} {args : Array Value} {R : Ending → World → Prop} (ho : at? os L i = some o) (hx : (execOp (ev L) o).run P w = (Instr.yield l args).run P w) (hY : YieldAt F (m - 1) P l args w R)
    (h : ∀ e w', R e w' → ∃ v L', e = .returned v ∧ setL n o.dst v L = some L' ∧ OpsR F P m n os (i + 1) K ds L' w') : OpsR F P m n os i K ds L w := by
  obtain ⟨fn, tmps, assign, body, hy, hR⟩ := hY
  refine OpsR.run hF hd ho (hx.trans hy) fun a ha => ?_
  refine ⟨fun q => (by rw [hF.depth] at q; cases q), hR.mono fun e w' he => ?_⟩
  obtain ⟨v, L', rfl, hs, hn⟩ := h e w' he
  exact ⟨a.put o.dst v, L', wd_put _ _ _ _, ha.setL hs, hn⟩
end
section
variable {F : Fence} {P : Program} {m n : Nat} {Q : List Deferred → Exit → Loc → World → Prop} {L : Loc} {w : World} {f : Func} {p : List Nat} {ds : List Deferred}
/-- A region, its operations one by one inside the fence. -/
theorem qr_opsR (hc : isRegion (cd f p) = true) (h : OpsR F P m n (opsOf (cd f p)) 0 Q ds L w) : wpR F P m n (cd f p) Q ds L w := by
  intro a ha
  cases e : cd f p with
  | region id os dr =>
    rw [e] at hc h
    cases dr with
    | true => cases hc
    | false =>
      have h1 := h a ha
      simp only [opsOf] at h1
      refine wpIn_region ?_
      rw [List.range_eq_range']
      exact h1
  | _ => rw [e] at hc; cases hc
end
end Go.Q
namespace Go.Q
open Go.RowKit

/-- From W on nothing has changed but blocks from B on that hold no cells. -/
def Loose (B : Nat) (W W' : World) : Prop := Keeps (fun i => B ≤ i ∧ ∃ o, W.heap[i]? = some o ∧ o.isCells = false) W W'
theorem Loose.none {B : Nat} {W W' : World} (k : Keeps none_ W W') : Loose B W W' := k.mono fun _ _ h => h.elim
theorem Loose.put {B : Nat} {W : World} {l : Nat} {o : Obj} (o' : Obj) (hB : B ≤ l) (h : W.heap[l]? = some o) (ho : o.isCells = false) : Loose B W (W.putObj l o') :=
  ⟨rfl, rfl, rfl, by simp, fun i _ hn => World.putObj_heap_other (fun e => hn (by subst e; exact ⟨hB, o, h, ho⟩))⟩
theorem Loose.has {B : Nat} {W W' : World} (k : Loose B W W') {b : Nat} {xs : List Value} {E : TypeId} (h : Has W b (rowL xs E)) : Has W' b (rowL xs E) :=
  h.keep k fun ⟨_, o, ho, hc⟩ => by rw [show W.heap[b]? = some (rowL xs E) from h] at ho; cases ho; cases hc
theorem Loose.keeps {B : Nat} {W W' : World} (k : Loose B W W') : Keeps (fun i => B ≤ i) W W' := k.mono fun _ _ h => h.1
theorem Loose.own {B base e sz n : Nat} {v : Value} {xs : List Value} {W W' : World} (k : Loose B W W') (h : W.ownsRow base e sz v n xs) : W'.ownsRow base e sz v n xs := own_keep h k fun b hb ⟨_, o, ho, hc⟩ => by
  obtain ⟨_, h2⟩ := h
  rcases h2 with h2 | ⟨g, cap, cur, hv, hg, hh, _⟩
  · obtain ⟨rfl, _⟩ := h2; cases hb
  · subst hv
    obtain rfl : g = b := by simpa [Value.ownBlock] using hb
    rw [hh] at ho; cases ho; cases hc
theorem keepsFrom_of {B : Nat} {U : Nat → Prop} {W W' : World} (k : Keeps U W W') (h : ∀ i, U i → B ≤ i → ∃ o, W.heap[i]? = some o ∧ o.isCells = true) : KeepsFrom B W W' :=
  ⟨k.size, fun i o hB hi ho => (k.blk i (Array.getElem?_eq_some_iff.1 hi).1 fun hu => by obtain ⟨o2, h2, h3⟩ := h i hu hB; rw [hi] at h2; cases h2; rw [ho] at h3; cases h3).trans hi⟩

/-- A call of a function that has a body enters it. -/
theorem enters {P : Program} {f : FuncId} {fn : Func} (hf : P.funcs[f]? = some fn) (hn : (fn.name == "runtime.NumGoroutine") = false) (hb : fn.body.isSome = true) (args : Array Value) (w : World) : (callFunc f args).run P w = .ok (.enter f args) w := by
  have h1 : fn.name ≠ "runtime.NumGoroutine" := by simpa using hn
  cases hc : fn.body with
  | none => rw [hc] at hb; cases hb
  | some c => simp [callFunc, hf, h1, hc, mark]
/-- The function gf with what it has captured, made ahead of w0, tells N elements one by one, of the k-th of which 'A k' is known; what it reads lies outside T. -/
def Tells (P : Program) (m : Nat) (gf : Nat) (lb : List Value) (A : Nat → Value → World → Prop) (T : Nat → Prop) (N : Nat) (w0 : World) : Prop :=
  ∀ (l : Nat) (J : Nat → World → Prop) (W : World), Keeps T w0 W → (∀ k W W', J k W → Keeps none_ W W' → J k W') →
    (∀ k v W1, J k W1 → k < N → A k v W1 → YieldAt Fence.wide m P l #[v] W1 fun e W' => e = .returned (.bool true) ∧ J (k + 1) W' ∧ Keeps T W1 W') →
    J 0 W → Calls P gf ⟨.func (.yield l) #[] #[] :: lb⟩ W fun e W' => (∃ v, e = .returned v) ∧ J N W'

/-- A function's end, nothing put off. -/
theorem retR_norm {P : Program} {m : Nat} {L : Loc} {w : World} {fn : Func} {R : Ending → World → Prop} {v : Value} (hv : retv P fn w v L) (hR : R (.returned v) w) : retR P fn m R [] .normal L w :=
  fun a ha => ⟨v, hv a.tmps ha.val, hR⟩
end Go.Q
namespace Go.Q
open Go.RowKit

/-- The loop variables are given their values. -/
def setLs (n : Nat) : List Tmp → List Value → Loc → Option Loc
  | [], [], L => some L
  | t :: ts, v :: vs, L => match setL n (some t) v L with
    | some L' => setLs n ts vs L'
    | none => none
  | _, _, _ => none
theorem setLs_rep {n : Nat} : ∀ {ts : List Tmp} {vs : List Value} {a : Act} {L L' : Loc}, Rep n a L → setLs n ts vs L = some L' → Rep n { tmps := (ts.zip vs).foldl (fun t x => t.setIfInBounds x.1 x.2) a.tmps, defers := a.defers } L'
  | [], [], a, L, L', h, hs => by simp only [setLs, Option.some.injEq] at hs; subst hs; simpa using h
  | [], _ :: _, _, _, _, _, hs => by simp [setLs] at hs
  | _ :: _, [], _, _, _, _, hs => by simp [setLs] at hs
  | t :: ts, v :: vs, a, L, L', h, hs => by
    simp only [setLs] at hs
    cases h1 : setL n (some t) v L with
    | none => rw [h1] at hs; cases hs
    | some L1 =>
      rw [h1] at hs
      exact setLs_rep (a := a.put (some t) v) (h.setL h1) hs
theorem setLs_len {n : Nat} : ∀ {ts : List Tmp} {vs : List Value} {L L' : Loc}, setLs n ts vs L = some L' → vs.length = ts.length
  | [], [], _, _, _ => rfl
  | [], _ :: _, _, _, hs => by simp [setLs] at hs
  | _ :: _, [], _, _, hs => by simp [setLs] at hs
  | t :: ts, v :: vs, L, L', hs => by
    simp only [setLs] at hs
    cases h1 : setL n (some t) v L with
    | none => rw [h1] at hs; cases hs
    | some L1 => rw [h1] at hs; simp [setLs_len hs]
/-- As 'Tells', of elements of several values. -/
def TellsN (P : Program) (m : Nat) (gf : Nat) (lb : List Value) (A : Nat → List Value → World → Prop) (T : Nat → Prop) (N : Nat) (w0 : World) : Prop :=
  ∀ (l : Nat) (J : Nat → World → Prop) (W : World), Keeps T w0 W → (∀ k W W', J k W → Keeps none_ W W' → J k W') →
    (∀ k vs W1, J k W1 → k < N → A k vs W1 → YieldAt Fence.wide m P l ⟨vs⟩ W1 fun e W' => e = .returned (.bool true) ∧ J (k + 1) W' ∧ Keeps T W1 W') →
    J 0 W → Calls P gf ⟨.func (.yield l) #[] #[] :: lb⟩ W fun e W' => (∃ v, e = .returned v) ∧ J N W'
theorem retv_cell_cell_tmp {P : Program} {fn : Func} {w : World} {L : Loc} {t t' t'' : Tmp} {ty ty' : TypeId} {a a' : Addr} {v v' v'' : Value} (h : fn.results = #[.cell t ty, .cell t' ty', .tmp t'']) (hv : lk L t = some (.pointer (some a))) (hl : Loads P w ty a v)
    (hv' : lk L t' = some (.pointer (some a'))) (hl' : Loads P w ty' a' v') (hv'' : lk L t'' = some v'') : retv P fn w (.tuple #[v, v', v'']) L := by
  intro tmps ht
  have h1 := ht t _ hv
  have h2 := ht t' _ hv'
  have h3 := ht t'' _ hv''
  unfold Loads at hl hl'
  simp [results, h, h1, h2, h3, asAddr, hl, hl']
end Go.Q
namespace Go.Proofs.Ytlnidnadpdpciaa
open Go.Q Go.RowKit

theorem none_calls (w : World)   : Calls Try.prog 16 ⟨[]⟩ w (fun e w' => e = .returned (agg [(i64 0), (Value.string ByteArray.empty), (Value.string ByteArray.empty), (i64 0), (Value.string ByteArray.empty), (i64 0), (i64 0)]) ∧ Keeps none_ w w') := by
 have K0 : Keeps none_ w w := Keeps.refl w
 refine q_calls Try.func16 (by kernel_rfl) (by kernel_rfl) ?_
 refine qs ?_
 refine qg ?_
 refine Ops.new (o := rowL [(i64 0), (Value.string ByteArray.empty), (Value.string ByteArray.empty), (i64 0), (Value.string ByteArray.empty), (i64 0), (i64 0)] 23) (V := fun b => (ptr b)) (by kernel_rfl) (d := (some 0)) (by kernel_rfl) (fun b => rfl) (fun b1 w2 hb3 H4 K5 hs6 => ?_)
 have nb1 : w.heap.size ≤ b1 := by have := K0.size; omega
 replace K0 := K0.t0 K5
 clear K5 hs6
 refine od ?_
 refine qs ?_
 refine qg ?_
 refine og 1 [(0, (ptr b1)), (1, (agg [(i64 0), (Value.string ByteArray.empty), (Value.string ByteArray.empty), (i64 0), (Value.string ByteArray.empty), (i64 0), (i64 0)]))] 1 ?_
 refine Ops.put (t := 23) (b := b1) (off := 0) (v := (agg [(i64 0), (Value.string ByteArray.empty), (Value.string ByteArray.empty), (i64 0), (Value.string ByteArray.empty), (i64 0), (i64 0)])) (ys := [(i64 0), (Value.string ByteArray.empty), (Value.string ByteArray.empty), (i64 0), (Value.string ByteArray.empty), (i64 0), (i64 0)]) (by kernel_rfl) (by kernel_rfl) H4 (by kernel_rfl) (d := none) (by kernel_rfl) rfl (fun w7 H8 K9 => ?_)
 clear H4
 replace K0 := K0.trans K9 (U := none_) (fun i h1 h2 => h2) (fun i h1 h2 => by have h2 : i = b1 := h2; exfalso; omega)
 clear K9
 refine od ?_
 refine q_ret (by kernel_rfl) ?_
 refine ⟨(agg [(i64 0), (Value.string ByteArray.empty), (Value.string ByteArray.empty), (i64 0), (Value.string ByteArray.empty), (i64 0), (i64 0)]), retv_cell rfl rfl (H8.loads (by kernel_rfl)), ?_⟩
 exact ⟨rfl, K0⟩

end Go.Proofs.Ytlnidnadpdpciaa
namespace Go.Proofs.Ytlnidnadpdpciaa
open Go.Q Go.RowKit

theorem Len_calls (w : World) (d : Nat) (l : List DCall) (A : Option Addr) (c : Nat) (Hd : Has w d (rowL [(Value.slice A l.length c)] 84)) : Calls Try.prog 18 ⟨[(ptr d)]⟩ w (fun e w' => e = .returned (i64 (l.length : Int)) ∧ Keeps none_ w w') := by
 have Hdl := Hd.lt
 have K0 : Keeps none_ w w := Keeps.refl w
 refine q_calls Try.func18 (by kernel_rfl) (by kernel_rfl) ?_
 refine qs ?_
 refine qg ?_
 refine og 1 [(0, (ptr d)), (2, (i64 0))] 1 ?_
 refine od ?_
 refine qs ?_
 refine qs ?_
 refine qg ?_
 refine og 2 [(0, (ptr d)), (2, (i64 0)), (4, (Value.bool false))] 2 ?_
 refine od ?_
 refine q_else (o := .tmp 4) (by kernel_rfl) rfl ?_
 refine q_skip (by kernel_rfl) ?_
 refine qs ?_
 refine qg ?_
 refine og 3 [(2, (i64 0)), (7, (ptr d))] 3 ?_
 refine Ops.go (v := (Value.slice A l.length c)) (by kernel_rfl) (Runs.load (t := 81) (a := ⟨d, 0, none⟩) (by kernel_rfl) (Hd.loads (by kernel_rfl))) (d := (some 8)) (by kernel_rfl) rfl ?_
 refine og 2 [(2, (i64 ((l.length : Nat) : Int)))] 6 ?_
 refine od ?_
 refine q_ret (by kernel_rfl) ?_
 refine ⟨(i64 ((l.length : Nat) : Int)), retv_tmp rfl rfl, ?_⟩
 exact ⟨rfl, K0⟩

theorem Get_out (w : World) (F : Nat → Prop) (d : Nat) (l : List DCall) (A : Option Addr) (c : Nat) (T : Nat → Prop) (n : Int) (Hd : Has w d (rowL [(Value.slice A l.length c)] 84)) (hO : OwnT w 0 79 11 DCall.cells ((Value.slice A l.length c)) l) (hR : RowsE w DCall.rv DCall.rows T l) (hT7 : ∀ i, T i → i ≠ d ∧ F i) (hV7 : ∀ i, ((Value.slice A l.length c)).ownBlock = some i → i ≠ d ∧ F i ∧ ¬ T i) (hFd : F d) (hFl : ∀ i, F i → i < w.heap.size) (h20 : l.length ≤ 2000) (hn : n < 0 ∨ (l.length : Int) ≤ n) : Calls Try.prog 12 ⟨[(ptr d), (i64 n)]⟩ w (fun e w' => e = .returned (.tuple #[(agg [(i64 0), (Value.string ByteArray.empty), (Value.string ByteArray.empty), (i64 0), (Value.string ByteArray.empty), (i64 0), (i64 0)]), (agg [(i64 0), (i64 0), (Value.slice none 0 0)]), .bool false]) ∧ Keeps none_ w w') := by
 have Hdl := Hd.lt
 have hTd : ∀ i, T i → i ≠ d := fun i hi => (hT7 i hi).1
 have hVd : ∀ i, ((Value.slice A l.length c)).ownBlock = some i → i ≠ d := fun i hi => (hV7 i hi).1
 have hVT : ∀ i, ((Value.slice A l.length c)).ownBlock = some i → T i → False := fun i hi h => (hV7 i hi).2.2 h
 have hcap := RdT.len DCall.two (by decide) (OwnT.rd hO)
 have K0 : Keeps none_ w w := (Keeps.refl w).mono (fun _ _ h => h.elim)
 refine q_calls Try.func12 (by kernel_rfl) (by kernel_rfl) ?_
 refine qs ?_
 refine qg ?_
 refine Ops.new (o := rowL [(i64 0), (Value.string ByteArray.empty), (Value.string ByteArray.empty), (i64 0), (Value.string ByteArray.empty), (i64 0), (i64 0)] 23) (V := fun b => (ptr b)) (by kernel_rfl) (d := (some 4)) (by kernel_rfl) (fun b => rfl) (fun b1 w2 hb3 H4 K5 hs6 => ?_)
 have lb1d : d < b1 := by have := Hd.lt; omega
 have nb1 : w.heap.size ≤ b1 := by have := K0.size; omega
 have ob7 : ∀ i, ((Value.slice A l.length c)).ownBlock = some i → i < b1 := fun i hi => by have := (World.ownsRow.lt hO i hi).2; omega
 have of8 : ∀ i, T i → i ≠ b1 := fun i hi => by have := RowsE.lt hR i hi; omega
 replace K0 := K0.t0 K5
 replace Hd := Hd.keep K5 (fun h => h)
 replace hO := own_keep0 hO K5
 replace hR := RowsE.keep hR K5 (fun _ _ h => h)
 clear K5 hs6
 refine Ops.new (o := rowL [(i64 0), (i64 0), (Value.slice none 0 0)] 27) (V := fun b => (ptr b)) (by kernel_rfl) (d := (some 5)) (by kernel_rfl) (fun b => rfl) (fun b9 w10 hb11 H12 K13 hs14 => ?_)
 have lb9d : d < b9 := by have := Hd.lt; omega
 have lb9b1 : b1 < b9 := by have := H4.lt; omega
 have nb9 : w.heap.size ≤ b9 := by have := K0.size; omega
 have ob15 : ∀ i, ((Value.slice A l.length c)).ownBlock = some i → i < b9 := fun i hi => by have := (World.ownsRow.lt hO i hi).2; omega
 have of16 : ∀ i, T i → i ≠ b9 := fun i hi => by have := RowsE.lt hR i hi; omega
 replace K0 := K0.t0 K13
 replace Hd := Hd.keep K13 (fun h => h)
 replace H4 := H4.keep K13 (fun h => h)
 replace hO := own_keep0 hO K13
 replace hR := RowsE.keep hR K13 (fun _ _ h => h)
 clear K13 hs14
 refine og 1 [(0, (ptr d)), (1, (i64 n)), (4, (ptr b1)), (5, (ptr b9)), (6, (Value.bool false))] 3 ?_
 refine od ?_
 refine qs ?_
 refine qg ?_
 refine og 2 [(4, (ptr b1)), (5, (ptr b9)), (6, (Value.bool false)), (8, (ptr d)), (9, (i64 n))] 2 ?_
 refine Ops.call (by kernel_rfl) (d := (some 10)) (by kernel_rfl) (at_out _ d l A c n Hd (by omega)) ?_
 rintro _ w18 ⟨rfl, K17⟩
 refine ⟨_, _, rfl, rfl, ?_⟩
 replace K0 := K0.t0 K17
 replace Hd := Hd.keep K17 (fun h => h)
 replace H4 := H4.keep K17 (fun h => h)
 replace H12 := H12.keep K17 (fun h => h)
 replace hO := own_keep0 hO K17
 replace hR := RowsE.keep hR K17 (fun _ _ h => h)
 clear K17
 refine og 1 [(4, (ptr b1)), (5, (ptr b9)), (6, (Value.bool false)), (7, (Value.pointer none))] 4 ?_
 refine od ?_
 refine qs ?_
 refine qs ?_
 refine qg ?_
 refine og 2 [(4, (ptr b1)), (5, (ptr b9)), (6, (Value.bool false)), (7, (Value.pointer none)), (12, (Value.bool true))] 2 ?_
 refine od ?_
 refine q_then (o := .tmp 12) (by kernel_rfl) rfl ?_
 refine qs ?_
 refine qg ?_
 refine og 2 [(4, (ptr b1)), (5, (ptr b9)), (6, (Value.bool false)), (7, (Value.pointer none)), (13, (agg [(i64 0), (Value.string ByteArray.empty), (Value.string ByteArray.empty), (i64 0), (Value.string ByteArray.empty), (i64 0), (i64 0)])), (14, (agg [(i64 0), (i64 0), (Value.slice none 0 0)]))] 2 ?_
 refine Ops.put (t := 23) (b := b1) (off := 0) (v := (agg [(i64 0), (Value.string ByteArray.empty), (Value.string ByteArray.empty), (i64 0), (Value.string ByteArray.empty), (i64 0), (i64 0)])) (ys := [(i64 0), (Value.string ByteArray.empty), (Value.string ByteArray.empty), (i64 0), (Value.string ByteArray.empty), (i64 0), (i64 0)]) (by kernel_rfl) (by kernel_rfl) H4 (by kernel_rfl) (d := none) (by kernel_rfl) rfl (fun w19 H20 K21 => ?_)
 clear H4
 replace K0 := K0.trans K21 (U := none_) (fun i h1 h2 => h2) (fun i h1 h2 => by have h2 : i = b1 := h2; exfalso; omega)
 replace Hd := Hd.k1 K21 (by omega)
 replace H12 := H12.k1 K21 (by omega)
 replace hO := own_keep hO K21 (fun i hi => by have := ob7 i hi; omega)
 replace hR := RowsE.keep hR K21 (fun i hi hs => by have hs : i = b1 := hs; have := of8 i hi; omega)
 clear K21
 refine Ops.put (t := 27) (b := b9) (off := 0) (v := (agg [(i64 0), (i64 0), (Value.slice none 0 0)])) (ys := [(i64 0), (i64 0), (Value.slice none 0 0)]) (by kernel_rfl) (by kernel_rfl) H12 (by kernel_rfl) (d := none) (by kernel_rfl) rfl (fun w22 H23 K24 => ?_)
 clear H12
 replace K0 := K0.trans K24 (U := none_) (fun i h1 h2 => h2) (fun i h1 h2 => by have h2 : i = b9 := h2; exfalso; omega)
 replace Hd := Hd.k1 K24 (by omega)
 replace H20 := H20.k1 K24 (by omega)
 replace hO := own_keep hO K24 (fun i hi => by have := ob15 i hi; omega)
 replace hR := RowsE.keep hR K24 (fun i hi hs => by have hs : i = b9 := hs; have := of16 i hi; omega)
 clear K24
 refine og 1 [(4, (ptr b1)), (5, (ptr b9)), (6, (Value.bool false)), (7, (Value.pointer none))] 5 ?_
 refine od ?_
 refine q_ret (by kernel_rfl) ?_
 refine ⟨(Value.tuple #[(agg [(i64 0), (Value.string ByteArray.empty), (Value.string ByteArray.empty), (i64 0), (Value.string ByteArray.empty), (i64 0), (i64 0)]), (agg [(i64 0), (i64 0), (Value.slice none 0 0)]), (Value.bool false)]), retv_cell_cell_tmp rfl rfl (H20.loads (by kernel_rfl)) rfl (H23.loads (by kernel_rfl)) rfl, ?_⟩
 exact ⟨rfl, K0⟩

theorem Get_in (w : World) (F : Nat → Prop) (d : Nat) (l : List DCall) (A : Option Addr) (c : Nat) (T : Nat → Prop) (k : Nat) (x : DCall) (Hd : Has w d (rowL [(Value.slice A l.length c)] 84)) (hO : OwnT w 0 79 11 DCall.cells ((Value.slice A l.length c)) l) (hR : RowsE w DCall.rv DCall.rows T l) (hT7 : ∀ i, T i → i ≠ d ∧ F i) (hV7 : ∀ i, ((Value.slice A l.length c)).ownBlock = some i → i ≠ d ∧ F i ∧ ¬ T i) (hFd : F d) (hFl : ∀ i, F i → i < w.heap.size) (h20 : l.length ≤ 2000) (hz : ∀ x ∈ l, x.rows.length * 24 ≤ 140737488351232) (hx : l[k]? = some x) : Calls Try.prog 12 ⟨[(ptr d), (i64 ((k : Nat) : Int))]⟩ w (fun e w' => ∃ A' c', e = .returned (.tuple #[(agg [(i64 x.op.kind), (Value.string (str x.op.frm)), (Value.string (str x.op.to)), (i64 x.op.amount), (Value.string (str x.op.key)), (i64 x.op.slot), (i64 x.op.shard)]), agg [i64 x.why, i64 x.amount, .slice A' x.rows.length c'], .bool x.is]) ∧ Keeps none_ w w' ∧ OwnT w' w.heap.size 59 2 RowM.cells (.slice A' x.rows.length c') x.rows) := by
 have Hdl := Hd.lt
 have hTd : ∀ i, T i → i ≠ d := fun i hi => (hT7 i hi).1
 have hVd : ∀ i, ((Value.slice A l.length c)).ownBlock = some i → i ≠ d := fun i hi => (hV7 i hi).1
 have hVT : ∀ i, ((Value.slice A l.length c)).ownBlock = some i → T i → False := fun i hi h => (hV7 i hi).2.2 h
 have hcap := RdT.len DCall.two (by decide) (OwnT.rd hO)
 obtain ⟨gB, pre, suf, hA, _, hp, HX0, hput⟩ := OwnT.mid DCall.two (by decide) hx hO
 have hk := (List.getElem?_eq_some_iff.1 hx).1
 have hgd : gB ≠ d := hVd gB (by rw [hA]; rfl)
 have hgF : F gB := (hV7 gB (by rw [hA]; rfl)).2.1
 have hgT : ¬ T gB := (hV7 gB (by rw [hA]; rfl)).2.2
 have hTg : ∀ i, T i → i ≠ gB := fun i hi q => hgT (q ▸ hi)
 have HXl := HX0.lt
 have hxm := List.mem_of_getElem? hx
 have K0 : Keeps none_ w w := (Keeps.refl w).mono (fun _ _ h => h.elim)
 refine q_calls Try.func12 (by kernel_rfl) (by kernel_rfl) ?_
 refine qs ?_
 refine qg ?_
 refine Ops.new (o := rowL [(i64 0), (Value.string ByteArray.empty), (Value.string ByteArray.empty), (i64 0), (Value.string ByteArray.empty), (i64 0), (i64 0)] 23) (V := fun b => (ptr b)) (by kernel_rfl) (d := (some 4)) (by kernel_rfl) (fun b => rfl) (fun b1 w2 hb3 H4 K5 hs6 => ?_)
 have lb1d : d < b1 := by have := Hd.lt; omega
 have lb1gB : gB < b1 := by have := HX0.lt; omega
 have nb1 : w.heap.size ≤ b1 := by have := K0.size; omega
 have of7 : ∀ i, T i → i ≠ b1 := fun i hi => by have := RowsE.lt hR i hi; omega
 replace K0 := K0.t0 K5
 replace Hd := Hd.keep K5 (fun h => h)
 replace HX0 := HX0.keep K5 (fun h => h)
 replace hR := RowsE.keep hR K5 (fun _ _ h => h)
 clear K5 hs6
 refine Ops.new (o := rowL [(i64 0), (i64 0), (Value.slice none 0 0)] 27) (V := fun b => (ptr b)) (by kernel_rfl) (d := (some 5)) (by kernel_rfl) (fun b => rfl) (fun b8 w9 hb10 H11 K12 hs13 => ?_)
 have lb8d : d < b8 := by have := Hd.lt; omega
 have lb8gB : gB < b8 := by have := HX0.lt; omega
 have lb8b1 : b1 < b8 := by have := H4.lt; omega
 have nb8 : w.heap.size ≤ b8 := by have := K0.size; omega
 have of14 : ∀ i, T i → i ≠ b8 := fun i hi => by have := RowsE.lt hR i hi; omega
 replace K0 := K0.t0 K12
 replace Hd := Hd.keep K12 (fun h => h)
 replace HX0 := HX0.keep K12 (fun h => h)
 replace H4 := H4.keep K12 (fun h => h)
 replace hR := RowsE.keep hR K12 (fun _ _ h => h)
 clear K12 hs13
 refine og 1 [(0, (ptr d)), (1, (i64 ((k : Nat) : Int))), (4, (ptr b1)), (5, (ptr b8)), (6, (Value.bool false))] 3 ?_
 refine od ?_
 refine qs ?_
 refine qg ?_
 refine og 2 [(4, (ptr b1)), (5, (ptr b8)), (6, (Value.bool false)), (8, (ptr d)), (9, (i64 ((k : Nat) : Int)))] 2 ?_
 refine Ops.call (by kernel_rfl) (d := (some 10)) (by kernel_rfl) (at_in _ d l A c k gB Hd hk hA) ?_
 rintro _ w16 ⟨rfl, K15⟩
 refine ⟨_, _, rfl, rfl, ?_⟩
 replace K0 := K0.t0 K15
 replace Hd := Hd.keep K15 (fun h => h)
 replace HX0 := HX0.keep K15 (fun h => h)
 replace H4 := H4.keep K15 (fun h => h)
 replace H11 := H11.keep K15 (fun h => h)
 replace hR := RowsE.keep hR K15 (fun _ _ h => h)
 clear K15
 refine og 1 [(4, (ptr b1)), (5, (ptr b8)), (6, (Value.bool false)), (7, (Value.pointer (some ⟨gB, k * 11, none⟩)))] 4 ?_
 refine od ?_
 refine qs ?_
 refine qs ?_
 refine qg ?_
 refine og 2 [(4, (ptr b1)), (5, (ptr b8)), (6, (Value.bool false)), (7, (Value.pointer (some ⟨gB, k * 11, none⟩))), (12, (Value.bool false))] 2 ?_
 refine od ?_
 refine q_else (o := .tmp 12) (by kernel_rfl) rfl ?_
 refine q_skip (by kernel_rfl) ?_
 refine qs ?_
 refine q_draw (fun wz => Keeps (fun i => i = b1 ∨ i = b8) w16 wz) 16 (by kernel_rfl) (by kernel_rfl) (by kernel_rfl) (fun w17 K18 _ _ => ⟨(K18.mono (fun _ _ h => h.elim)), ?_⟩)
 replace K0 := K0.t0 K18
 replace Hd := Hd.keep K18 (fun h => h)
 replace HX0 := HX0.keep K18 (fun h => h)
 replace H4 := H4.keep K18 (fun h => h)
 replace H11 := H11.keep K18 (fun h => h)
 replace hR := RowsE.keep hR K18 (fun _ _ h => h)
 refine Dr.strong (S' := (fun wz => Keeps (fun i => i = b1 ∨ i = b8) w17 wz)) ((Keeps.refl w17).mono (fun _ _ h => h.elim)) (fun wz hx => K18.trans hx (fun i _ h => h.elim) (fun _ _ h => h)) ?_
 clear K18
 refine Dr.takes (fuel' := 13) (is' := _) [0, 1, 2] [(4, (ptr b1)), (5, (ptr b8)), (6, (Value.bool false)), (7, (Value.pointer (some ⟨gB, k * 11, none⟩))), (17, (Value.pointer (some ⟨gB, k * 11, none⟩)))] (by kernel_rfl) rfl (by kernel_rfl) ?_
 refine Dr.take (i := 3) (v := (agg [(i64 x.op.kind), (Value.string (str x.op.frm)), (Value.string (str x.op.to)), (i64 x.op.amount), (Value.string (str x.op.key)), (i64 x.op.slot), (i64 x.op.shard)])) (by kernel_rfl) (by kernel_rfl) (fun wz hS => Runs.load (t := 23) (a := ⟨gB, k * 11, none⟩) (by kernel_rfl) ((HX0.keep hS (by intro h; change gB = b1 ∨ gB = b8 at h; omega)).loads (loadCN (vs := [(i64 x.op.kind), (Value.string (str x.op.frm)), (Value.string (str x.op.to)), (i64 x.op.amount), (Value.string (str x.op.key)), (i64 x.op.slot), (i64 x.op.shard)]) (by kernel_rfl) (by kernel_rfl) (midN (k := 0) (by have := hp; omega) (by kernel_rfl) (Nat.le_of_ble_eq_true (by kernel_rfl))) (mid_len (k := 0) (by have := hp; omega) (Nat.le_of_ble_eq_true (by kernel_rfl)))))) (d := (some 18)) (by kernel_rfl) rfl ?_
 refine Dr.takes (fuel' := 9) (is' := _) [4, 5, 6] [(4, (ptr b1)), (5, (ptr b8)), (6, (Value.bool false)), (7, (Value.pointer (some ⟨gB, k * 11, none⟩))), (18, (agg [(i64 x.op.kind), (Value.string (str x.op.frm)), (Value.string (str x.op.to)), (i64 x.op.amount), (Value.string (str x.op.key)), (i64 x.op.slot), (i64 x.op.shard)])), (21, (Value.pointer (some ⟨gB, k * 11 + 7, none⟩)))] (by kernel_rfl) rfl (by kernel_rfl) ?_
 refine Dr.take (i := 7) (v := (agg [(i64 x.why), (i64 x.amount), (Value.slice x.A x.rows.length x.c)])) (by kernel_rfl) (by kernel_rfl) (fun wz hS => Runs.load (t := 27) (a := ⟨gB, k * 11 + 7, none⟩) (by kernel_rfl) ((HX0.keep hS (by intro h; change gB = b1 ∨ gB = b8 at h; omega)).loads (loadCN (vs := [(i64 x.why), (i64 x.amount), (Value.slice x.A x.rows.length x.c)]) (by kernel_rfl) (by kernel_rfl) (midN (k := 7) (by have := hp; omega) (by kernel_rfl) (Nat.le_of_ble_eq_true (by kernel_rfl))) (mid_len (k := 7) (by have := hp; omega) (Nat.le_of_ble_eq_true (by kernel_rfl)))))) (d := (some 22)) (by kernel_rfl) rfl ?_
 refine Dr.takes (fuel' := 5) (is' := _) [9, 10, 11] [(4, (ptr b1)), (5, (ptr b8)), (6, (Value.bool false)), (18, (agg [(i64 x.op.kind), (Value.string (str x.op.frm)), (Value.string (str x.op.to)), (i64 x.op.amount), (Value.string (str x.op.key)), (i64 x.op.slot), (i64 x.op.shard)])), (22, (agg [(i64 x.why), (i64 x.amount), (Value.slice x.A x.rows.length x.c)])), (26, (Value.pointer (some ⟨gB, k * 11 + 10, none⟩)))] (by kernel_rfl) rfl (by kernel_rfl) ?_
 refine Dr.take (i := 12) (v := (Value.bool x.is)) (by kernel_rfl) (by kernel_rfl) (fun wz hS => Runs.load (t := 4) (a := ⟨gB, k * 11 + 10, none⟩) (by kernel_rfl) ((HX0.keep hS (by intro h; change gB = b1 ∨ gB = b8 at h; omega)).loads (loadC1 (by kernel_rfl) (mid1 (k := 10) (by have := hp; omega) (by kernel_rfl))))) (d := (some 27)) (by kernel_rfl) rfl ?_
 refine Dr.call (i := 8) (by kernel_rfl) (by kernel_rfl) (d := (some 23)) (by kernel_rfl) (fun _ => own_calls _ x.why x.amount x.A x.c x.rows (hR.1 x hxm) (hz x hxm)) ?_
 rintro _ w21 ⟨A19, c20, rfl, K22, hO23⟩
 have ob25 : ∀ i, ((Value.slice A19 x.rows.length c20)).ownBlock = some i → i ≠ d := fun i hi => by have := (World.ownsRow.lt hO23 i hi).1; have := Hd.lt; omega
 have ob26 : ∀ i, ((Value.slice A19 x.rows.length c20)).ownBlock = some i → i ≠ gB := fun i hi => by have := (World.ownsRow.lt hO23 i hi).1; have := HX0.lt; omega
 have ob27 : ∀ i, ((Value.slice A19 x.rows.length c20)).ownBlock = some i → i ≠ b1 := fun i hi => by have := (World.ownsRow.lt hO23 i hi).1; have := H4.lt; omega
 have ob28 : ∀ i, ((Value.slice A19 x.rows.length c20)).ownBlock = some i → i ≠ b8 := fun i hi => by have := (World.ownsRow.lt hO23 i hi).1; have := H11.lt; omega
 have oo29 : ∀ i, ((Value.slice A19 x.rows.length c20)).ownBlock = some i → T i → False := fun i hs hi => by have := (World.ownsRow.lt hO23 i hs).1; have := RowsE.lt hR i hi; omega
 have O24 := own_base hO23 K0.size
 replace K0 := K0.t0 K22
 replace Hd := Hd.keep K22 (fun h => h)
 replace HX0 := HX0.keep K22 (fun h => h)
 replace H4 := H4.keep K22 (fun h => h)
 replace H11 := H11.keep K22 (fun h => h)
 replace hR := RowsE.keep hR K22 (fun _ _ h => h)
 refine ⟨_, _, rfl, rfl, (K22.mono (fun _ _ h => h.elim)), ?_⟩
 refine Dr.strong (S' := (fun wz => Keeps (fun i => i = b1 ∨ i = b8) w21 wz)) ((Keeps.refl w21).mono (fun _ _ h => h.elim)) (fun wz hx => K22.trans hx (fun i _ h => h.elim) (fun _ _ h => h)) ?_
 clear K22
 refine Dr.put (i := 13) (t := 23) (b := b1) (off := 0) (v := (agg [(i64 x.op.kind), (Value.string (str x.op.frm)), (Value.string (str x.op.to)), (i64 x.op.amount), (Value.string (str x.op.key)), (i64 x.op.slot), (i64 x.op.shard)])) (ys := [(i64 x.op.kind), (Value.string (str x.op.frm)), (Value.string (str x.op.to)), (i64 x.op.amount), (Value.string (str x.op.key)), (i64 x.op.slot), (i64 x.op.shard)]) (by kernel_rfl) (by kernel_rfl) (by kernel_rfl) H4 (by kernel_rfl) (d := none) (by kernel_rfl) rfl (fun w30 H31 K32 => ?_)
 clear H4
 replace K0 := K0.trans K32 (U := none_) (fun i h1 h2 => h2) (fun i h1 h2 => by have h2 : i = b1 := h2; exfalso; omega)
 replace Hd := Hd.k1 K32 (by omega)
 replace HX0 := HX0.k1 K32 (by omega)
 replace H11 := H11.k1 K32 (by omega)
 replace hR := RowsE.keep hR K32 (fun i hi hs => by have hs : i = b1 := hs; have := of7 i hi; omega)
 replace O24 := own_keep O24 K32 (fun i hi => by have := ob27 i hi; omega)
 refine ⟨(K32.mono (fun i _ h => by have h : i = b1 := h; show i = b1 ∨ i = b8; omega)), ?_⟩
 refine Dr.strong (S' := (fun wz => Keeps (fun i => i = b1 ∨ i = b8) w30 wz)) ((Keeps.refl w30).mono (fun _ _ h => h.elim)) (fun wz hx => K32.trans hx (fun i _ h => by have h : i = b1 := h; show i = b1 ∨ i = b8; omega) (fun _ _ h => h)) ?_
 clear K32
 refine Dr.put (i := 14) (t := 27) (b := b8) (off := 0) (v := (agg [(i64 x.why), (i64 x.amount), (Value.slice A19 x.rows.length c20)])) (ys := [(i64 x.why), (i64 x.amount), (Value.slice A19 x.rows.length c20)]) (by kernel_rfl) (by kernel_rfl) (by kernel_rfl) H11 (by kernel_rfl) (d := none) (by kernel_rfl) rfl (fun w33 H34 K35 => ?_)
 clear H11
 replace K0 := K0.trans K35 (U := none_) (fun i h1 h2 => h2) (fun i h1 h2 => by have h2 : i = b8 := h2; exfalso; omega)
 replace Hd := Hd.k1 K35 (by omega)
 replace HX0 := HX0.k1 K35 (by omega)
 replace H31 := H31.k1 K35 (by omega)
 replace hR := RowsE.keep hR K35 (fun i hi hs => by have hs : i = b8 := hs; have := of14 i hi; omega)
 replace O24 := own_keep O24 K35 (fun i hi => by have := ob28 i hi; omega)
 refine ⟨(K35.mono (fun i _ h => by have h : i = b8 := h; show i = b1 ∨ i = b8; omega)), ?_⟩
 refine Dr.strong (S' := (fun wz => Keeps (fun i => i = b1 ∨ i = b8) w33 wz)) ((Keeps.refl w33).mono (fun _ _ h => h.elim)) (fun wz hx => K35.trans hx (fun i _ h => by have h : i = b8 := h; show i = b1 ∨ i = b8; omega) (fun _ _ h => h)) ?_
 clear K35
 refine Dr.takes (fuel' := 0) (is' := _) [15] [(4, (ptr b1)), (5, (ptr b8)), (6, (Value.bool x.is))] (by kernel_rfl) rfl (by kernel_rfl) ?_
 refine Dr.done (by kernel_rfl) ?_
 refine q_ret (by kernel_rfl) ?_
 refine ⟨(Value.tuple #[(agg [(i64 x.op.kind), (Value.string (str x.op.frm)), (Value.string (str x.op.to)), (i64 x.op.amount), (Value.string (str x.op.key)), (i64 x.op.slot), (i64 x.op.shard)]), (agg [(i64 x.why), (i64 x.amount), (Value.slice A19 x.rows.length c20)]), (Value.bool x.is)]), retv_cell_cell_tmp rfl rfl (H31.loads (by kernel_rfl)) rfl (H34.loads (by kernel_rfl)) rfl, ?_⟩
 exact ⟨A19, c20, rfl, K0, own_base O24 (Nat.le_refl _)⟩
end Go.Proofs.Ytlnidnadpdpciaa
