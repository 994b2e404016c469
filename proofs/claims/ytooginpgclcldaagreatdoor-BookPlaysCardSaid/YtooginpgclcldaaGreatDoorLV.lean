/- Several texts of the library in one. -/
import Derived.Test.YtooginpgclcldaaGreatDoorLA
import Derived.RangeFuncWrites
import Derived.OrdersIn
import Derived.RangeFuncCalls
import Derived.RangeFuncLeaves
import Derived.LoopNIn
import Derived.RangeFuncNested
import Derived.Test.YtooginpgclcldaaGreatDoorLB
set_option linter.unusedVariables false
namespace Go.Q
open Go.RowKit

/-- Fences that shut nobody out: the wide one, and a round in it. -/
structure Open (F : Fence) : Prop where
  fn : ∀ f, F.fn f
  depth : F.depth = none
  calls : ∀ {n : Nat} {P : Program} {f : FuncId} {args : Array Value} {w : World} {R : Ending → World → Prop}, Calls P f args w R → CallsIn F n P f args w R
  rows : ∀ {n : Nat} {P : Program} {r : String} {args : Array Value} {w : World} {R : Value → World → Prop}, Rows P r args w R → RowsIn F n P r args w R
theorem Open.wide : Open Fence.wide := ⟨fun _ => trivial, rfl, fun h => callsIn_wide.2 h, fun h c cs _ => let ⟨v, w2, r, s⟩ := h c cs; ⟨v, w2, r, stepsIn_wide.2 s⟩⟩
theorem Open.round (l : Nat) : Open (Fence.wide.inRound l) := ⟨fun _ => trivial, rfl, fun h => CallsIn.inRound l (callsIn_wide.2 h), fun h c cs _ => let ⟨v, w2, r, s⟩ := h c cs; ⟨v, w2, r, stepsIn_wide.2 s⟩⟩
/-- An act with other deferred calls. -/
def wd (ds : List Deferred) (a : Act) : Act := { a with defers := ds }
theorem wd_put (ds : List Deferred) (a : Act) (d : Option Tmp) (v : Value) : (wd ds a).put d v = wd ds (a.put d v) := by cases d <;> rfl
theorem put_defers (a : Act) (d : Option Tmp) (v : Value) : (a.put d v).defers = a.defers := by cases d <;> rfl
theorem op_defers {P : Program} {o : Oper} {a : Act} {w : World} {K : Act → World → Prop} {Q : Exit → Act → World → Prop} (hK : ∀ a w, K a w → a.defers = []) (hQ : ∀ e a w, e ≠ .normal → ¬ Q e a w) (h : o.wp P a w K Q) : a.defers = [] := by
  unfold Oper.wp at h
  revert h
  generalize (execOp a.eval o).run P w = r
  intro h
  cases r with
  | ok x w' =>
    cases x with
    | enter f args =>
      obtain ⟨e, w2, fr, he, _⟩ := h []
      cases e with
      | returned v => have := hK _ _ he; rwa [put_defers] at this
      | panicked c => exact absurd he (hQ _ _ _ (by simp))
      | outgrown => obtain ⟨a2, w3, q⟩ := he; exact absurd q (hQ _ _ _ (by simp))
    | row r args => obtain ⟨v, w2, he, _⟩ := h default []; have := hK _ _ he; rwa [put_defers] at this
    | value v => have := hK _ _ h; rwa [put_defers] at this
    | skip => have := hK _ _ h; rwa [put_defers] at this
    | defer d => have := hK _ _ h; rw [put_defers] at this; cases this
    | _ => exact False.elim h
  | halt x w' =>
    cases x with
    | panic v => exact absurd h (hQ _ _ _ (by simp))
    | _ => exact False.elim h
theorem ops_defers {P : Program} {ops : Array Oper} {Q : Exit → Act → World → Prop} (hN : ∀ a w, Q .normal a w → a.defers = []) (hQ : ∀ e a w, e ≠ .normal → ¬ Q e a w) :
    ∀ (is : List Nat) (a : Act) (w : World), wpOps P ops Q is a w → a.defers = []
  | [], a, w, h => hN _ _ h
  | i :: is, a, w, h => by
    unfold wpOps at h
    cases ho : ops[i]? with
    | none => rw [ho] at h; exact ops_defers hN hQ is a w h
    | some o =>
      rw [ho] at h
      simp only at h
      split at h
      · rcases h with h | h
        · exact op_defers (fun a w q => ops_defers hN hQ is a w q) hQ h
        · obtain ⟨_, a2, w3, q⟩ := h; exact absurd q (hQ _ _ _ (by simp))
      · have := ops_defers hN hQ is _ w h
        rwa [put_defers] at this
theorem opIn {P : Program} {F : Fence} (hF : Open F) (n : Nat) (ds : List Deferred) {o : Oper} {a : Act} {w : World} {K K' : Act → World → Prop} {Q Q' : Exit → Act → World → Prop} (hd : ∀ c, o.op ≠ .defer c)
    (hK : ∀ a w, K a w → K' (wd ds a) w) (hD : ∀ a w, K a w → a.defers = []) (hQ : ∀ e a w, e ≠ .normal → ¬ Q e a w) (h : o.wp P a w K Q) : o.wpIn F n P (wd ds a) w K' Q' := by
  unfold Oper.wp at h
  unfold Oper.wpIn
  refine ⟨fun f _ => hF.fn f, ?_⟩
  have hs : o.semAt F.round (wd ds a).eval = execOp a.eval o := by
    cases hr : F.round with
    | none => rw [Oper.semAt_none]; rfl
    | some l => exact Oper.semAt_some l _ _ hd
  rw [hs]
  revert h
  generalize (execOp a.eval o).run P w = r
  intro h
  have hdep : F.depth.isSome = true → 1 ≤ n := fun q => by rw [hF.depth] at q; cases q
  cases r with
  | ok x w' =>
    cases x with
    | enter f args =>
      refine ⟨hdep, hF.calls (Calls.mono h fun e w2 he => ?_)⟩
      cases e with
      | returned v => show K' ((wd ds a).put o.dst v) w2; rw [wd_put]; exact hK _ _ he
      | panicked c => exact absurd he (hQ _ _ _ (by simp))
      | outgrown => obtain ⟨a2, w3, q⟩ := he; exact absurd q (hQ _ _ _ (by simp))
    | row r args => exact ⟨hdep, hF.rows (Rows.mono h fun v w2 he => by rw [wd_put]; exact hK _ _ he)⟩
    | value v => show K' ((wd ds a).put o.dst v) w'; rw [wd_put]; exact hK _ _ h
    | skip => show K' ((wd ds a).put o.dst undef) w'; rw [wd_put]; exact hK _ _ h
    | defer d => have := hD _ _ h; rw [put_defers] at this; cases this
    | _ => exact False.elim h
  | halt x w' =>
    cases x with
    | panic v => exact absurd h (hQ _ _ _ (by simp))
    | _ => exact False.elim h
theorem opsIn {P : Program} {F : Fence} (hF : Open F) (n : Nat) (ds : List Deferred) {ops : Array Oper} {Q Q' : Exit → Act → World → Prop} (hd : ∀ (i : Nat) (o : Oper), ops[i]? = some o → ∀ c, o.op ≠ .defer c)
    (hN : ∀ a w, Q .normal a w → a.defers = [] ∧ Q' .normal (wd ds a) w) (hQ : ∀ e a w, e ≠ .normal → ¬ Q e a w) :
    ∀ (is : List Nat) (a : Act) (w : World), wpOps P ops Q is a w → wpOpsIn F n P ops Q' is (wd ds a) w
  | [], a, w, h => (hN _ _ h).2
  | i :: is, a, w, h => by
    unfold wpOps at h
    unfold wpOpsIn
    cases ho : ops[i]? with
    | none => rw [ho] at h; exact opsIn hF n ds hd hN hQ is a w h
    | some o =>
      rw [ho] at h
      simp only at h ⊢
      by_cases hw : Region.wanted o (yielded ops a.tmps)
      · rw [if_pos hw] at h
        rw [if_pos (show Region.wanted o (yielded ops (wd ds a).tmps) from hw)]
        rcases h with h | h
        · exact opIn hF n ds (hd i o ho) (fun a w q => opsIn hF n ds hd hN hQ is a w q) (fun a w q => ops_defers (fun a w q => (hN a w q).1) hQ is a w q) hQ h
        · obtain ⟨_, a2, w3, q⟩ := h; exact absurd q (hQ _ _ _ (by simp))
      · rw [if_neg hw] at h
        rw [if_neg (show ¬ Region.wanted o (yielded ops (wd ds a).tmps) from hw)]
        refine ⟨fun f _ => hF.fn f, ?_⟩
        rw [wd_put]
        exact opsIn hF n ds hd hN hQ is _ w h
end Go.Q
namespace Go.Q
open Go.RowKit
/-- The walk's word inside a fence, with deferred calls behind: in a round of a range over a function (F a round, ds nothing), and behind such a loop (F wide, ds the rounds' calls). -/
def wpR (F : Fence) (P : Program) (m n : Nat) (c : Code) (Q : List Deferred → Exit → Loc → World → Prop) (ds : List Deferred) (L : Loc) (w : World) : Prop :=
  ∀ a, Rep n a L → c.wpIn F m P (fun e a' w' => ∃ ds2 a2 L', a' = wd ds2 a2 ∧ Rep n a2 L' ∧ Q ds2 e L' w') (wd ds a) w
section
variable {F : Fence} {ds : List Deferred} {P : Program} {m n : Nat} {Q : List Deferred → Exit → Loc → World → Prop} {L : Loc} {w : World} {f : Func} {p : List Nat}
theorem qr_keep {c : Code} {R : Loc} (hs : restrict L (R.map Prod.fst) = some R) (h : wpR F P m n c Q ds R w) : wpR F P m n c Q ds L w :=
  fun a ha => h a (ha.sub (restrict_sub hs))
theorem qr_mono {c : Code} {Q' : List Deferred → Exit → Loc → World → Prop} (h : wpR F P m n c Q ds L w) (hq : ∀ ds e L w, Q ds e L w → Q' ds e L w) : wpR F P m n c Q' ds L w :=
  fun a ha => wpIn_mono (h a ha) fun _ _ _ ⟨d2, a2, L', e, r, q⟩ => ⟨d2, a2, L', e, r, hq _ _ _ _ q⟩
theorem qr_seq (hc : isSeq (cd f p) = true) (h : wpR F P m n (cd f (0 :: p)) (fun ds => thn (wpR F P m n (cd f (1 :: p)) Q ds) (Q ds)) ds L w) : wpR F P m n (cd f p) Q ds L w := by
  intro a ha
  have h1 := h a ha
  simp only [cd] at h1
  cases e : cd f p with
  | seq x y =>
    rw [e] at h1
    simp only [sub] at h1
    refine wpIn_seq (wpIn_mono h1 fun ex a' w' hq => ?_)
    obtain ⟨d2, a2, L', rfl, r, q⟩ := hq
    cases ex with
    | normal => exact q a2 r
    | _ => exact ⟨d2, a2, L', rfl, r, q⟩
  | _ => rw [e] at hc; cases hc
theorem qr_cond {o : Operand} {b : Bool} (hc : isCond (cd f p) = some o) (hv : evo L o = some (.bool b))
    (ht : b = true → wpR F P m n (cd f (0 :: p)) Q ds L w) (hf : b = false → wpR F P m n (cd f (1 :: p)) Q ds L w) : wpR F P m n (cd f p) Q ds L w := by
  intro a ha
  simp only [cd] at ht hf
  cases e : cd f p with
  | cond c x y =>
    rw [e] at hc ht hf
    simp only [isCond, Option.some.injEq] at hc
    subst hc
    cases b with
    | true => exact wpIn_cond_true (show (wd ds a).eval _ = _ from ha.ev hv) (ht rfl a ha)
    | false => exact wpIn_cond_false (show (wd ds a).eval _ = _ from ha.ev hv) (hf rfl a ha)
  | _ => rw [e] at hc; cases hc
theorem qr_then {o : Operand} (hc : isCond (cd f p) = some o) (hv : evo L o = some (.bool true)) (h : wpR F P m n (cd f (0 :: p)) Q ds L w) : wpR F P m n (cd f p) Q ds L w :=
  qr_cond hc hv (fun _ => h) (fun hb => by cases hb)
theorem qr_else {o : Operand} (hc : isCond (cd f p) = some o) (hv : evo L o = some (.bool false)) (h : wpR F P m n (cd f (1 :: p)) Q ds L w) : wpR F P m n (cd f p) Q ds L w :=
  qr_cond hc hv (fun hb => by cases hb) (fun _ => h)
theorem qr_block {id : Nat} (hc : isBlock (cd f p) = some id) (h : wpR F P m n (cd f (0 :: p)) (fun ds => blk id (Q ds)) ds L w) : wpR F P m n (cd f p) Q ds L w := by
  intro a ha
  have h1 := h a ha
  simp only [cd] at h1
  cases e : cd f p with
  | block i x =>
    rw [e] at hc h1
    simp only [isBlock, Option.some.injEq] at hc
    subst hc
    simp only [sub] at h1
    refine wpIn_block (wpIn_mono h1 fun ex a' w' hq => ?_)
    obtain ⟨d2, a2, L', rfl, r, q⟩ := hq
    cases ex with
    | exit k =>
      by_cases hk : k = i
      · simp only [Exit.inBlock, if_pos hk]
        simp only [blk, if_pos hk] at q
        exact ⟨d2, a2, L', rfl, r, q⟩
      · simp only [Exit.inBlock, if_neg hk]
        simp only [blk, if_neg hk] at q
        exact ⟨d2, a2, L', rfl, r, q⟩
    | _ => exact ⟨d2, a2, L', rfl, r, q⟩
  | _ => rw [e] at hc; cases hc
theorem qr_skip (hc : isSkip (cd f p) = true) (h : Q ds .normal L w) : wpR F P m n (cd f p) Q ds L w := by
  intro a ha
  cases e : cd f p with
  | skip => exact wpIn_skip ⟨ds, a, L, rfl, ha, h⟩
  | _ => rw [e] at hc; cases hc
theorem qr_exit {id : Nat} (hc : isExit (cd f p) = some id) (h : Q ds (.exit id) L w) : wpR F P m n (cd f p) Q ds L w := by
  intro a ha
  cases e : cd f p with
  | exit i =>
    rw [e] at hc
    simp only [isExit, Option.some.injEq] at hc
    subst hc
    exact wpIn_exit ⟨ds, a, L, rfl, ha, h⟩
  | _ => rw [e] at hc; cases hc
theorem qr_ret (hc : isRet (cd f p) = true) (h : Q ds .ret L w) : wpR F P m n (cd f p) Q ds L w := by
  intro a ha
  cases e : cd f p with
  | ret => exact wpIn_ret ⟨ds, a, L, rfl, ha, h⟩
  | _ => rw [e] at hc; cases hc
/-- No operation of a region is a defer: by the kernel. -/
def noDefer (os : Array Oper) : Bool := os.toList.all fun o => match o.op with | .defer _ => false | _ => true
theorem noDefer_op {os : Array Oper} (h : noDefer os = true) (i : Nat) (o : Oper) (ho : os[i]? = some o) : ∀ c, o.op ≠ .defer c := by
  intro c hc
  have hm : o ∈ os.toList := by
    obtain ⟨hi, rfl⟩ := Array.getElem?_eq_some_iff.1 ho
    exact Array.mem_toList_iff.2 (Array.getElem_mem hi)
  have := List.all_eq_true.1 h o hm
  rw [hc] at this
  cases this
theorem drPost_no {K : Loc → World → Prop} : ∀ e a w, e ≠ .normal → ¬ drPost n K e a w := by
  rintro e a w he ⟨L, _, h⟩
  cases e with
  | normal => exact he rfl
  | _ => exact h
theorem drPost_fin {a : Act} (h : drPost n (Q ds .normal) .normal a w) : a.defers = [] ∧ ∃ ds2 a2 L', wd ds a = wd ds2 a2 ∧ Rep n a2 L' ∧ Q ds2 .normal L' w := by
  obtain ⟨L, r, q⟩ := h
  exact ⟨r.defers, ds, a, L, rfl, r, q⟩
theorem qr_region (hF : Open F) (hc : isRegion (cd f p) = true) (hd : noDefer (opsOf (cd f p)) = true) (h : Ops P n (opsOf (cd f p)) 0 (Q ds .normal) L w) : wpR F P m n (cd f p) Q ds L w := by
  intro a ha
  cases e : cd f p with
  | region id os dr =>
    rw [e] at hc h hd
    cases dr with
    | true => cases hc
    | false =>
      have h1 := h a ha
      simp only [opsOf] at h1 hd
      refine wpIn_region ?_
      rw [List.range_eq_range']
      exact opsIn hF m ds (noDefer_op hd) (fun a w q => drPost_fin q) drPost_no _ _ _ h1
  | _ => rw [e] at hc; cases hc
theorem qr_draw (hF : Open F) (S : World → Prop) (fuel : Nat) (hm : P.follows .mixedOrders = true) (hc : isDraw (cd f p) = true) (hd : noDefer (opsOf (cd f p)) = true) (hf : Nat.beq (opsOf (cd f p)).size fuel = true)
    (h : ∀ w', Keeps none_ w w' → w'.heap.size = w.heap.size → w'.heap = w.heap → S w' ∧ Dr P n (opsOf (cd f p)) S fuel [] (Q ds .normal) L w') : wpR F P m n (cd f p) Q ds L w := by
  intro a ha
  cases e : cd f p with
  | region id os dr =>
    rw [e] at hc h hf hd
    cases dr with
    | false => cases hc
    | true =>
      simp only [opsOf] at h hf hd
      have hfu := Nat.eq_of_beq_eq_true hf
      obtain ⟨hS, hD⟩ := h { w with drawn := w.drawn + 1 } (Keeps.refl w).drew rfl rfl
      have hA := wpAny_of_held _ _ _ _ (hD hS a ha)
      rw [← hfu] at hA
      refine wpIn_region_draw fun t => ?_
      simp only [Region.schedule, hm, Bool.true_or, if_true]
      exact opsIn hF m ds (noDefer_op hd) (fun a w q => drPost_fin q) drPost_no _ _ _ (wpAny_sound os.size t _ a _ hA)
  | _ => rw [e] at hc; cases hc
/-- A loop: 'I s' holds at every round's head, of some state s; each round that comes back to the head lowers the measure. -/
theorem qr_loop {σ : Type} (I : σ → List Deferred → Loc → World → Prop) (μ : σ → Nat) (s0 : σ) (hc : isLoop (cd f p) = true) (h0 : I s0 ds L w)
    (round : ∀ s ds L w, I s ds L w → wpR F P m n (cd f (0 :: p)) (fun ds => thn (fun L' w' => ∃ s', I s' ds L' w' ∧ μ s' < μ s) (Q ds)) ds L w) : wpR F P m n (cd f p) Q ds L w := by
  intro a ha
  simp only [cd] at round
  cases e : cd f p with
  | loop c =>
    rw [e] at round
    simp only [sub] at round
    have key : ∀ (k : Nat) (s : σ) (ds : List Deferred) (L : Loc) (a : Act) (w : World), μ s < k → I s ds L w → Rep n a L →
        Code.roundsIn F m P c (fun e a' w' => ∃ ds2 a2 L', a' = wd ds2 a2 ∧ Rep n a2 L' ∧ Q ds2 e L' w') k (wd ds a) w := by
      intro k
      induction k with
      | zero => intro s ds L a w hk; omega
      | succ k ih =>
        intro s ds L a w hk hI ha
        refine wpIn_mono (round s ds L w hI a ha) ?_
        rintro ex a' w' ⟨ds2, a2, L', rfl, r, q⟩
        cases ex with
        | normal =>
          obtain ⟨s', hI', hlt⟩ := q
          exact ih s' ds2 L' a2 w' (by omega) hI' r
        | _ => exact ⟨ds2, a2, L', rfl, r, q⟩
    exact wpIn_loop_rounds _ (key (μ s0 + 1) s0 ds L a w (by omega) h0 ha)
  | _ => rw [e] at hc; cases hc
/-- What the code behind a function's last statement must show: the rounds' calls that were put off are none. -/
def retR (P : Program) (fn : Func) (m : Nat) (R : Ending → World → Prop) : List Deferred → Exit → Loc → World → Prop
  | ds, .normal, L, w | ds, .ret, L, w => ∀ a, Rep fn.ntmps a L → LeavesInM Fence.wide m P fn a.tmps R ds .returning w
  | _, _, _, _ => False
theorem qr_calls {P : Program} {k : FuncId} {fn : Func} {vs : List Value} {w : World} {R : Ending → World → Prop} (m : Nat) (hf : P.funcs[k]? = some fn)
    (hb : fn.body.isSome = true) (hn : Nat.ble vs.length fn.ntmps = true) (h : wpR Fence.wide P m fn.ntmps (cd fn []) (retR P fn m R) [] (args0 0 vs) w) : Calls P k ⟨vs⟩ w R := by
  cases hbody : fn.body with
  | none => rw [hbody] at hb; cases hb
  | some c =>
    have hle : vs.length ≤ fn.ntmps := Nat.le_of_ble_eq_true hn
    refine (callsIn_wide (n := m)).1 (callsIn_of_wp_marks hf hbody trivial ?_ rfl)
    have e : cd fn [] = c := by simp [cd, hbody]
    rw [e] at h
    have hrep : Rep fn.ntmps { tmps := (⟨vs⟩ : Array Value) ++ Array.replicate (fn.ntmps - (⟨vs⟩ : Array Value).size) undef, defers := [] } (args0 0 vs) := by
      refine ⟨rfl, ?_, fun t v ht => ?_⟩
      · simp; omega
      · obtain ⟨_, h2⟩ := lk_args0 vs 0 t v ht
        simp only [Nat.sub_zero] at h2
        have hlt : t < vs.length := (List.getElem?_eq_some_iff.1 h2).1
        simp only [Array.getElem?_append, List.size_toArray, hlt, if_true]
        simpa using h2
    refine wpIn_mono (h _ hrep) ?_
    rintro ex a' w' ⟨ds2, a2, L', he, r, q⟩
    subst he
    cases ex with
    | normal => exact q a2 r
    | ret => exact q a2 r
    | _ => exact q.elim
/-- The function is left: nothing was put off. -/
theorem retR_none {fn : Func} {R : Ending → World → Prop} {v : Value} (hv : retv P fn w v L) (hR : R (.returned v) w) : retR P fn m R [] .ret L w := by
  intro a ha
  exact ⟨v, hv a.tmps ha.val, hR⟩
/-- The function is left behind a range over a function, whose rounds have put off nothing. -/
theorem retR_one {fn : Func} {R : Ending → World → Prop} {v : Value} {D : Nat} (hK : w.heap[D]? = some (.deferred (some []))) (hv : retv P fn (w.putObj D (.deferred none)) v L) (hR : R (.returned v) (w.putObj D (.deferred none))) :
    retR P fn m R [{ target := .collected D, args := #[] }] .ret L w := by
  intro a ha
  exact ⟨by simp, .inl ⟨D, _, rfl, run_takeDeferred hK, ⟨v, hv a.tmps ha.val, hR⟩⟩⟩
end
end Go.Q
namespace Go.Q
open Go.RowKit

def isRange : Code → Option (Operand × Array Tmp)
  | .rangeFunc g ps _ _ => some (g, ps)
  | _ => none
/-- A loop 'for x := range seq' with one variable. I: between two rounds; Ix: where a round has left by a jump; L1: what is known behind the loop variable's assignment. -/
theorem qr_range {α : Type} {P : Program} {m n : Nat} {Q : List Deferred → Exit → Loc → World → Prop} {L : Loc} {w : World} {f : Func} {p : List Nat} {ds : List Deferred} {g : Operand} {t : Tmp}
    (hc : isRange (cd f p) = some (g, #[t])) (h1 : 1 ≤ m) {gf : Nat} {lb : Array Value} (hg : evo L g = some (.func (.func gf) #[] lb)) (eg : ∀ args w, (callFunc gf args).run P w = .ok (.enter gf args) w)
    {enc : α → Value} {Kp : World → World → Prop} {S Sp : List α → Prop} {N : Nat} {w0 : World} (hseq : SeqStopsK Fence.wide (m - 1) P gf lb (fun x => #[enc x]) Kp S Sp N w0)
    (hKr : ∀ W, Kp W W) (hKt : ∀ {A B C : World}, Kp A B → Kp B C → Kp A C) (hKb : ∀ (W : World) (l : Nat) (o o' : Obj), w.heap.size ≤ l → W.heap[l]? = some o → o.isCells = false → o.isWalk = false → Kp W (W.putObj l o')) (hb0 : Below w0.heap.size w0 w)
    (I : List α → World → Prop) (Ix : Code → List α → World → Prop) (hI : OwnFrom w.heap.size I) (hIx : ∀ c, OwnFrom w.heap.size (Ix c)) (h0 : I [] w) (La L1 : α → Loc) (hLa : ∀ x, setL n (some t) (enc x) L = some (La x))
    (hassign : ∀ (l : Nat) (x : α) (W : World), wpR (Fence.wide.inRound l) P (m - 1 - 1) n (cd f (0 :: p)) (fun ds e L' W' => e = .normal ∧ ds = [] ∧ W' = W ∧ L' = L1 x) [] (La x) W)
    (hbody : ∀ (l : Nat) (pre : List α) (x : α) (W : World), I pre W → pre.length < N → wpR (Fence.wide.inRound l) P (m - 1 - 1) n (cd f (1 :: p)) (fun _ e _ W' => ∀ a', ownPostG w.heap.size Kp I Ix (pre ++ [x]) W e a' W') [] (L1 x) W)
    (hdone : ∀ (D : Nat) (xs : List α) (W : World), w.heap.size ≤ D → S xs → I xs W → W.heap[D]? = some (.deferred (some [])) → Q ({ target := .collected D, args := #[] } :: ds) .normal L W)
    (hstop : ∀ (D : Nat) (c : Code) (pre : List α) (W : World), w.heap.size ≤ D → Sp pre → Ix c pre W → W.heap[D]? = some (.deferred (some [])) → wpR Fence.wide P m n c Q ({ target := .collected D, args := #[] } :: ds) L W) :
    wpR Fence.wide P m n (cd f p) Q ds L w := by
  intro a ha
  simp only [cd] at hassign hbody
  cases e : cd f p with
  | rangeFunc g' ps assign body =>
    rw [e] at hc hassign hbody
    simp only [isRange, Option.some.injEq, Prod.mk.injEq] at hc
    obtain ⟨rfl, rfl⟩ := hc
    simp only [sub] at hassign hbody
    refine wpIn_rangeFunc_ownH rfl h1 (gf := gf) (lb := lb) (show (wd ds a).eval g' = _ from ha.ev hg) trivial eg hseq hKt hKb hb0 (fun x => rfl) I Ix hI hIx h0 (fun x a' _ => Rep n a' (L1 x)) (fun x a' s X Y row hs _ _ => hs) ?_ ?_ ?_ ?_
    · intro l pre x W K hi hK
      have hr : Rep n (a.put (some t) (enc x)) (La x) := ha.setL (hLa x)
      have ea : ({ tmps := (#[t].zip #[enc x]).foldl (fun t (p, v) => t.setIfInBounds p v) (wd ds a).tmps, defers := [] } : Act) = wd [] (a.put (some t) (enc x)) := by simp [wd, Act.put]
      refine (congrArg (fun z => Code.wpIn (Fence.wide.inRound l) (m - 1 - 1) P assign (Exit.then K fun _ _ _ => False) z W) ea).mpr ?_
      refine wpIn_mono (hassign l x W _ hr) ?_
      rintro ex a' W' ⟨ds2, a2, L', rfl, r, rfl, rfl, rfl, rfl⟩
      have h2 : wd [] a2 = a2 := by cases a2; have := r.defers; simp only at this; subst this; rfl
      rw [h2]
      exact hK _ _ (KeepsFrom.refl _ _) (hKr _) hi r
    · intro l pre x a' W hl _ hi hax hlen
      have h2 : wd [] a' = a' := by cases a'; have := hax.defers; simp only at this; subst this; rfl
      have h3 := hbody l pre x W hi hlen a' hax
      rw [h2] at h3
      exact wpIn_mono h3 fun ex a3 W3 ⟨_, _, _, _, _, q⟩ => q a3
    · intro D xs W hD hS hi hK
      exact ⟨_, a, L, rfl, ha, hdone D xs W hD hS hi hK⟩
    · intro D c pre W hD hSp hx hK
      exact hstop D c pre W hD hSp hx hK a ha
  | _ => rw [e] at hc; cases hc
end Go.Q
namespace Go.Q
open Go.RowKit

def OpsR (F : Fence) (P : Program) (m n : Nat) (os : Array Oper) (i : Nat) (K : List Deferred → Exit → Loc → World → Prop) (ds : List Deferred) (L : Loc) (w : World) : Prop :=
  ∀ a, Rep n a L → wpOpsIn F m P os (fun e a' w' => ∃ ds2 a2 L', a' = wd ds2 a2 ∧ Rep n a2 L' ∧ K ds2 e L' w') (List.range' i (os.size - i)) (wd ds a) w
section
variable {F : Fence} {P : Program} {m n : Nat} {os : Array Oper} {K : List Deferred → Exit → Loc → World → Prop} {ds : List Deferred} {L : Loc} {w : World} {i : Nat}
theorem OpsR.keep {R : Loc} (hs : restrict L (R.map Prod.fst) = some R) (h : OpsR F P m n os i K ds R w) : OpsR F P m n os i K ds L w :=
  fun a ha => h a (ha.sub (restrict_sub hs))
theorem OpsR.done (hi : Nat.beq os.size i = true) (h : K ds .normal L w) : OpsR F P m n os i K ds L w := by
  intro a ha
  have : os.size - i = 0 := by have := Nat.eq_of_beq_eq_true hi; omega
  rw [this]
  exact ⟨ds, a, L, rfl, ha, h⟩
theorem OpsR.cons {o : Oper} (ho : os[i]? = some o) (h : ∀ a, Rep n a L → wpOpIn F m P os (fun e a' w' => ∃ ds2 a2 L', a' = wd ds2 a2 ∧ Rep n a2 L' ∧ K ds2 e L' w') i
    (fun a' w' => ∃ a2 L', a' = wd ds a2 ∧ Rep n a2 L' ∧ OpsR F P m n os (i + 1) K ds L' w') (wd ds a) w) : OpsR F P m n os i K ds L w := by
  intro a ha
  rw [range'_head ho, wpOpsIn_cons]
  exact wpOpIn_mono (fun a' w' ⟨a2, L', e, r, q⟩ => by subst e; exact q a2 r) (h a ha)
theorem OpsR.unwanted (hF : Open F) {o : Oper} {L' : Loc} (ho : os[i]? = some o) (hw : wants os L o = some false) (hs : setL n o.dst undef L = some L') (h : OpsR F P m n os (i + 1) K ds L' w) :
    OpsR F P m n os i K ds L w := by
  refine OpsR.cons ho fun a ha => ?_
  unfold wpOpIn
  have hww := wants_wanted ha hw
  simp only [ho]
  rw [if_neg (show ¬ Region.wanted o (yielded os (wd ds a).tmps) = true from by rw [show (wd ds a).tmps = a.tmps from rfl, hww]; simp)]
  exact ⟨fun f _ => hF.fn f, a.put o.dst undef, L', wd_put _ _ _ _, ha.setL hs, h⟩
theorem OpsR.regs_go (hF : Open F) (hd : noDefer os = true) : ∀ (k i : Nat) (L L1 : Loc), Q.regs P n os k i L = some L1 → OpsR F P m n os (i + k) K ds L1 w → OpsR F P m n os i K ds L w
  | 0, i, L, L1, h, hn => by simp only [Q.regs, Option.some.injEq] at h; subst h; exact hn
  | k + 1, i, L, L1, h, hn => by
    simp only [Q.regs] at h
    cases ho : os[i]? with
    | none => rw [ho] at h; cases h
    | some o =>
      rw [ho] at h
      simp only at h
      have hn' : OpsR F P m n os (i + 1 + k) K ds L1 w := by rw [show i + 1 + k = i + (k + 1) from by omega]; exact hn
      cases hw : wants os L o with
      | none => rw [hw] at h; cases h
      | some b =>
        rw [hw] at h
        cases b with
        | false =>
          simp only at h
          cases hs : setL n o.dst undef L with
          | none => rw [hs] at h; cases h
          | some L' => rw [hs] at h; exact OpsR.unwanted hF ho hw hs (OpsR.regs_go hF hd k (i + 1) L' L1 h hn')
        | true =>
          simp only at h
          cases hx : next? P L o with
          | none => rw [hx] at h; cases h
          | some x =>
            rw [hx] at h
            cases x with
            | value v =>
              simp only at h
              cases hs : setL n o.dst v L with
              | none => rw [hs] at h; cases h
              | some L' =>
                rw [hs] at h
                refine OpsR.cons ho fun a ha => ?_
                unfold wpOpIn
                have hww := wants_wanted ha hw
                simp only [ho]
                rw [if_pos (show Region.wanted o (yielded os (wd ds a).tmps) = true from by rw [show (wd ds a).tmps = a.tmps from rfl, hww])]
                have hsem : o.semAt F.round (wd ds a).eval = execOp a.eval o := by
                  cases hr : F.round with
                  | none => rw [Oper.semAt_none]; rfl
                  | some l => exact Oper.semAt_some l _ _ (noDefer_op hd i o ho)
                refine ⟨fun f _ => hF.fn f, ?_⟩
                rw [hsem, next?_run ha hx]
                exact ⟨a.put o.dst v, L', wd_put _ _ _ _, ha.setL hs, OpsR.regs_go hF hd k (i + 1) L' L1 h hn'⟩
            | _ => cases h
/-- k operations at once; only what 'R' names is kept. -/
theorem OpsR.regs (hF : Open F) (hd : noDefer os = true) {j : Nat} (k : Nat) (R : Loc) (hj : Nat.beq (i + k) j = true) (h : (match Q.regs P n os k i L with | some L1 => restrict L1 (R.map Prod.fst) | none => none) = some R)
    (hn : OpsR F P m n os j K ds R w) : OpsR F P m n os i K ds L w := by
  cases h1 : Q.regs P n os k i L with
  | none => rw [h1] at h; cases h
  | some L1 =>
    rw [h1] at h
    have := Nat.eq_of_beq_eq_true hj
    subst this
    exact OpsR.regs_go hF hd k i L L1 h1 (OpsR.keep h hn)
/-- An operation whose run is known. -/
theorem OpsR.run (hF : Open F) (hd : noDefer os = true) {o : Oper} {x : Next} {w' : World} (ho : at? os L i = some o) (hr : (execOp (ev L) o).run P w = .ok x w')
    (h : ∀ a, Rep n a L → o.uponIn F m P (wd ds a) (fun a' w' => ∃ a2 L', a' = wd ds a2 ∧ Rep n a2 L' ∧ OpsR F P m n os (i + 1) K ds L' w') (fun e a' w' => ∃ ds2 a2 L', a' = wd ds2 a2 ∧ Rep n a2 L' ∧ K ds2 e L' w') (.ok x w')) : OpsR F P m n os i K ds L w := by
  obtain ⟨h0, hw, hp, hk⟩ := at?_spec ho
  refine OpsR.cons h0 fun a ha => ?_
  unfold wpOpIn
  have hww := wants_wanted ha hw
  simp only [h0]
  rw [if_pos (show Region.wanted o (yielded os (wd ds a).tmps) = true from by rw [show (wd ds a).tmps = a.tmps from rfl, hww])]
  have hsem : o.semAt F.round (wd ds a).eval = execOp a.eval o := by
    cases hr : F.round with
    | none => rw [Oper.semAt_none]; rfl
    | some l => exact Oper.semAt_some l _ _ (noDefer_op hd i o h0)
  refine ⟨fun f _ => hF.fn f, ?_⟩
  rw [hsem, exec_known ha hp hk, hr]
  exact h a ha
/-- A call of yield: what the round says. -/
theorem OpsR.yield (hF : Open F) (hd : noDefer os = true) {o : Oper} {l : Nat} {args : Array Value} {R : Ending → World → Prop} (ho : at? os L i = some o) (hx : (execOp (ev L) o).run P w = (Instr.yield l args).run P w) (hY : YieldAt F (m - 1) P l args w R)
    (h : ∀ e w', R e w' → ∃ v L', e = .returned v ∧ setL n o.dst v L = some L' ∧ OpsR F P m n os (i + 1) K ds L' w') : OpsR F P m n os i K ds L w := by
  obtain ⟨fn, tmps, assign, body, hy, hR⟩ := hY
  refine OpsR.run hF hd ho (hx.trans hy) fun a ha => ?_
  refine ⟨fun q => (by rw [hF.depth] at q; cases q), hR.mono fun e w' he => ?_⟩
  obtain ⟨v, L', rfl, hs, hn⟩ := h e w' he
  exact ⟨a.put o.dst v, L', wd_put _ _ _ _, ha.setL hs, hn⟩
end
section
variable {F : Fence} {P : Program} {m n : Nat} {Q : List Deferred → Exit → Loc → World → Prop} {L : Loc} {w : World} {f : Func} {p : List Nat} {ds : List Deferred}
/-- A region, its operations one by one inside the fence. -/
theorem qr_opsR (hc : isRegion (cd f p) = true) (h : OpsR F P m n (opsOf (cd f p)) 0 Q ds L w) : wpR F P m n (cd f p) Q ds L w := by
  intro a ha
  cases e : cd f p with
  | region id os dr =>
    rw [e] at hc h
    cases dr with
    | true => cases hc
    | false =>
      have h1 := h a ha
      simp only [opsOf] at h1
      refine wpIn_region ?_
      rw [List.range_eq_range']
      exact h1
  | _ => rw [e] at hc; cases hc
end
end Go.Q
namespace Go.Q
open Go.RowKit

/-- From W on nothing has changed but blocks from B on that hold no cells. -/
def Loose (B : Nat) (W W' : World) : Prop := Keeps (fun i => B ≤ i ∧ ∃ o, W.heap[i]? = some o ∧ o.isCells = false) W W'
theorem Loose.none {B : Nat} {W W' : World} (k : Keeps none_ W W') : Loose B W W' := k.mono fun _ _ h => h.elim
theorem Loose.put {B : Nat} {W : World} {l : Nat} {o : Obj} (o' : Obj) (hB : B ≤ l) (h : W.heap[l]? = some o) (ho : o.isCells = false) : Loose B W (W.putObj l o') :=
  ⟨rfl, rfl, rfl, by simp, fun i _ hn => World.putObj_heap_other (fun e => hn (by subst e; exact ⟨hB, o, h, ho⟩))⟩
theorem Loose.has {B : Nat} {W W' : World} (k : Loose B W W') {b : Nat} {xs : List Value} {E : TypeId} (h : Has W b (rowL xs E)) : Has W' b (rowL xs E) :=
  h.keep k fun ⟨_, o, ho, hc⟩ => by rw [show W.heap[b]? = some (rowL xs E) from h] at ho; cases ho; cases hc
theorem Loose.keeps {B : Nat} {W W' : World} (k : Loose B W W') : Keeps (fun i => B ≤ i) W W' := k.mono fun _ _ h => h.1
theorem Loose.own {B base e sz n : Nat} {v : Value} {xs : List Value} {W W' : World} (k : Loose B W W') (h : W.ownsRow base e sz v n xs) : W'.ownsRow base e sz v n xs := own_keep h k fun b hb ⟨_, o, ho, hc⟩ => by
  obtain ⟨_, h2⟩ := h
  rcases h2 with h2 | ⟨g, cap, cur, hv, hg, hh, _⟩
  · obtain ⟨rfl, _⟩ := h2; cases hb
  · subst hv
    obtain rfl : g = b := by simpa [Value.ownBlock] using hb
    rw [hh] at ho; cases ho; cases hc
theorem keepsFrom_of {B : Nat} {U : Nat → Prop} {W W' : World} (k : Keeps U W W') (h : ∀ i, U i → B ≤ i → ∃ o, W.heap[i]? = some o ∧ o.isCells = true) : KeepsFrom B W W' :=
  ⟨k.size, fun i o hB hi ho => (k.blk i (Array.getElem?_eq_some_iff.1 hi).1 fun hu => by obtain ⟨o2, h2, h3⟩ := h i hu hB; rw [hi] at h2; cases h2; rw [ho] at h3; cases h3).trans hi⟩

theorem own_is_cells {B e sz n : Nat} {v : Value} {xs : List Value} {W : World} (h : W.ownsRow B e sz v n xs) {i : Nat} (hi : v.ownBlock = some i) : ∃ o, W.heap[i]? = some o ∧ o.isCells = true := by
  obtain ⟨_, h2⟩ := h
  rcases h2 with ⟨rfl, _⟩ | ⟨g, cap, cur, hv, hg, hh, _⟩
  · cases hi
  · subst hv
    obtain rfl : g = i := by simpa [Value.ownBlock] using hi
    exact ⟨_, hh, rfl⟩
/-- A call of a function that has a body enters it. -/
theorem enters {P : Program} {f : FuncId} {fn : Func} (hf : P.funcs[f]? = some fn) (hn : (fn.name == "runtime.NumGoroutine") = false) (hb : fn.body.isSome = true) (args : Array Value) (w : World) : (callFunc f args).run P w = .ok (.enter f args) w := by
  have h1 : fn.name ≠ "runtime.NumGoroutine" := by simpa using hn
  cases hc : fn.body with
  | none => rw [hc] at hb; cases hb
  | some c => simp [callFunc, hf, h1, hc, mark]
/-- The function gf with what it has captured, made ahead of w0, tells N elements one by one, of the k-th of which 'A k' is known; what it reads lies outside T. -/
def Tells (P : Program) (m : Nat) (gf : Nat) (lb : List Value) (A : Nat → Value → World → Prop) (T : Nat → Prop) (N : Nat) (w0 : World) : Prop :=
  ∀ (l : Nat) (J : Nat → World → Prop) (W : World), Keeps T w0 W → (∀ k W W', J k W → Keeps none_ W W' → J k W') →
    (∀ k v W1, J k W1 → k < N → A k v W1 → YieldAt Fence.wide m P l #[v] W1 fun e W' => e = .returned (.bool true) ∧ J (k + 1) W' ∧ Keeps T W1 W') →
    J 0 W → Calls P gf ⟨.func (.yield l) #[] #[] :: lb⟩ W fun e W' => (∃ v, e = .returned v) ∧ J N W'

/-- A loop 'for x := range seq' that is never left ahead of its end. -/
theorem qr_each {P : Program} {m n : Nat} {Q : List Deferred → Exit → Loc → World → Prop} {L : Loc} {w : World} {f : Func} {p : List Nat} {ds : List Deferred} {g : Operand} {t : Tmp}
    (hc : isRange (cd f p) = some (g, #[t])) (h1 : 1 ≤ m) {gf : Nat} {lb : List Value} (hg : evo L g = some (.func (.func gf) #[] ⟨lb⟩)) (eg : ∀ args w, (callFunc gf args).run P w = .ok (.enter gf args) w)
    {A : Nat → Value → World → Prop} {T : Nat → Prop} {N : Nat} {w0 : World} (hseq : Tells P (m - 1 - 1) gf lb A T N w0) (hT : ∀ i, w.heap.size ≤ i → T i) (hw0 : Keeps T w0 w)
    (I : Nat → World → Prop) (hI : ∀ k W W', I k W → Loose w.heap.size W W' → I k W') (hA : ∀ k v W W', A k v W → Loose w.heap.size W W' → A k v W') (h0 : I 0 w) (La L1 : Value → Loc) (hLa : ∀ v, setL n (some t) v L = some (La v))
    (hassign : ∀ (l : Nat) (v : Value) (W : World), wpR (Fence.wide.inRound l) P (m - 1 - 1) n (cd f (0 :: p)) (fun ds e L' W' => e = .normal ∧ ds = [] ∧ W' = W ∧ L' = L1 v) [] (La v) W)
    (hbody : ∀ (l k : Nat) (v : Value) (W : World), I k W → k < N → A k v W → wpR (Fence.wide.inRound l) P (m - 1 - 1) n (cd f (1 :: p)) (fun _ e _ W' => e = .normal ∧ KeepsFrom w.heap.size W W' ∧ Keeps T W W' ∧ I (k + 1) W') [] (L1 v) W)
    (hdone : ∀ (D : Nat) (W : World), w.heap.size ≤ D → I N W → W.heap[D]? = some (.deferred (some [])) → Q ({ target := .collected D, args := #[] } :: ds) .normal L W) :
    wpR Fence.wide P m n (cd f p) Q ds L w := by
  intro a ha
  simp only [cd] at hassign hbody
  cases e : cd f p with
  | rangeFunc g' ps assign body =>
    rw [e] at hc hassign hbody
    simp only [isRange, Option.some.injEq, Prod.mk.injEq] at hc
    obtain ⟨rfl, rfl⟩ := hc
    simp only [sub] at hassign hbody
    refine wpIn_rangeFunc fun fn hfn => ?_
    obtain ⟨rec, hrec⟩ : ∃ rec : LoopState → Loop, rec = fun st => { state := st, pending := none, fn, tmps := (wd ds a).tmps, params := #[t], assign, body, defers := w.heap.size } := ⟨_, rfl⟩
    have hev : (wd ds a).eval g' = .func (.func gf) #[] ⟨lb⟩ := ha.ev hg
    obtain ⟨W1, hW1⟩ : ∃ W1, (w.alloc (.deferred (some []))).alloc (.loop (rec .ready)) = W1 := ⟨_, rfl⟩
    have hK1 : Keeps none_ w W1 := by rw [← hW1]; exact (Keeps.alloc w _).trans (Keeps.alloc _ _) (fun _ _ h => h) (fun _ _ h => h)
    have hl1 : W1.heap[w.heap.size + 1]? = some (.loop (rec .ready)) := by
      rw [← hW1]; have := World.alloc_heap_new (w.alloc (.deferred (some []))) (.loop (rec .ready)); rwa [World.size_alloc] at this
    have hd1 : W1.heap[w.heap.size]? = some (.deferred (some [])) := by
      rw [← hW1]; exact ((Keeps.alloc (w.alloc (.deferred (some []))) (.loop (rec .ready))).blk _ (by simp) (fun h => h)).trans (World.alloc_heap_new w _)
    refine ⟨w.heap.size + 1, [{ target := .collected w.heap.size, args := #[] }], W1, { target := .fn (.func gf) ⟨lb⟩, args := #[.func (.yield (w.heap.size + 1)) #[] #[]] }, W1, gf,
      #[.func (.yield (w.heap.size + 1)) #[] #[]] ++ ⟨lb⟩, W1, ?_, ?_, fun f' hf' => True.intro, ?_, fun _ => h1, ?_⟩
    · rw [← hW1, hrec]; exact run_enterLoop_outer _ _ _ _ _
    · simp only [resolve, hev]
      simp [go_sem]
    · simp [invoke, go_sem, eg]
    · refine callsIn_wide.2 ?_
      have harr : (#[.func (.yield (w.heap.size + 1)) #[] #[]] ++ ⟨lb⟩ : Array Value) = ⟨.func (.yield (w.heap.size + 1)) #[] #[] :: lb⟩ := by simp
      rw [harr]
      refine (hseq (w.heap.size + 1) (fun k W => I k W ∧ W.heap[w.heap.size + 1]? = some (.loop (rec .ready)) ∧ W.heap[w.heap.size]? = some (.deferred (some []))) _
        (hw0.trans hK1 (fun _ _ h => h) (fun _ _ h => h.elim)) ?_ ?_ ⟨hI 0 _ _ h0 (.none hK1), hl1, hd1⟩).mono ?_
      · rintro k W W' ⟨hi, hl, hd⟩ hk
        exact ⟨hI _ _ _ hi (.none hk), (hk.blk _ (Array.getElem?_eq_some_iff.1 hl).1 (fun h => h)).trans hl, (hk.blk _ (Array.getElem?_eq_some_iff.1 hd).1 (fun h => h)).trans hd⟩
      · rintro k v W ⟨hi, hl, hd⟩ hkN hAv
        have hy := run_yield (P := P) (args := #[v]) hl (by rw [hrec]; rfl)
        refine ⟨_, _, _, _, hy, roundIn_of_wpIn trivial ?_⟩
        have hlt : w.heap.size + 1 < W.heap.size := (Array.getElem?_eq_some_iff.1 hl).1
        have hr : Rep n (a.put (some t) v) (La v) := ha.setL (hLa v)
        have ea : ({ tmps := ((rec .ready).params.zip #[v]).foldl (fun t (p, v) => t.setIfInBounds p v) (rec .ready).tmps, defers := [] } : Act) = wd [] (a.put (some t) v) := by rw [hrec]; simp [wd, Act.put]
        have easg : (rec .ready).assign = assign := by rw [hrec]
        have ebdy : (rec .ready).body = body := by rw [hrec]
        rw [easg, ebdy]
        refine (congrArg (fun z => Code.wpIn _ _ P assign _ z W) ea).mpr ?_
        refine wpIn_mono (hassign _ v W _ hr) ?_
        rintro ex a' W' ⟨ds2, a2, L', rfl, r, rfl, rfl, rfl, rfl⟩
        have hp2 : Loose w.heap.size W' (W'.putObj (w.heap.size + 1) (.loop { rec .ready with state := .busy })) := .put _ (by omega) hl rfl
        have hl2 : (W'.putObj (w.heap.size + 1) (.loop { rec .ready with state := .busy })).heap[w.heap.size + 1]? = some (.loop { rec .ready with state := .busy }) := World.putObj_heap_same hlt
        have hd2 : (W'.putObj (w.heap.size + 1) (.loop { rec .ready with state := .busy })).heap[w.heap.size]? = some (.deferred (some [])) := (World.putObj_heap_other (by omega)).trans hd
        refine ⟨_, run_beginRound hl (by rw [hrec]), ?_⟩
        refine wpIn_mono (hbody _ k v _ (hI _ _ _ hi hp2) hkN (hA _ _ _ _ hAv hp2) _ r) ?_
        rintro ex3 a3 W3 ⟨_, _, _, _, _, rfl, hkf, hkT, hi3⟩
        have hl3 := hkf.same _ _ (by omega) hl2 rfl
        have hd3 := hkf.same _ _ (Nat.le_refl _) hd2 rfl
        have hlt3 : w.heap.size + 1 < W3.heap.size := (Array.getElem?_eq_some_iff.1 hl3).1
        refine ⟨_, _, run_endRound none hl3, rfl, ⟨hI _ _ _ hi3 (.put _ (by omega) hl3 rfl), ?_, (World.putObj_heap_other (by omega)).trans hd3⟩, ?_⟩
        · rw [World.putObj_heap_same hlt3, hrec]; rfl
        · have kT : ∀ {X : World} {o : Obj}, X.heap[w.heap.size + 1]? = some o → ∀ o', o.isCells = false → Keeps T X (X.putObj (w.heap.size + 1) o') := fun hx o' ho => (Loose.put (B := w.heap.size) o' (by omega) hx ho).keeps.mono fun i _ h => hT i h
          exact ((kT hl _ rfl).trans hkT (fun _ _ h => h) (fun _ _ h => h)).trans (kT hl3 _ rfl) (fun _ _ h => h) (fun _ _ h => h)
      · rintro ex W ⟨⟨v, rfl⟩, hi, hl, hd⟩
        have hel := run_endLoop (P := P) hl (by rw [hrec]; simp)
        rw [show (rec .ready).pending = none from by rw [hrec]] at hel
        refine ⟨none, _, hel, ?_⟩
        exact ⟨_, a, L, rfl, ha, hdone _ _ (Nat.le_refl _) (hI _ _ _ hi (.put _ (by omega) hl rfl)) ((World.putObj_heap_other (by omega)).trans hd)⟩
  | _ => rw [e] at hc; cases hc
/-- A function's end, nothing put off. -/
theorem retR_norm {P : Program} {m : Nat} {L : Loc} {w : World} {fn : Func} {R : Ending → World → Prop} {v : Value} (hv : retv P fn w v L) (hR : R (.returned v) w) : retR P fn m R [] .normal L w :=
  fun a ha => ⟨v, hv a.tmps ha.val, hR⟩
theorem cut_own {A : Option Addr} {n c k n2 c2 : Nat} {T : Nat → Prop} (h : ∀ b, (Value.slice A n c).ownBlock = some b → ¬ T b) : ∀ b, (Value.slice (if c = k then A else A.map (·.add (k * 1))) n2 c2).ownBlock = some b → ¬ T b := fun b hb => by
  cases A with
  | none => exact h b (by simp [Value.ownBlock] at hb)
  | some a =>
    refine h b ?_
    split at hb
    · exact hb
    · have hb2 : some ((a.add (k * 1)).block) = some b := hb
      have ha : (a.add (k * 1)).block = a.block := by unfold Addr.add; split <;> rfl
      rw [ha] at hb2
      exact hb2
end Go.Q
namespace Go.Q
open Go.RowKit

/-- The loop variables are given their values. -/
def setLs (n : Nat) : List Tmp → List Value → Loc → Option Loc
  | [], [], L => some L
  | t :: ts, v :: vs, L => match setL n (some t) v L with
    | some L' => setLs n ts vs L'
    | none => none
  | _, _, _ => none
theorem setLs_rep {n : Nat} : ∀ {ts : List Tmp} {vs : List Value} {a : Act} {L L' : Loc}, Rep n a L → setLs n ts vs L = some L' → Rep n { tmps := (ts.zip vs).foldl (fun t x => t.setIfInBounds x.1 x.2) a.tmps, defers := a.defers } L'
  | [], [], a, L, L', h, hs => by simp only [setLs, Option.some.injEq] at hs; subst hs; simpa using h
  | [], _ :: _, _, _, _, _, hs => by simp [setLs] at hs
  | _ :: _, [], _, _, _, _, hs => by simp [setLs] at hs
  | t :: ts, v :: vs, a, L, L', h, hs => by
    simp only [setLs] at hs
    cases h1 : setL n (some t) v L with
    | none => rw [h1] at hs; cases hs
    | some L1 =>
      rw [h1] at hs
      exact setLs_rep (a := a.put (some t) v) (h.setL h1) hs
theorem setLs_len {n : Nat} : ∀ {ts : List Tmp} {vs : List Value} {L L' : Loc}, setLs n ts vs L = some L' → vs.length = ts.length
  | [], [], _, _, _ => rfl
  | [], _ :: _, _, _, hs => by simp [setLs] at hs
  | _ :: _, [], _, _, hs => by simp [setLs] at hs
  | t :: ts, v :: vs, L, L', hs => by
    simp only [setLs] at hs
    cases h1 : setL n (some t) v L with
    | none => rw [h1] at hs; cases hs
    | some L1 => rw [h1] at hs; simp [setLs_len hs]
/-- As 'Tells', of elements of several values. -/
def TellsN (P : Program) (m : Nat) (gf : Nat) (lb : List Value) (A : Nat → List Value → World → Prop) (T : Nat → Prop) (N : Nat) (w0 : World) : Prop :=
  ∀ (l : Nat) (J : Nat → World → Prop) (W : World), Keeps T w0 W → (∀ k W W', J k W → Keeps none_ W W' → J k W') →
    (∀ k vs W1, J k W1 → k < N → A k vs W1 → YieldAt Fence.wide m P l ⟨vs⟩ W1 fun e W' => e = .returned (.bool true) ∧ J (k + 1) W' ∧ Keeps T W1 W') →
    J 0 W → Calls P gf ⟨.func (.yield l) #[] #[] :: lb⟩ W fun e W' => (∃ v, e = .returned v) ∧ J N W'
/-- A loop over a function that is never left ahead of its end. -/
theorem qr_eachN {P : Program} {m n : Nat} {Q : List Deferred → Exit → Loc → World → Prop} {L : Loc} {w : World} {f : Func} {p : List Nat} {ds : List Deferred} {g : Operand} {ts : List Tmp}
    (hc : isRange (cd f p) = some (g, ⟨ts⟩)) (h1 : 1 ≤ m) {gf : Nat} {lb : List Value} (hg : evo L g = some (.func (.func gf) #[] ⟨lb⟩)) (eg : ∀ args w, (callFunc gf args).run P w = .ok (.enter gf args) w)
    {A : Nat → List Value → World → Prop} {T : Nat → Prop} {N : Nat} {w0 : World} (hseq : TellsN P (m - 1 - 1) gf lb A T N w0) (hT : ∀ i, w.heap.size ≤ i → T i) (hw0 : Keeps T w0 w)
    (I : Nat → World → Prop) (hI : ∀ k W W', I k W → Loose w.heap.size W W' → I k W') (hA : ∀ k v W W', A k v W → Loose w.heap.size W W' → A k v W') (h0 : I 0 w) (La L1 : List Value → Loc) (hLa : ∀ k v W, k < N → A k v W → setLs n ts v L = some (La v))
    (hassign : ∀ (l k : Nat) (v : List Value) (W : World), k < N → A k v W → wpR (Fence.wide.inRound l) P (m - 1 - 1) n (cd f (0 :: p)) (fun ds e L' W' => e = .normal ∧ ds = [] ∧ W' = W ∧ L' = L1 v) [] (La v) W)
    (hbody : ∀ (l k : Nat) (v : List Value) (W : World), I k W → k < N → A k v W → wpR (Fence.wide.inRound l) P (m - 1 - 1) n (cd f (1 :: p)) (fun _ e _ W' => e = .normal ∧ KeepsFrom w.heap.size W W' ∧ Keeps T W W' ∧ I (k + 1) W') [] (L1 v) W)
    (hdone : ∀ (D : Nat) (W : World), w.heap.size ≤ D → I N W → W.heap[D]? = some (.deferred (some [])) → Q ({ target := .collected D, args := #[] } :: ds) .normal L W) :
    wpR Fence.wide P m n (cd f p) Q ds L w := by
  intro a ha
  simp only [cd] at hassign hbody
  cases e : cd f p with
  | rangeFunc g' ps assign body =>
    rw [e] at hc hassign hbody
    simp only [isRange, Option.some.injEq, Prod.mk.injEq] at hc
    obtain ⟨rfl, rfl⟩ := hc
    simp only [sub] at hassign hbody
    refine wpIn_rangeFunc fun fn hfn => ?_
    obtain ⟨rec, hrec⟩ : ∃ rec : LoopState → Loop, rec = fun st => { state := st, pending := none, fn, tmps := (wd ds a).tmps, params := ⟨ts⟩, assign, body, defers := w.heap.size } := ⟨_, rfl⟩
    have hev : (wd ds a).eval g' = .func (.func gf) #[] ⟨lb⟩ := ha.ev hg
    obtain ⟨W1, hW1⟩ : ∃ W1, (w.alloc (.deferred (some []))).alloc (.loop (rec .ready)) = W1 := ⟨_, rfl⟩
    have hK1 : Keeps none_ w W1 := by rw [← hW1]; exact (Keeps.alloc w _).trans (Keeps.alloc _ _) (fun _ _ h => h) (fun _ _ h => h)
    have hl1 : W1.heap[w.heap.size + 1]? = some (.loop (rec .ready)) := by
      rw [← hW1]; have := World.alloc_heap_new (w.alloc (.deferred (some []))) (.loop (rec .ready)); rwa [World.size_alloc] at this
    have hd1 : W1.heap[w.heap.size]? = some (.deferred (some [])) := by
      rw [← hW1]; exact ((Keeps.alloc (w.alloc (.deferred (some []))) (.loop (rec .ready))).blk _ (by simp) (fun h => h)).trans (World.alloc_heap_new w _)
    refine ⟨w.heap.size + 1, [{ target := .collected w.heap.size, args := #[] }], W1, { target := .fn (.func gf) ⟨lb⟩, args := #[.func (.yield (w.heap.size + 1)) #[] #[]] }, W1, gf,
      #[.func (.yield (w.heap.size + 1)) #[] #[]] ++ ⟨lb⟩, W1, ?_, ?_, fun f' hf' => True.intro, ?_, fun _ => h1, ?_⟩
    · rw [← hW1, hrec]; exact run_enterLoop_outer _ _ _ _ _
    · simp only [resolve, hev]
      simp [go_sem]
    · simp [invoke, go_sem, eg]
    · refine callsIn_wide.2 ?_
      have harr : (#[.func (.yield (w.heap.size + 1)) #[] #[]] ++ ⟨lb⟩ : Array Value) = ⟨.func (.yield (w.heap.size + 1)) #[] #[] :: lb⟩ := by simp
      rw [harr]
      refine (hseq (w.heap.size + 1) (fun k W => I k W ∧ W.heap[w.heap.size + 1]? = some (.loop (rec .ready)) ∧ W.heap[w.heap.size]? = some (.deferred (some []))) _
        (hw0.trans hK1 (fun _ _ h => h) (fun _ _ h => h.elim)) ?_ ?_ ⟨hI 0 _ _ h0 (.none hK1), hl1, hd1⟩).mono ?_
      · rintro k W W' ⟨hi, hl, hd⟩ hk
        exact ⟨hI _ _ _ hi (.none hk), (hk.blk _ (Array.getElem?_eq_some_iff.1 hl).1 (fun h => h)).trans hl, (hk.blk _ (Array.getElem?_eq_some_iff.1 hd).1 (fun h => h)).trans hd⟩
      · rintro k v W ⟨hi, hl, hd⟩ hkN hAv
        have hLv := hLa k v W hkN hAv
        have hy := run_yield (P := P) (args := ⟨v⟩) hl (by rw [hrec]; simpa using setLs_len hLv)
        refine ⟨_, _, _, _, hy, roundIn_of_wpIn trivial ?_⟩
        have hlt : w.heap.size + 1 < W.heap.size := (Array.getElem?_eq_some_iff.1 hl).1
        have hr := setLs_rep ha hLv
        have ea : ({ tmps := ((rec .ready).params.zip ⟨v⟩).foldl (fun t (p, v) => t.setIfInBounds p v) (rec .ready).tmps, defers := [] } : Act) = wd [] { tmps := (ts.zip v).foldl (fun t x => t.setIfInBounds x.1 x.2) a.tmps, defers := a.defers } := by rw [hrec]; simp [wd]
        have easg : (rec .ready).assign = assign := by rw [hrec]
        have ebdy : (rec .ready).body = body := by rw [hrec]
        rw [easg, ebdy]
        refine (congrArg (fun z => Code.wpIn _ _ P assign _ z W) ea).mpr ?_
        refine wpIn_mono (hassign _ k v W hkN hAv _ hr) ?_
        rintro ex a' W' ⟨ds2, a2, L', rfl, r, rfl, rfl, rfl, rfl⟩
        have hp2 : Loose w.heap.size W' (W'.putObj (w.heap.size + 1) (.loop { rec .ready with state := .busy })) := .put _ (by omega) hl rfl
        have hl2 : (W'.putObj (w.heap.size + 1) (.loop { rec .ready with state := .busy })).heap[w.heap.size + 1]? = some (.loop { rec .ready with state := .busy }) := World.putObj_heap_same hlt
        have hd2 : (W'.putObj (w.heap.size + 1) (.loop { rec .ready with state := .busy })).heap[w.heap.size]? = some (.deferred (some [])) := (World.putObj_heap_other (by omega)).trans hd
        refine ⟨_, run_beginRound hl (by rw [hrec]), ?_⟩
        refine wpIn_mono (hbody _ k v _ (hI _ _ _ hi hp2) hkN (hA _ _ _ _ hAv hp2) _ r) ?_
        rintro ex3 a3 W3 ⟨_, _, _, _, _, rfl, hkf, hkT, hi3⟩
        have hl3 := hkf.same _ _ (by omega) hl2 rfl
        have hd3 := hkf.same _ _ (Nat.le_refl _) hd2 rfl
        have hlt3 : w.heap.size + 1 < W3.heap.size := (Array.getElem?_eq_some_iff.1 hl3).1
        refine ⟨_, _, run_endRound none hl3, rfl, ⟨hI _ _ _ hi3 (.put _ (by omega) hl3 rfl), ?_, (World.putObj_heap_other (by omega)).trans hd3⟩, ?_⟩
        · rw [World.putObj_heap_same hlt3, hrec]; rfl
        · have kT : ∀ {X : World} {o : Obj}, X.heap[w.heap.size + 1]? = some o → ∀ o', o.isCells = false → Keeps T X (X.putObj (w.heap.size + 1) o') := fun hx o' ho => (Loose.put (B := w.heap.size) o' (by omega) hx ho).keeps.mono fun i _ h => hT i h
          exact ((kT hl _ rfl).trans hkT (fun _ _ h => h) (fun _ _ h => h)).trans (kT hl3 _ rfl) (fun _ _ h => h) (fun _ _ h => h)
      · rintro ex W ⟨⟨v, rfl⟩, hi, hl, hd⟩
        have hel := run_endLoop (P := P) hl (by rw [hrec]; simp)
        rw [show (rec .ready).pending = none from by rw [hrec]] at hel
        refine ⟨none, _, hel, ?_⟩
        exact ⟨_, a, L, rfl, ha, hdone _ _ (Nat.le_refl _) (hI _ _ _ hi (.put _ (by omega) hl rfl)) ((World.putObj_heap_other (by omega)).trans hd)⟩
  | _ => rw [e] at hc; cases hc
theorem retv_cell_cell_tmp {P : Program} {fn : Func} {w : World} {L : Loc} {t t' t'' : Tmp} {ty ty' : TypeId} {a a' : Addr} {v v' v'' : Value} (h : fn.results = #[.cell t ty, .cell t' ty', .tmp t'']) (hv : lk L t = some (.pointer (some a))) (hl : Loads P w ty a v)
    (hv' : lk L t' = some (.pointer (some a'))) (hl' : Loads P w ty' a' v') (hv'' : lk L t'' = some v'') : retv P fn w (.tuple #[v, v', v'']) L := by
  intro tmps ht
  have h1 := ht t _ hv
  have h2 := ht t' _ hv'
  have h3 := ht t'' _ hv''
  unfold Loads at hl hl'
  simp [results, h, h1, h2, h3, asAddr, hl, hl']
end Go.Q
