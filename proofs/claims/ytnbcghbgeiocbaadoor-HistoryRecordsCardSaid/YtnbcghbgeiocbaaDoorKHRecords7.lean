/- What the claim stands on, part 7: rules of the walk, contracts of the functions, plain laws. -/
import Derived.Test.YtnbcghbgeiocbaaDoorKHRecords1
import Derived.RangeFuncWrites
import Derived.OrdersIn
import Derived.RangeFuncCalls
import Derived.RangeFuncLeaves
import Derived.LoopNIn
set_option linter.unusedVariables false
namespace Go.Q
open Go.RowKit
structure Open (F : Fence) : Prop where
 fn : ∀ f, F.fn f
 depth : F.depth = none
 calls : ∀ {n : Nat} {P : Program} {f : FuncId} {args : Array Value} {w : World} {R : Ending → World → Prop}, Calls P f args w R → CallsIn F n P f args w R
 rows : ∀ {n : Nat} {P : Program} {r : String} {args : Array Value} {w : World} {R : Value → World → Prop}, Rows P r args w R → RowsIn F n P r args w R
theorem Open.wide : Open Fence.wide := ⟨fun _ => trivial, rfl, fun h => callsIn_wide.2 h, fun h c cs _ => let ⟨v, w2, r, s⟩ := h c cs; ⟨v, w2, r, stepsIn_wide.2 s⟩⟩
theorem Open.round (l : Nat) : Open (Fence.wide.inRound l) := ⟨fun _ => trivial, rfl, fun h => CallsIn.inRound l (callsIn_wide.2 h), fun h c cs _ => let ⟨v, w2, r, s⟩ := h c cs; ⟨v, w2, r, stepsIn_wide.2 s⟩⟩
def wd (ds : List Deferred) (a : Act) : Act := { a with defers := ds }
theorem wd_put (ds : List Deferred) (a : Act) (d : Option Tmp) (v : Value) : (wd ds a).put d v = wd ds (a.put d v) := by cases d <;> rfl
theorem put_defers (a : Act) (d : Option Tmp) (v : Value) : (a.put d v).defers = a.defers := by cases d <;> rfl
theorem op_defers {P : Program} {o : Oper} {a : Act} {w : World} {K : Act → World → Prop} {Q : Exit → Act → World → Prop} (hK : ∀ a w, K a w → a.defers = []) (hQ : ∀ e a w, e ≠ .normal → ¬ Q e a w) (h : o.wp P a w K Q) : a.defers = [] := by
 unfold Oper.wp at h
 revert h
 generalize (execOp a.eval o).run P w = r
 intro h
 cases r with
 | ok x w' =>
  cases x with
  | enter f args =>
   obtain ⟨e, w2, fr, he, _⟩ := h []
   cases e with
   | returned v => have := hK _ _ he; rwa [put_defers] at this
   | panicked c => exact absurd he (hQ _ _ _ (by simp))
   | outgrown => obtain ⟨a2, w3, q⟩ := he; exact absurd q (hQ _ _ _ (by simp))
  | row r args => obtain ⟨v, w2, he, _⟩ := h default []; have := hK _ _ he; rwa [put_defers] at this
  | value v => have := hK _ _ h; rwa [put_defers] at this
  | skip => have := hK _ _ h; rwa [put_defers] at this
  | defer d => have := hK _ _ h; rw [put_defers] at this; cases this
  | _ => exact False.elim h
 | halt x w' =>
  cases x with
  | panic v => exact absurd h (hQ _ _ _ (by simp))
  | _ => exact False.elim h
theorem ops_defers {P : Program} {ops : Array Oper} {Q : Exit → Act → World → Prop} (hN : ∀ a w, Q .normal a w → a.defers = []) (hQ : ∀ e a w, e ≠ .normal → ¬ Q e a w) :
  ∀ (is : List Nat) (a : Act) (w : World), wpOps P ops Q is a w → a.defers = []
 | [], a, w, h => hN _ _ h
 | i :: is, a, w, h => by
  unfold wpOps at h
  cases ho : ops[i]? with
  | none => rw [ho] at h; exact ops_defers hN hQ is a w h
  | some o =>
   rw [ho] at h
   simp only at h
   split at h
   ·rcases h with h | h
    ·exact op_defers (fun a w q => ops_defers hN hQ is a w q) hQ h
    ·obtain ⟨_, a2, w3, q⟩ := h; exact absurd q (hQ _ _ _ (by simp))
   ·have := ops_defers hN hQ is _ w h
    rwa [put_defers] at this
theorem opIn {P : Program} {F : Fence} (hF : Open F) (n : Nat) (ds : List Deferred) {o : Oper} {a : Act} {w : World} {K K' : Act → World → Prop} {Q Q' : Exit → Act → World → Prop} (hd : ∀ c, o.op ≠ .defer c)
  (hK : ∀ a w, K a w → K' (wd ds a) w) (hD : ∀ a w, K a w → a.defers = []) (hQ : ∀ e a w, e ≠ .normal → ¬ Q e a w) (h : o.wp P a w K Q) : o.wpIn F n P (wd ds a) w K' Q' := by
 unfold Oper.wp at h
 unfold Oper.wpIn
 refine ⟨fun f _ => hF.fn f, ?_⟩
 have hs : o.semAt F.round (wd ds a).eval = execOp a.eval o := by
  cases hr : F.round with
  | none => rw [Oper.semAt_none]; rfl
  | some l => exact Oper.semAt_some l _ _ hd
 rw [hs]
 revert h
 generalize (execOp a.eval o).run P w = r
 intro h
 have hdep : F.depth.isSome = true → 1 ≤ n := fun q => by rw [hF.depth] at q; cases q
 cases r with
 | ok x w' =>
  cases x with
  | enter f args =>
   refine ⟨hdep, hF.calls (Calls.mono h fun e w2 he => ?_)⟩
   cases e with
   | returned v => show K' ((wd ds a).put o.dst v) w2; rw [wd_put]; exact hK _ _ he
   | panicked c => exact absurd he (hQ _ _ _ (by simp))
   | outgrown => obtain ⟨a2, w3, q⟩ := he; exact absurd q (hQ _ _ _ (by simp))
  | row r args => exact ⟨hdep, hF.rows (Rows.mono h fun v w2 he => by rw [wd_put]; exact hK _ _ he)⟩
  | value v => show K' ((wd ds a).put o.dst v) w'; rw [wd_put]; exact hK _ _ h
  | skip => show K' ((wd ds a).put o.dst undef) w'; rw [wd_put]; exact hK _ _ h
  | defer d => have := hD _ _ h; rw [put_defers] at this; cases this
  | _ => exact False.elim h
 | halt x w' =>
  cases x with
  | panic v => exact absurd h (hQ _ _ _ (by simp))
  | _ => exact False.elim h
theorem opsIn {P : Program} {F : Fence} (hF : Open F) (n : Nat) (ds : List Deferred) {ops : Array Oper} {Q Q' : Exit → Act → World → Prop} (hd : ∀ (i : Nat) (o : Oper), ops[i]? = some o → ∀ c, o.op ≠ .defer c)
  (hN : ∀ a w, Q .normal a w → a.defers = [] ∧ Q' .normal (wd ds a) w) (hQ : ∀ e a w, e ≠ .normal → ¬ Q e a w) :
  ∀ (is : List Nat) (a : Act) (w : World), wpOps P ops Q is a w → wpOpsIn F n P ops Q' is (wd ds a) w
 | [], a, w, h => (hN _ _ h).2
 | i :: is, a, w, h => by
  unfold wpOps at h
  unfold wpOpsIn
  cases ho : ops[i]? with
  | none => rw [ho] at h; exact opsIn hF n ds hd hN hQ is a w h
  | some o =>
   rw [ho] at h
   simp only at h ⊢
   by_cases hw : Region.wanted o (yielded ops a.tmps)
   ·rw [if_pos hw] at h
    rw [if_pos (show Region.wanted o (yielded ops (wd ds a).tmps) from hw)]
    rcases h with h | h
    ·exact opIn hF n ds (hd i o ho) (fun a w q => opsIn hF n ds hd hN hQ is a w q) (fun a w q => ops_defers (fun a w q => (hN a w q).1) hQ is a w q) hQ h
    ·obtain ⟨_, a2, w3, q⟩ := h; exact absurd q (hQ _ _ _ (by simp))
   ·rw [if_neg hw] at h
    rw [if_neg (show ¬ Region.wanted o (yielded ops (wd ds a).tmps) from hw)]
    refine ⟨fun f _ => hF.fn f, ?_⟩
    rw [wd_put]
    exact opsIn hF n ds hd hN hQ is _ w h
end Go.Q
namespace Go.Q
open Go.RowKit
def wpR (F : Fence) (P : Program) (m n : Nat) (c : Code) (Q : List Deferred → Exit → Loc → World → Prop) (ds : List Deferred) (L : Loc) (w : World) : Prop :=
 ∀ a, Rep n a L → c.wpIn F m P (fun e a' w' => ∃ ds2 a2 L', a' = wd ds2 a2 ∧ Rep n a2 L' ∧ Q ds2 e L' w') (wd ds a) w
section
variable {F : Fence} {ds : List Deferred} {P : Program} {m n : Nat} {Q : List Deferred → Exit → Loc → World → Prop} {L : Loc} {w : World} {f : Func} {p : List Nat}
theorem qr_keep {c : Code} {R : Loc} (hs : restrict L (R.map Prod.fst) = some R) (h : wpR F P m n c Q ds R w) : wpR F P m n c Q ds L w :=
 fun a ha => h a (ha.sub (restrict_sub hs))
theorem qr_mono {c : Code} {Q' : List Deferred → Exit → Loc → World → Prop} (h : wpR F P m n c Q ds L w) (hq : ∀ ds e L w, Q ds e L w → Q' ds e L w) : wpR F P m n c Q' ds L w :=
 fun a ha => wpIn_mono (h a ha) fun _ _ _ ⟨d2, a2, L', e, r, q⟩ => ⟨d2, a2, L', e, r, hq _ _ _ _ q⟩
theorem qr_seq (hc : isSeq (cd f p) = true) (h : wpR F P m n (cd f (0 :: p)) (fun ds => thn (wpR F P m n (cd f (1 :: p)) Q ds) (Q ds)) ds L w) : wpR F P m n (cd f p) Q ds L w := by
 intro a ha
 have h1 := h a ha
 simp only [cd] at h1
 cases e : cd f p with
 | seq x y =>
  rw [e] at h1
  simp only [sub] at h1
  refine wpIn_seq (wpIn_mono h1 fun ex a' w' hq => ?_)
  obtain ⟨d2, a2, L', rfl, r, q⟩ := hq
  cases ex with
  | normal => exact q a2 r
  | _ => exact ⟨d2, a2, L', rfl, r, q⟩
 | _ => rw [e] at hc; cases hc
theorem qr_cond {o : Operand} {b : Bool} (hc : isCond (cd f p) = some o) (hv : evo L o = some (.bool b))
  (ht : b = true → wpR F P m n (cd f (0 :: p)) Q ds L w) (hf : b = false → wpR F P m n (cd f (1 :: p)) Q ds L w) : wpR F P m n (cd f p) Q ds L w := by
 intro a ha
 simp only [cd] at ht hf
 cases e : cd f p with
 | cond c x y =>
  rw [e] at hc ht hf
  simp only [isCond, Option.some.injEq] at hc
  subst hc
  cases b with
  | true => exact wpIn_cond_true (show (wd ds a).eval _ = _ from ha.ev hv) (ht rfl a ha)
  | false => exact wpIn_cond_false (show (wd ds a).eval _ = _ from ha.ev hv) (hf rfl a ha)
 | _ => rw [e] at hc; cases hc
theorem qr_else {o : Operand} (hc : isCond (cd f p) = some o) (hv : evo L o = some (.bool false)) (h : wpR F P m n (cd f (1 :: p)) Q ds L w) : wpR F P m n (cd f p) Q ds L w :=
 qr_cond hc hv (fun hb => by cases hb) (fun _ => h)
theorem qr_block {id : Nat} (hc : isBlock (cd f p) = some id) (h : wpR F P m n (cd f (0 :: p)) (fun ds => blk id (Q ds)) ds L w) : wpR F P m n (cd f p) Q ds L w := by
 intro a ha
 have h1 := h a ha
 simp only [cd] at h1
 cases e : cd f p with
 | block i x =>
  rw [e] at hc h1
  simp only [isBlock, Option.some.injEq] at hc
  subst hc
  simp only [sub] at h1
  refine wpIn_block (wpIn_mono h1 fun ex a' w' hq => ?_)
  obtain ⟨d2, a2, L', rfl, r, q⟩ := hq
  cases ex with
  | exit k =>
   by_cases hk : k = i
   ·simp only [Exit.inBlock, if_pos hk]
    simp only [blk, if_pos hk] at q
    exact ⟨d2, a2, L', rfl, r, q⟩
   ·simp only [Exit.inBlock, if_neg hk]
    simp only [blk, if_neg hk] at q
    exact ⟨d2, a2, L', rfl, r, q⟩
  | _ => exact ⟨d2, a2, L', rfl, r, q⟩
 | _ => rw [e] at hc; cases hc
theorem qr_skip (hc : isSkip (cd f p) = true) (h : Q ds .normal L w) : wpR F P m n (cd f p) Q ds L w := by
 intro a ha
 cases e : cd f p with
 | skip => exact wpIn_skip ⟨ds, a, L, rfl, ha, h⟩
 | _ => rw [e] at hc; cases hc
theorem qr_exit {id : Nat} (hc : isExit (cd f p) = some id) (h : Q ds (.exit id) L w) : wpR F P m n (cd f p) Q ds L w := by
 intro a ha
 cases e : cd f p with
 | exit i =>
  rw [e] at hc
  simp only [isExit, Option.some.injEq] at hc
  subst hc
  exact wpIn_exit ⟨ds, a, L, rfl, ha, h⟩
 | _ => rw [e] at hc; cases hc
theorem qr_ret (hc : isRet (cd f p) = true) (h : Q ds .ret L w) : wpR F P m n (cd f p) Q ds L w := by
 intro a ha
 cases e : cd f p with
 | ret => exact wpIn_ret ⟨ds, a, L, rfl, ha, h⟩
 | _ => rw [e] at hc; cases hc
def noDefer (os : Array Oper) : Bool := os.toList.all fun o => match o.op with | .defer _ => false | _ => true
theorem noDefer_op {os : Array Oper} (h : noDefer os = true) (i : Nat) (o : Oper) (ho : os[i]? = some o) : ∀ c, o.op ≠ .defer c := by
 intro c hc
 have hm : o ∈ os.toList := by
  obtain ⟨hi, rfl⟩ := Array.getElem?_eq_some_iff.1 ho
  exact Array.mem_toList_iff.2 (Array.getElem_mem hi)
 have := List.all_eq_true.1 h o hm
 rw [hc] at this
 cases this
theorem drPost_no {K : Loc → World → Prop} : ∀ e a w, e ≠ .normal → ¬ drPost n K e a w := by
 rintro e a w he ⟨L, _, h⟩
 cases e with
 | normal => exact he rfl
 | _ => exact h
theorem drPost_fin {a : Act} (h : drPost n (Q ds .normal) .normal a w) : a.defers = [] ∧ ∃ ds2 a2 L', wd ds a = wd ds2 a2 ∧ Rep n a2 L' ∧ Q ds2 .normal L' w := by
 obtain ⟨L, r, q⟩ := h
 exact ⟨r.defers, ds, a, L, rfl, r, q⟩
theorem qr_region (hF : Open F) (hc : isRegion (cd f p) = true) (hd : noDefer (opsOf (cd f p)) = true) (h : Ops P n (opsOf (cd f p)) 0 (Q ds .normal) L w) : wpR F P m n (cd f p) Q ds L w := by
 intro a ha
 cases e : cd f p with
 | region id os dr =>
  rw [e] at hc h hd
  cases dr with
  | true => cases hc
  | false =>
   have h1 := h a ha
   simp only [opsOf] at h1 hd
   refine wpIn_region ?_
   rw [List.range_eq_range']
   exact opsIn hF m ds (noDefer_op hd) (fun a w q => drPost_fin q) drPost_no _ _ _ h1
 | _ => rw [e] at hc; cases hc
theorem qr_loop {σ : Type} (I : σ → List Deferred → Loc → World → Prop) (μ : σ → Nat) (s0 : σ) (hc : isLoop (cd f p) = true) (h0 : I s0 ds L w)
  (round : ∀ s ds L w, I s ds L w → wpR F P m n (cd f (0 :: p)) (fun ds => thn (fun L' w' => ∃ s', I s' ds L' w' ∧ μ s' < μ s) (Q ds)) ds L w) : wpR F P m n (cd f p) Q ds L w := by
 intro a ha
 simp only [cd] at round
 cases e : cd f p with
 | loop c =>
  rw [e] at round
  simp only [sub] at round
  have key : ∀ (k : Nat) (s : σ) (ds : List Deferred) (L : Loc) (a : Act) (w : World), μ s < k → I s ds L w → Rep n a L →
    Code.roundsIn F m P c (fun e a' w' => ∃ ds2 a2 L', a' = wd ds2 a2 ∧ Rep n a2 L' ∧ Q ds2 e L' w') k (wd ds a) w := by
   intro k
   induction k with
   | zero => intro s ds L a w hk; omega
   | succ k ih =>
    intro s ds L a w hk hI ha
    refine wpIn_mono (round s ds L w hI a ha) ?_
    rintro ex a' w' ⟨ds2, a2, L', rfl, r, q⟩
    cases ex with
    | normal =>
     obtain ⟨s', hI', hlt⟩ := q
     exact ih s' ds2 L' a2 w' (by omega) hI' r
    | _ => exact ⟨ds2, a2, L', rfl, r, q⟩
  exact wpIn_loop_rounds _ (key (μ s0 + 1) s0 ds L a w (by omega) h0 ha)
 | _ => rw [e] at hc; cases hc
def retR (P : Program) (fn : Func) (m : Nat) (R : Ending → World → Prop) : List Deferred → Exit → Loc → World → Prop
 | ds, .normal, L, w | ds, .ret, L, w => ∀ a, Rep fn.ntmps a L → LeavesInM Fence.wide m P fn a.tmps R ds .returning w
 | _, _, _, _ => False
theorem qr_calls {P : Program} {k : FuncId} {fn : Func} {vs : List Value} {w : World} {R : Ending → World → Prop} (m : Nat) (hf : P.funcs[k]? = some fn)
  (hb : fn.body.isSome = true) (hn : Nat.ble vs.length fn.ntmps = true) (h : wpR Fence.wide P m fn.ntmps (cd fn []) (retR P fn m R) [] (args0 0 vs) w) : Calls P k ⟨vs⟩ w R := by
 cases hbody : fn.body with
 | none => rw [hbody] at hb; cases hb
 | some c =>
  have hle : vs.length ≤ fn.ntmps := Nat.le_of_ble_eq_true hn
  refine (callsIn_wide (n := m)).1 (callsIn_of_wp_marks hf hbody trivial ?_ rfl)
  have e : cd fn [] = c := by simp [cd, hbody]
  rw [e] at h
  have hrep : Rep fn.ntmps { tmps := (⟨vs⟩ : Array Value) ++ Array.replicate (fn.ntmps - (⟨vs⟩ : Array Value).size) undef, defers := [] } (args0 0 vs) := by
   refine ⟨rfl, ?_, fun t v ht => ?_⟩
   ·simp; omega
   ·obtain ⟨_, h2⟩ := lk_args0 vs 0 t v ht
    simp only [Nat.sub_zero] at h2
    have hlt : t < vs.length := (List.getElem?_eq_some_iff.1 h2).1
    simp only [Array.getElem?_append, List.size_toArray, hlt, if_true]
    simpa using h2
  refine wpIn_mono (h _ hrep) ?_
  rintro ex a' w' ⟨ds2, a2, L', he, r, q⟩
  subst he
  cases ex with
  | normal => exact q a2 r
  | ret => exact q a2 r
  | _ => exact q.elim
theorem retR_none {fn : Func} {R : Ending → World → Prop} {v : Value} (hv : retv P fn w v L) (hR : R (.returned v) w) : retR P fn m R [] .ret L w := by
 intro a ha
 exact ⟨v, hv a.tmps ha.val, hR⟩
end
end Go.Q
