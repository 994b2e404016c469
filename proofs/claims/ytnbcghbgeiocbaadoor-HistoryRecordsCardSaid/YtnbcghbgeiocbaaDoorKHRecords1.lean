/- What the claim stands on, part 1: rules of the walk, contracts of the functions, plain laws. -/
import Derived.OrdersHeld
import Derived.KernelRfl
import Derived.Below
import Derived.Laws.AppendOwn
import Derived.Laws.OwnMore
import Derived.Laws.Slices
import Derived.Lib.AppendStr
import Derived.Deep.AppendLies
import Derived.Laws.BytesArg
import Derived.Laws.StructEq
import Derived.ProofKit
import Derived.OpenShut
import Derived.WideKeyArgs
import Derived.Deep.Slices
import Derived.Deep.Fields
set_option linter.unusedVariables false
namespace Go.Q
open Go.RowKit
abbrev Loc := List (Nat × Value)
def lk : Loc → Nat → Option Value
 | [], _ => none
 | (i, v) :: L, t => bif Nat.beq i t then some v else lk L t
def evo (L : Loc) : Operand → Option Value
 | .tmp t => lk L t
 | .const v => some v
 | .global g => some (.pointer (some ⟨g, 0, none⟩))
 | .func f => some (.func (.func f) #[] #[])
def ev (L : Loc) (x : Operand) : Value := match evo L x with | some v => v | none => undef
def knows (L : Loc) : List Operand → Bool
 | [] => true
 | x :: xs => match evo L x with | some _ => knows L xs | none => false
structure Rep (n : Nat) (a : Act) (L : Loc) : Prop where
 defers : a.defers = []
 size : a.tmps.size = n
 val : ∀ t v, lk L t = some v → a.tmps[t]? = some v
theorem Rep.ev {n : Nat} {a : Act} {L : Loc} (h : Rep n a L) {x : Operand} {v : Value} (hx : evo L x = some v) : a.eval x = v := by
 cases x with
 | tmp t => simp only [evo] at hx; simp [Act.eval, h.val t v hx]
 | const u => simp only [evo] at hx; injection hx
 | global g => simp only [evo] at hx; injection hx
 | func f => simp only [evo] at hx; injection hx
theorem knows_mem {L : Loc} : ∀ {xs : List Operand}, knows L xs = true → ∀ x ∈ xs, ∃ v, evo L x = some v
 | [], _, x, hx => by cases hx
 | y :: ys, h, x, hx => by
  simp only [knows] at h
  cases hy : evo L y with
  | none => rw [hy] at h; cases h
  | some v =>
   rw [hy] at h
   rcases List.mem_cons.1 hx with rfl | hx
   ·exact ⟨v, hy⟩
   ·exact knows_mem h x hx
theorem Rep.put {n : Nat} {a : Act} {L : Loc} (h : Rep n a L) {d : Nat} (hd : d < n) (v : Value) : Rep n (a.put (some d) v) ((d, v) :: L) := by
 refine ⟨h.defers, by simp [Act.put, h.size], fun t u ht => ?_⟩
 simp only [lk] at ht
 by_cases e : d = t
 ·subst e
  have hb : Nat.beq d d = true := Nat.beq_refl d
  simp only [hb, cond_true, Option.some.injEq] at ht
  subst ht
  simp [Act.put, h.size, hd]
 ·have hb : Nat.beq d t = false := by rw [Bool.eq_false_iff]; intro hh; exact e (Nat.eq_of_beq_eq_true hh)
  simp only [hb, cond_false] at ht
  simp only [Act.put]
  rw [Array.getElem?_setIfInBounds_ne e]
  exact h.val t u ht
def setL (n : Nat) (dst : Option Tmp) (v : Value) (L : Loc) : Option Loc :=
 match dst with
 | none => some L
 | some d => bif Nat.blt d n then some ((d, v) :: L) else none
theorem Rep.setL {n : Nat} {a : Act} {L L' : Loc} (h : Rep n a L) {dst : Option Tmp} {v : Value} (hs : setL n dst v L = some L') : Rep n (a.put dst v) L' := by
 cases dst with
 | none => simp only [Q.setL] at hs; injection hs with hs; subst hs; exact h
 | some d =>
  simp only [Q.setL] at hs
  cases hb : Nat.blt d n with
  | false => rw [hb] at hs; cases hs
  | true =>
   rw [hb] at hs
   simp only [cond_true, Option.some.injEq] at hs
   subst hs
   exact h.put (by simpa [Nat.blt_eq] using hb) v
def restrict (L : Loc) : List Nat → Option Loc
 | [] => some []
 | t :: ts => match lk L t with
  | some v => match restrict L ts with
   | some R => some ((t, v) :: R)
   | none => none
  | none => none
theorem restrict_sub {L : Loc} : ∀ {ts : List Nat} {R : Loc}, restrict L ts = some R → ∀ t v, lk R t = some v → lk L t = some v
 | [], R, h, t, v, hv => by simp only [restrict] at h; injection h with h; subst h; cases hv
 | s :: ts, R, h, t, v, hv => by
  simp only [restrict] at h
  cases hs : lk L s with
  | none => rw [hs] at h; cases h
  | some u =>
   rw [hs] at h
   cases hr : restrict L ts with
   | none => rw [hr] at h; cases h
   | some R' =>
    rw [hr] at h
    simp only [Option.some.injEq] at h
    subst h
    simp only [lk] at hv
    cases hb : Nat.beq s t with
    | true =>
     rw [hb] at hv
     simp only [cond_true, Option.some.injEq] at hv
     subst hv
     have := Nat.eq_of_beq_eq_true hb
     subst this
     exact hs
    | false => rw [hb] at hv; exact restrict_sub hr t v hv
theorem Rep.sub {n : Nat} {a : Act} {L R : Loc} (h : Rep n a L) (hs : ∀ t v, lk R t = some v → lk L t = some v) : Rep n a R :=
 ⟨h.defers, h.size, fun t v ht => h.val t v (hs t v ht)⟩
def sub : Code → Nat → Code
 | .seq a _, 0 => a
 | .seq _ b, _ => b
 | .cond _ a _, 0 => a
 | .cond _ _ b, _ => b
 | .block _ a, _ => a
 | .loop a, _ => a
 | .scope a, _ => a
 | .rangeFunc _ _ a _, 0 => a
 | .rangeFunc _ _ _ b, _ => b
 | c, _ => c
def cd (f : Func) : List Nat → Code
 | [] => match f.body with | some c => c | none => .skip
 | i :: p => sub (cd f p) i
def opsOf : Code → Array Oper
 | .region _ ops _ => ops
 | _ => #[]
def isSeq : Code → Bool | .seq _ _ => true | _ => false
def isRegion : Code → Bool | .region _ _ false => true | _ => false
def isDraw : Code → Bool | .region _ _ true => true | _ => false
def isLoop : Code → Bool | .loop _ => true | _ => false
def isBlock : Code → Option Nat | .block i _ => some i | _ => none
def isExit : Code → Option Nat | .exit i => some i | _ => none
def isRet : Code → Bool | .ret => true | _ => false
def isSkip : Code → Bool | .skip => true | _ => false
def isCond : Code → Option Operand | .cond c _ _ => some c | _ => none
def thn (next : Loc → World → Prop) (Q : Exit → Loc → World → Prop) : Exit → Loc → World → Prop
 | .normal, L, w => next L w
 | e, L, w => Q e L w
def blk (id : Nat) (Q : Exit → Loc → World → Prop) : Exit → Loc → World → Prop
 | .exit id', L, w => if id' = id then Q .normal L w else Q (.exit id') L w
 | e, L, w => Q e L w
def wp (P : Program) (n : Nat) (c : Code) (Q : Exit → Loc → World → Prop) (L : Loc) (w : World) : Prop :=
 ∀ a, Rep n a L → c.wp P (fun e a' w' => ∃ L', Rep n a' L' ∧ Q e L' w') a w
section rules
variable {P : Program} {n : Nat} {Q : Exit → Loc → World → Prop} {L : Loc} {w : World} {f : Func} {p : List Nat}
theorem q_keep {c : Code} {R : Loc} (hs : restrict L (R.map Prod.fst) = some R) (h : wp P n c Q R w) : wp P n c Q L w :=
 fun a ha => h a (ha.sub (restrict_sub hs))
theorem q_mono {c : Code} {Q' : Exit → Loc → World → Prop} (h : wp P n c Q L w) (hq : ∀ e L w, Q e L w → Q' e L w) : wp P n c Q' L w :=
 fun a ha => Go.wp_mono (h a ha) fun _ _ _ ⟨L', r, q⟩ => ⟨L', r, hq _ _ _ q⟩
theorem q_seq (hc : isSeq (cd f p) = true) (h : wp P n (cd f (0 :: p)) (thn (wp P n (cd f (1 :: p)) Q) Q) L w) : wp P n (cd f p) Q L w := by
 intro a ha
 have h1 := h a ha
 simp only [cd] at h1
 cases e : cd f p with
 | seq x y =>
  rw [e] at h1
  simp only [sub] at h1
  refine Go.wp_seq (Go.wp_mono h1 fun ex a' w' hq => ?_)
  obtain ⟨L', r, q⟩ := hq
  cases ex with
  | normal => exact q a' r
  | _ => exact ⟨L', r, q⟩
 | _ => rw [e] at hc; cases hc
theorem q_cond {o : Operand} {b : Bool} (hc : isCond (cd f p) = some o) (hv : evo L o = some (.bool b))
  (ht : b = true → wp P n (cd f (0 :: p)) Q L w) (hf : b = false → wp P n (cd f (1 :: p)) Q L w) : wp P n (cd f p) Q L w := by
 intro a ha
 simp only [cd] at ht hf
 cases e : cd f p with
 | cond c x y =>
  rw [e] at hc ht hf
  simp only [isCond, Option.some.injEq] at hc
  subst hc
  exact Go.wp_cond_split (ha.ev hv) (fun hb => ht hb a ha) (fun hb => hf hb a ha)
 | _ => rw [e] at hc; cases hc
theorem q_then {o : Operand} (hc : isCond (cd f p) = some o) (hv : evo L o = some (.bool true)) (h : wp P n (cd f (0 :: p)) Q L w) : wp P n (cd f p) Q L w :=
 q_cond hc hv (fun _ => h) (fun hb => by cases hb)
theorem q_else {o : Operand} (hc : isCond (cd f p) = some o) (hv : evo L o = some (.bool false)) (h : wp P n (cd f (1 :: p)) Q L w) : wp P n (cd f p) Q L w :=
 q_cond hc hv (fun hb => by cases hb) (fun _ => h)
theorem q_block {id : Nat} (hc : isBlock (cd f p) = some id) (h : wp P n (cd f (0 :: p)) (blk id Q) L w) : wp P n (cd f p) Q L w := by
 intro a ha
 have h1 := h a ha
 simp only [cd] at h1
 cases e : cd f p with
 | block i x =>
  rw [e] at hc h1
  simp only [isBlock, Option.some.injEq] at hc
  subst hc
  simp only [sub] at h1
  refine Go.wp_block (Go.wp_mono h1 fun ex a' w' hq => ?_)
  obtain ⟨L', r, q⟩ := hq
  cases ex with
  | exit k =>
   by_cases hk : k = i
   ·simp only [Exit.inBlock, if_pos hk]
    simp only [blk, if_pos hk] at q
    exact ⟨L', r, q⟩
   ·simp only [Exit.inBlock, if_neg hk]
    simp only [blk, if_neg hk] at q
    exact ⟨L', r, q⟩
  | _ => exact ⟨L', r, q⟩
 | _ => rw [e] at hc; cases hc
theorem q_skip (hc : isSkip (cd f p) = true) (h : Q .normal L w) : wp P n (cd f p) Q L w := by
 intro a ha
 cases e : cd f p with
 | skip => exact Go.wp_skip ⟨L, ha, h⟩
 | _ => rw [e] at hc; cases hc
theorem q_exit {id : Nat} (hc : isExit (cd f p) = some id) (h : Q (.exit id) L w) : wp P n (cd f p) Q L w := by
 intro a ha
 cases e : cd f p with
 | exit i =>
  rw [e] at hc
  simp only [isExit, Option.some.injEq] at hc
  subst hc
  exact Go.wp_exit ⟨L, ha, h⟩
 | _ => rw [e] at hc; cases hc
theorem q_ret (hc : isRet (cd f p) = true) (h : Q .ret L w) : wp P n (cd f p) Q L w := by
 intro a ha
 cases e : cd f p with
 | ret => exact Go.wp_ret ⟨L, ha, h⟩
 | _ => rw [e] at hc; cases hc
theorem q_loop {σ : Type} (I : σ → Loc → World → Prop) (m : σ → Nat) (s0 : σ) (hc : isLoop (cd f p) = true) (h0 : I s0 L w)
  (round : ∀ s L w, I s L w → wp P n (cd f (0 :: p)) (thn (fun L' w' => ∃ s', I s' L' w' ∧ m s' < m s) Q) L w) : wp P n (cd f p) Q L w := by
 intro a ha
 simp only [cd] at round
 cases e : cd f p with
 | loop c =>
  rw [e] at round
  simp only [sub] at round
  have key : ∀ (k : Nat) (s : σ) (L : Loc) (a : Act) (w : World), m s = k → I s L w → Rep n a L → ∀ (b : Frame) (kk : List Item) (cs : List Frame),
    ∃ e a' w', (∃ L', Rep n a' L' ∧ Q e L' w') ∧ Arrives P (lone (b.at a (.code c :: .inLoop c :: kk)) cs w) b kk cs e a' w' := by
   intro k
   induction k using Nat.strongRecOn with
   | _ k ih =>
    intro s L a w hk hI ha b kk cs
    obtain ⟨ex, a₁, w₁, ⟨L₁, r₁, hq⟩, harr⟩ := round s L w hI a ha b (.inLoop c :: kk) cs
    cases ex with
    | normal =>
     obtain ⟨s', hI', hlt⟩ := hq
     obtain ⟨e₂, a₂, w₂, hq₂, harr₂⟩ := ih (m s') (hk ▸ hlt) s' L₁ a₁ w₁ rfl hI' r₁ b kk cs
     exact ⟨e₂, a₂, w₂, hq₂, .of_steps (Steps.trans harr (.one step_inLoop)) harr₂⟩
    | exit id => exact ⟨_, a₁, w₁, ⟨L₁, r₁, hq⟩, .pass (x := .inLoop c) rfl (fun _ _ => .inl (by simp)) harr⟩
    | goto l => exact ⟨_, a₁, w₁, ⟨L₁, r₁, hq⟩, .pass (x := .inLoop c) rfl (fun _ _ => .inl (by simp)) harr⟩
    | ret => exact ⟨_, a₁, w₁, ⟨L₁, r₁, hq⟩, .pass (x := .inLoop c) rfl (fun _ _ => .inl (by simp)) harr⟩
    | panic ch => exact ⟨_, a₁, w₁, ⟨L₁, r₁, hq⟩, .pass (x := .inLoop c) rfl (fun _ _ => .inl (by simp)) harr⟩
    | outgrown => exact ⟨_, a₁, w₁, ⟨L₁, r₁, hq⟩, .pass (x := .inLoop c) rfl (fun _ _ => .inl (by simp)) harr⟩
  intro b kk cs
  obtain ⟨ex, a', w', hq, harr⟩ := key _ s0 L a w rfl h0 ha b kk cs
  exact ⟨ex, a', w', hq, .of_steps (.one step_loop) harr⟩
 | _ => rw [e] at hc; cases hc
end rules
def args0 : Nat → List Value → Loc
 | _, [] => []
 | i, v :: vs => (i, v) :: args0 (i + 1) vs
theorem lk_args0 : ∀ (vs : List Value) (i t : Nat) (v : Value), lk (args0 i vs) t = some v → i ≤ t ∧ vs[t - i]? = some v
 | [], i, t, v, h => by cases h
 | u :: vs, i, t, v, h => by
  simp only [args0, lk] at h
  cases hb : Nat.beq i t with
  | true =>
   rw [hb] at h
   simp only [cond_true, Option.some.injEq] at h
   have := Nat.eq_of_beq_eq_true hb
   subst this
   subst h
   simp
  | false =>
   rw [hb] at h
   obtain ⟨h1, h2⟩ := lk_args0 vs (i + 1) t v h
   refine ⟨by omega, ?_⟩
   have : t - i = (t - (i + 1)) + 1 := by omega
   rw [this, List.getElem?_cons_succ]
   exact h2
def retv (P : Program) (fn : Func) (w : World) (v : Value) (L : Loc) : Prop := ∀ tmps : Array Value, (∀ t u, lk L t = some u → tmps[t]? = some u) → (results fn tmps).run P w = .ok v w
def retQ (P : Program) (fn : Func) (R : Ending → World → Prop) : Exit → Loc → World → Prop
 | .normal, L, w | .ret, L, w => ∃ v, retv P fn w v L ∧ R (.returned v) w
 | _, _, _ => False
theorem q_calls {P : Program} {k : FuncId} {fn : Func} {vs : List Value} {w : World} {R : Ending → World → Prop} (hf : P.funcs[k]? = some fn)
  (hb : fn.body.isSome = true) (hn : Nat.ble vs.length fn.ntmps = true) (h : wp P fn.ntmps (cd fn []) (retQ P fn R) (args0 0 vs) w) : Calls P k ⟨vs⟩ w R := by
 cases hbody : fn.body with
 | none => rw [hbody] at hb; cases hb
 | some c =>
  have hle : vs.length ≤ fn.ntmps := Nat.le_of_ble_eq_true hn
  refine calls_of_wp hf hbody ?_
  have e : cd fn [] = c := by simp [cd, hbody]
  rw [e] at h
  refine Go.wp_mono (h _ ⟨rfl, ?_, fun t v ht => ?_⟩) fun ex a' w' ⟨L', r, q⟩ => ?_
  ·simp; omega
  ·obtain ⟨_, h2⟩ := lk_args0 vs 0 t v ht
   simp only [Nat.sub_zero] at h2
   have hlt : t < vs.length := (List.getElem?_eq_some_iff.1 h2).1
   simp only [Array.getElem?_append, List.size_toArray, hlt, if_true]
   simpa using h2
  ·cases ex with
   | normal => obtain ⟨v, hv, hR⟩ := q; exact ⟨r.defers, v, hv _ r.val, hR⟩
   | ret => obtain ⟨v, hv, hR⟩ := q; exact ⟨r.defers, v, hv _ r.val, hR⟩
   | _ => exact q.elim
theorem retv_none {P : Program} {fn : Func} {w : World} {L : Loc} (h : fn.results = #[]) : retv P fn w (.tuple #[]) L := by
 intro tmps _; simp [results, h]
theorem retv_tmp {P : Program} {fn : Func} {w : World} {L : Loc} {t : Tmp} {v : Value} (h : fn.results = #[.tmp t]) (hv : lk L t = some v) : retv P fn w v L := by
 intro tmps ht; simp [results, h, ht t v hv]
theorem retv_tmp2 {P : Program} {fn : Func} {w : World} {L : Loc} {t t' : Tmp} {v v' : Value} (h : fn.results = #[.tmp t, .tmp t']) (hv : lk L t = some v) (hv' : lk L t' = some v') :
  retv P fn w (.tuple #[v, v']) L := by
 intro tmps ht; simp [results, h, ht t v hv, ht t' v' hv']
theorem retv_tmp3 {P : Program} {fn : Func} {w : World} {L : Loc} {t t' t'' : Tmp} {v v' v'' : Value} (h : fn.results = #[.tmp t, .tmp t', .tmp t'']) (hv : lk L t = some v) (hv' : lk L t' = some v') (hv'' : lk L t'' = some v'') :
  retv P fn w (.tuple #[v, v', v'']) L := by
 intro tmps ht; simp [results, h, ht t v hv, ht t' v' hv', ht t'' v'' hv'']
end Go.Q
namespace Go.Q
open Go.RowKit
def pure? (P : Program) {α : Type} : Sem α → Option α
 | .pure a => some a
 | .program k => pure? P (k P)
 | .mark _ k => pure? P k
 | _ => none
theorem pure?_run {P : Program} {α : Type} : ∀ (s : Sem α) {a : α}, pure? P s = some a → ∀ w, s.run P w = .ok a w
 | .pure b, a, h, w => by simp only [pure?, Option.some.injEq] at h; subst h; rfl
 | .program k, a, h, w => by simp only [pure?] at h; exact pure?_run (k P) h w
 | .mark m k, a, h, w => by simp only [pure?] at h; simp only [Sem.run]; exact pure?_run k h w
 | .load .., _, h, _ | .store .., _, h, _ | .new .., _, h, _ | .shape .., _, h, _ | .freeze .., _, h, _ | .frozen .., _, h, _ | .getObj .., _, h, _
 | .setObj .., _, h, _ | .choose .., _, h, _ | .sys .., _, h, _ | .halt .., _, h, _ => by cases h
def plainOp : Op → Bool
 | .select .. => false
 | _ => true
theorem plainOp_not {o : Op} (h : plainOp o = true) : ∀ cs b, o ≠ .select cs b := by
 intro cs b e; subst e; cases h
def wants (os : Array Oper) (L : Loc) (o : Oper) : Option Bool :=
 match o.guard with
 | none => some true
 | some (j, want) => match os[j]? with
  | some g => match g.dst with
   | some d => match lk L d with
    | some (.bool b) => some (b == want)
    | some (.tuple _) => some false
    | _ => none
   | none => none
  | none => none
theorem wants_wanted {os : Array Oper} {L : Loc} {o : Oper} {b : Bool} {n : Nat} {a : Act} (ha : Rep n a L) (h : wants os L o = some b) :
  Region.wanted o (yielded os a.tmps) = b := by
 unfold wants at h
 unfold Region.wanted
 cases hg : o.guard with
 | none => rw [hg] at h; simpa using h
 | some jw =>
  obtain ⟨j, want⟩ := jw
  rw [hg] at h
  simp only at h ⊢
  cases ho : os[j]? with
  | none => rw [ho] at h; cases h
  | some g =>
   rw [ho] at h
   simp only at h
   cases hd : g.dst with
   | none => rw [hd] at h; cases h
   | some d =>
    rw [hd] at h
    simp only at h
    cases hl : lk L d with
    | none => rw [hl] at h; cases h
    | some v =>
     rw [hl] at h
     cases v with
     | bool c =>
      simp only [Option.some.injEq] at h
      have := ha.val d _ hl
      subst h
      simp [yielded, ho, hd, this]
     | tuple vs =>
      simp only [Option.some.injEq] at h
      have := ha.val d _ hl
      subst h
      simp [yielded, ho, hd, this]
     | _ => cases h
def next? (P : Program) (L : Loc) (o : Oper) : Option Next :=
 bif plainOp o.op && knows L o.op.operands.toList then pure? P (execOp (ev L) o) else none
theorem exec_known {L : Loc} {o : Oper} {n : Nat} {a : Act} (ha : Rep n a L) (hp : plainOp o.op = true) (hk : knows L o.op.operands.toList = true) :
  execOp a.eval o = execOp (ev L) o :=
 execOp_congr o (plainOp_not hp) fun x hx => by
  obtain ⟨v, hv⟩ := knows_mem hk x (Array.mem_toList_iff.2 hx)
  rw [ha.ev hv]
  simp [ev, hv]
theorem next?_run {P : Program} {L : Loc} {o : Oper} {n : Nat} {a : Act} {x : Next} (ha : Rep n a L) (h : next? P L o = some x) (w : World) :
  (execOp a.eval o).run P w = .ok x w := by
 unfold next? at h
 cases hc : plainOp o.op && knows L o.op.operands.toList with
 | false => rw [hc] at h; cases h
 | true =>
  rw [hc] at h
  simp only [Bool.and_eq_true] at hc
  rw [exec_known ha hc.1 hc.2]
  exact pure?_run _ h w
def at? (os : Array Oper) (L : Loc) (i : Nat) : Option Oper :=
 match os[i]? with
 | some o => match wants os L o with
  | some true => bif plainOp o.op && knows L o.op.operands.toList then some o else none
  | _ => none
 | none => none
theorem at?_spec {os : Array Oper} {L : Loc} {i : Nat} {o : Oper} (h : at? os L i = some o) :
  os[i]? = some o ∧ wants os L o = some true ∧ plainOp o.op = true ∧ knows L o.op.operands.toList = true := by
 unfold at? at h
 cases ho : os[i]? with
 | none => rw [ho] at h; cases h
 | some o' =>
  rw [ho] at h
  simp only at h
  cases hw : wants os L o' with
  | none => rw [hw] at h; cases h
  | some b =>
   rw [hw] at h
   cases b with
   | false => cases h
   | true =>
    simp only at h
    cases hc : plainOp o'.op && knows L o'.op.operands.toList with
    | false => rw [hc] at h; cases h
    | true =>
     rw [hc] at h
     simp only [cond_true, Option.some.injEq] at h
     subst h
     simp only [Bool.and_eq_true] at hc
     exact ⟨rfl, hw, hc.1, hc.2⟩
def regs (P : Program) (n : Nat) (os : Array Oper) : Nat → Nat → Loc → Option Loc
 | 0, _, L => some L
 | k + 1, i, L => match os[i]? with
  | none => none
  | some o => match wants os L o with
   | none => none
   | some false => match setL n o.dst undef L with
    | some L' => regs P n os k (i + 1) L'
    | none => none
   | some true => match next? P L o with
    | some (.value v) => match setL n o.dst v L with
     | some L' => regs P n os k (i + 1) L'
     | none => none
    | _ => none
def Ops (P : Program) (n : Nat) (os : Array Oper) (i : Nat) (K : Loc → World → Prop) (L : Loc) (w : World) : Prop :=
 ∀ a, Rep n a L → wpOps P os (fun e a' w' => ∃ L', Rep n a' L' ∧ thn K (fun _ _ _ => False) e L' w') (List.range' i (os.size - i)) a w
section
variable {P : Program} {n : Nat} {os : Array Oper} {K : Loc → World → Prop} {L : Loc} {w : World} {i : Nat}
theorem Ops.keep {R : Loc} (hs : restrict L (R.map Prod.fst) = some R) (h : Ops P n os i K R w) : Ops P n os i K L w :=
 fun a ha => h a (ha.sub (restrict_sub hs))
theorem Ops.done (hi : Nat.beq os.size i = true) (h : K L w) : Ops P n os i K L w := by
 intro a ha
 have : os.size - i = 0 := by have := Nat.eq_of_beq_eq_true hi; omega
 rw [this]
 exact ⟨L, ha, h⟩
theorem range'_head {o : Oper} (ho : os[i]? = some o) : List.range' i (os.size - i) = i :: List.range' (i + 1) (os.size - (i + 1)) := by
 have hlt : i < os.size := (Array.getElem?_eq_some_iff.1 ho).1
 have : os.size - i = (os.size - (i + 1)) + 1 := by omega
 rw [this, List.range'_succ]
theorem Ops.cons {o : Oper} (ho : os[i]? = some o) (h : ∀ a, Rep n a L → wpOp P os (fun e a' w' => ∃ L', Rep n a' L' ∧ thn K (fun _ _ _ => False) e L' w') i
  (fun a' w' => ∃ L', Rep n a' L' ∧ Ops P n os (i + 1) K L' w') a w) : Ops P n os i K L w := by
 intro a ha
 rw [range'_head ho, wpOps_cons]
 exact wpOp_mono (fun a' w' ⟨L', r, q⟩ => q a' r) (h a ha)
theorem Ops.unwanted {o : Oper} {L' : Loc} (ho : os[i]? = some o) (hw : wants os L o = some false) (hs : setL n o.dst undef L = some L') (h : Ops P n os (i + 1) K L' w) :
  Ops P n os i K L w := by
 refine Ops.cons ho fun a ha => ?_
 unfold wpOp
 simp only [ho, wants_wanted ha hw, Bool.false_eq_true, if_false]
 exact ⟨L', ha.setL hs, h⟩
theorem Ops.run {o : Oper} {v : Value} {w' : World} {L' : Loc} (ho : at? os L i = some o) (hr : (execOp (ev L) o).run P w = .ok (.value v) w') (hs : setL n o.dst v L = some L')
  (h : Ops P n os (i + 1) K L' w') : Ops P n os i K L w := by
 obtain ⟨h0, hw, hp, hk⟩ := at?_spec ho
 refine Ops.cons h0 fun a ha => ?_
 unfold wpOp
 simp only [h0, wants_wanted ha hw, if_true, Oper.wp, exec_known ha hp hk, hr, Oper.upon]
 exact .inl ⟨L', ha.setL hs, h⟩
theorem Ops.runSkip {o : Oper} {w' : World} {L' : Loc} (ho : at? os L i = some o) (hr : (execOp (ev L) o).run P w = .ok .skip w') (hs : setL n o.dst undef L = some L')
  (h : Ops P n os (i + 1) K L' w') : Ops P n os i K L w := by
 obtain ⟨h0, hw, hp, hk⟩ := at?_spec ho
 refine Ops.cons h0 fun a ha => ?_
 unfold wpOp
 simp only [h0, wants_wanted ha hw, if_true, Oper.wp, exec_known ha hp hk, hr, Oper.upon]
 exact .inl ⟨L', ha.setL hs, h⟩
theorem Ops.regs_go : ∀ (k i : Nat) (L L1 : Loc), regs P n os k i L = some L1 → Ops P n os (i + k) K L1 w → Ops P n os i K L w
 | 0, i, L, L1, h, hn => by simp only [regs, Option.some.injEq] at h; subst h; exact hn
 | k + 1, i, L, L1, h, hn => by
  simp only [regs] at h
  cases ho : os[i]? with
  | none => rw [ho] at h; cases h
  | some o =>
   rw [ho] at h
   simp only at h
   have hn' : Ops P n os (i + 1 + k) K L1 w := by rw [show i + 1 + k = i + (k + 1) from by omega]; exact hn
   cases hw : wants os L o with
   | none => rw [hw] at h; cases h
   | some b =>
    rw [hw] at h
    cases b with
    | false =>
     simp only at h
     cases hs : setL n o.dst undef L with
     | none => rw [hs] at h; cases h
     | some L' => rw [hs] at h; exact Ops.unwanted ho hw hs (Ops.regs_go k (i + 1) L' L1 h hn')
    | true =>
     simp only at h
     cases hx : next? P L o with
     | none => rw [hx] at h; cases h
     | some x =>
      rw [hx] at h
      cases x with
      | value v =>
       simp only at h
       cases hs : setL n o.dst v L with
       | none => rw [hs] at h; cases h
       | some L' =>
        rw [hs] at h
        refine Ops.cons ho fun a ha => ?_
        unfold wpOp
        simp only [ho, wants_wanted ha hw, if_true, Oper.wp, next?_run ha hx, Oper.upon]
        exact .inl ⟨L', ha.setL hs, Ops.regs_go k (i + 1) L' L1 h hn'⟩
      | _ => cases h
theorem Ops.regs {j : Nat} (k : Nat) (R : Loc) (hj : Nat.beq (i + k) j = true) (h : (match Q.regs P n os k i L with | some L1 => restrict L1 (R.map Prod.fst) | none => none) = some R)
  (hn : Ops P n os j K R w) : Ops P n os i K L w := by
 cases h1 : Q.regs P n os k i L with
 | none => rw [h1] at h; cases h
 | some L1 =>
  rw [h1] at h
  have := Nat.eq_of_beq_eq_true hj
  subst this
  exact Ops.regs_go k i L L1 h1 (Ops.keep h hn)
theorem Ops.split (b : Bool) (ht : b = true → Ops P n os i K L w) (hf : b = false → Ops P n os i K L w) : Ops P n os i K L w := by
 cases b
 ·exact hf rfl
 ·exact ht rfl
def call? (P : Program) (os : Array Oper) (L : Loc) (i : Nat) : Option (Nat × Array Value) :=
 match at? os L i with
 | some o => match next? P L o with
  | some (.enter f args) => some (f, args)
  | _ => none
 | none => none
def dst? (os : Array Oper) (i : Nat) : Option (Option Tmp) := match os[i]? with | some o => some o.dst | none => none
theorem Ops.call {f : Nat} {args : Array Value} {R : Ending → World → Prop} {d : Option Tmp} (hc : call? P os L i = some (f, args)) (hd : dst? os i = some d) (C : Calls P f args w R)
  (h : ∀ e w', R e w' → ∃ v L', e = .returned v ∧ setL n d v L = some L' ∧ Ops P n os (i + 1) K L' w') : Ops P n os i K L w := by
 unfold call? at hc
 cases h0 : at? os L i with
 | none => rw [h0] at hc; cases hc
 | some o =>
  rw [h0] at hc
  simp only at hc
  cases hx : next? P L o with
  | none => rw [hx] at hc; cases hc
  | some x =>
   rw [hx] at hc
   cases x with
   | enter f' args' =>
    simp only [Option.some.injEq, Prod.mk.injEq] at hc
    obtain ⟨rfl, rfl⟩ := hc
    obtain ⟨ho, hw, _, _⟩ := at?_spec h0
    have hd' : o.dst = d := by simpa [dst?, ho] using hd
    refine Ops.cons ho fun a ha => ?_
    unfold wpOp
    simp only [ho, wants_wanted ha hw, if_true, Oper.wp, next?_run ha hx, Oper.upon]
    refine .inl (Calls.mono C fun e w' he => ?_)
    obtain ⟨v, L', rfl, hs, hn⟩ := h e w' he
    rw [hd']
    exact ⟨L', ha.setL hs, hn⟩
   | _ => cases hc
end
section
variable {P : Program} {n : Nat} {Q : Exit → Loc → World → Prop} {L : Loc} {w : World} {f : Func} {p : List Nat}
theorem q_region (hc : isRegion (cd f p) = true) (h : Ops P n (opsOf (cd f p)) 0 (Q .normal) L w) : wp P n (cd f p) Q L w := by
 intro a ha
 cases e : cd f p with
 | region id os dr =>
  rw [e] at hc h
  cases dr with
  | true => cases hc
  | false =>
   refine Go.wp_region ?_
   have h1 := h a ha
   simp only [opsOf] at h1
   rw [List.range_eq_range']
   have hm : ∀ (l : List Nat) (a : Act) (w : World), wpOps P os (fun e a' w' => ∃ L', Rep n a' L' ∧ thn (Q .normal) (fun _ _ _ => False) e L' w') l a w →
     wpOps P os (fun e a' w' => ∃ L', Rep n a' L' ∧ Q e L' w') l a w := by
    have hq : ∀ e a' w', (∃ L', Rep n a' L' ∧ thn (Q .normal) (fun _ _ _ => False) e L' w') → (∃ L', Rep n a' L' ∧ Q e L' w') := by
     rintro e a' w' ⟨L', r, q⟩
     cases e with
     | normal => exact ⟨L', r, q⟩
     | _ => exact q.elim
    intro l
    induction l with
    | nil => intro a w hh; exact hq _ _ _ hh
    | cons j l ih =>
     intro a w hh
     rw [wpOps_cons] at hh ⊢
     have h2 := wpOp_mono (ih) hh
     unfold wpOp at h2 ⊢
     split
     ·rename_i ho; simp only [ho] at h2; exact h2
     ·rename_i o ho
      simp only [ho] at h2
      split
      ·rename_i hw
       simp only [hw, if_true] at h2
       rcases h2 with h2 | ⟨h2, h3⟩
       ·left
        unfold Oper.wp at *
        generalize (execOp a.eval o).run P w = r at *
        cases r with
        | ok x w' =>
         cases x <;> simp only [Oper.upon] at h2 ⊢ <;> first
          | exact h2
          | exact Calls.mono h2 (fun e w'' he => by
            cases e with
            | returned _ => exact he
            | panicked _ => exact hq _ _ _ he
            | outgrown => obtain ⟨a0, w0, h0⟩ := he; exact ⟨a0, w0, hq _ _ _ h0⟩)
          | exact Rows.mono h2 (fun _ _ he => he)
        | halt x w' => cases x <;> simp only [Oper.upon] at h2 ⊢ <;> first | exact h2 | exact hq _ _ _ h2
       ·right
        obtain ⟨a0, w0, h0⟩ := h3
        exact ⟨h2, a0, w0, hq _ _ _ h0⟩
      ·rename_i hw; simp only [hw] at h2; exact h2
   exact hm _ _ _ h1
 | _ => rw [e] at hc; cases hc
end
end Go.Q
namespace Go.Q
open Go.RowKit
abbrev rowL (xs : List Value) (E : TypeId) : Obj := .cells ⟨xs⟩ E (0, 0)
abbrev ptr (b : Nat) : Value := .pointer (some ⟨b, 0, none⟩)
abbrev i64 (x : Int) : Value := .int .i64 x
abbrev agg (xs : List Value) : Value := .agg ⟨xs⟩
def Has (w : World) (b : Nat) (o : Obj) : Prop := w.heap[b]? = some o
structure Keeps (S : Nat → Prop) (w w' : World) : Prop where
 os : w'.os = w.os
 tape : w'.tape = w.tape
 output : w'.output = w.output
 size : w.heap.size ≤ w'.heap.size
 blk : ∀ i, i < w.heap.size → ¬ S i → w'.heap[i]? = w.heap[i]?
abbrev none_ : Nat → Prop := fun _ => False
theorem Has.lt {w : World} {b : Nat} {o : Obj} (h : Has w b o) : b < w.heap.size := by
 rcases Nat.lt_or_ge b w.heap.size with hlt | hge
 ·exact hlt
 ·unfold Has at h; rw [Array.getElem?_eq_none hge] at h; cases h
theorem Has.keep {S : Nat → Prop} {w w' : World} {b : Nat} {o : Obj} (h : Has w b o) (k : Keeps S w w') (hb : ¬ S b) : Has w' b o :=
 (k.blk b h.lt hb).trans h
theorem Keeps.refl (w : World) : Keeps none_ w w := ⟨rfl, rfl, rfl, Nat.le_refl _, fun _ _ _ => rfl⟩
theorem Keeps.trans {S T U : Nat → Prop} {a b c : World} (h : Keeps S a b) (k : Keeps T b c) (hS : ∀ i, i < a.heap.size → S i → U i) (hT : ∀ i, i < a.heap.size → T i → U i) : Keeps U a c :=
 ⟨k.os.trans h.os, k.tape.trans h.tape, k.output.trans h.output, Nat.le_trans h.size k.size,
  fun i hi hn => (k.blk i (Nat.lt_of_lt_of_le hi h.size) (fun ht => hn (hT i hi ht))).trans (h.blk i hi (fun hs => hn (hS i hi hs)))⟩
theorem Keeps.mono {S U : Nat → Prop} {a b : World} (h : Keeps S a b) (hS : ∀ i, i < a.heap.size → S i → U i) : Keeps U a b :=
 ⟨h.os, h.tape, h.output, h.size, fun i hi hn => h.blk i hi (fun hs => hn (hS i hi hs))⟩
theorem Keeps.drew {S : Nat → Prop} {a b : World} (h : Keeps S a b) : Keeps S a { b with drawn := b.drawn + 1 } := ⟨h.os, h.tape, h.output, h.size, h.blk⟩
theorem Keeps.alloc (w : World) (o : Obj) : Keeps none_ w (w.alloc o) :=
 ⟨rfl, rfl, rfl, by simp, fun i hi _ => heap_alloc_old w o i hi⟩
theorem Keeps.setRow (w : World) (b : Nat) (cs : Array Value) : Keeps (fun i => i = b) w (w.setRow b cs) :=
 ⟨rfl, rfl, rfl, by simp, fun i _ hn => setRow_other w b i cs hn⟩
theorem Keeps.of_grown {w w' : World} {row : Option Nat} (h : w.grownBy w' row) : Keeps (fun i => some i = row) w w' := ⟨h.os, h.tape, h.output, h.size, h.block⟩
theorem Keeps.below {w w' : World} (h : Keeps none_ w w') : Below w.heap.size w w' := ⟨h.os, h.tape, h.output, h.size, fun k hk => h.blk k hk (fun h => h)⟩
theorem Keeps.of_below {w w' : World} (h : Below w.heap.size w w') : Keeps none_ w w' := ⟨h.os, h.tape, h.output, h.size, fun k hk _ => h.block k hk⟩
theorem Keeps.cell {S : Nat → Prop} {w w' : World} (h : Keeps S w w') {a : Addr} {v : Value} (hc : w.cell? a = some v) (hn : ¬ S a.block) : w'.cell? a = some v :=
 (World.cell?_of_block (h.blk a.block (World.block_lt_of_cell? w a hc) hn)).trans hc
theorem Has.new (w : World) (o : Obj) : Has (w.alloc o) w.heap.size o := heap_alloc_new w o
theorem Has.set {w : World} {b : Nat} {xs : List Value} {E : TypeId} (h : Has w b (rowL xs E)) (ys : List Value) : Has (w.setRow b ⟨ys⟩) b (rowL ys E) :=
 setRow_heap w b ⟨xs⟩ ⟨ys⟩ E (0, 0) h
theorem Has.cell {w : World} {b : Nat} {xs : List Value} {E : TypeId} (h : Has w b (rowL xs E)) (j : Nat) : w.cell? ⟨b, j, none⟩ = xs[j]? := by
 have := cell_of_row w b j ⟨xs⟩ E (0, 0) h
 simpa using this
theorem add_plain (b o j : Nat) : (⟨b, o, none⟩ : Addr).add j = ⟨b, o + j, none⟩ := by unfold Addr.add; split <;> simp_all
def Loads (P : Program) (w : World) (t : TypeId) (a : Addr) (v : Value) : Prop := (loadVar t a).run P w = .ok v w
def isAgg? (P : Program) (t : TypeId) : Option Bool :=
 match P.underlying t with
 | some (.struct _) | some (.array _ _) => some true
 | some _ => some false
 | none => none
def size? (P : Program) (t : TypeId) : Option Nat := match P.info? t with | some i => some i.size | none => none
theorem run_isAgg {P : Program} {t : TypeId} {b : Bool} (h : isAgg? P t = some b) (w : World) : (isAgg t).run P w = .ok b w := by
 unfold isAgg? at h
 unfold isAgg
 cases hu : P.underlying t with
 | none => rw [hu] at h; cases h
 | some d =>
  rw [hu] at h
  rw [Sem.run_bind, run_underlying hu w]
  cases d <;> simp_all
theorem run_size {P : Program} {t : TypeId} {s : Nat} (h : size? P t = some s) (w : World) : (sizeOf t).run P w = .ok s w := by
 unfold size? at h
 cases hi : P.info? t with
 | none => rw [hi] at h; cases h
 | some i =>
  rw [hi] at h
  simp only [Option.some.injEq] at h
  simp [sizeOf, typeInfo, hi, h]
theorem loads_one {P : Program} {w : World} {t : TypeId} {a : Addr} {v : Value} (ht : isAgg? P t = some false) (hc : w.cell? a = some v) : Loads P w t a v := by
 simp [Loads, loadVar, Sem.run_bind, run_isAgg ht, run_load, hc]
theorem loads_agg {P : Program} {w : World} {t : TypeId} {a : Addr} {vs : List Value} (ht : isAgg? P t = some true) (hs : size? P t = some vs.length)
  (hc : ∀ j u, vs[j]? = some u → w.cell? (a.add j) = some u) : Loads P w t a (agg vs) := by
 have hl := run_loadCells_list (P := P) w a vs hc
 simp [Loads, loadVar, Sem.run_bind, run_isAgg ht, run_size hs, hl]
def loadC (P : Program) (t : TypeId) (xs : List Value) (off : Nat) : Option Value :=
 match isAgg? P t with
 | some false => xs[off]?
 | some true => match size? P t with
  | some s => bif Nat.ble (off + s) xs.length then some (agg ((xs.drop off).take s)) else none
  | none => none
 | none => none
theorem Has.loads {P : Program} {w : World} {b : Nat} {xs : List Value} {E t : TypeId} {off : Nat} {v : Value} (H : Has w b (rowL xs E)) (h : loadC P t xs off = some v) : Loads P w t ⟨b, off, none⟩ v := by
 unfold loadC at h
 cases ha : isAgg? P t with
 | none => rw [ha] at h; cases h
 | some x =>
  rw [ha] at h
  cases x with
  | false => exact loads_one ha ((H.cell off).trans h)
  | true =>
   simp only at h
   cases hs : size? P t with
   | none => rw [hs] at h; cases h
   | some s =>
    rw [hs] at h
    simp only at h
    cases hb : Nat.ble (off + s) xs.length with
    | false => rw [hb] at h; cases h
    | true =>
     rw [hb] at h
     simp only [cond_true, Option.some.injEq] at h
     subst h
     have hle := Nat.le_of_ble_eq_true hb
     refine loads_agg ha ?_ fun j u hu => ?_
     ·rw [hs]; simp; omega
     ·rw [add_plain, H.cell]
      rw [List.getElem?_take] at hu
      split at hu
      ·rw [List.getElem?_drop] at hu; exact hu
      ·cases hu
theorem Loads.keep {P : Program} {w w' : World} {t : TypeId} {b off : Nat} {v : Value} {xs : List Value} {E : TypeId} (H : Has w b (rowL xs E)) (h : loadC P t xs off = some v) {S : Nat → Prop} (k : Keeps S w w') (hn : ¬ S b) : Loads P w' t ⟨b, off, none⟩ v :=
 (H.keep k hn).loads h
def oneCells : List Value → Bool
 | [] => true
 | v :: vs => v.oneCell' && oneCells vs
theorem oneCells_mem : ∀ {vs : List Value}, oneCells vs = true → ∀ v ∈ vs, v.oneCell' = true
 | [], _, v, h => by cases h
 | u :: us, hb, v, h => by
  simp only [oneCells, Bool.and_eq_true] at hb
  rcases List.mem_cons.1 h with rfl | h
  ·exact hb.1
  ·exact oneCells_mem hb.2 v h
def storeC (P : Program) (t : TypeId) (xs : List Value) (off : Nat) (v : Value) : Option (List Value) :=
 match size? P t with
 | some s => bif Nat.beq v.cells.toList.length s && (Nat.ble (off + s) xs.length && oneCells v.cells.toList) then some (xs.take off ++ v.cells.toList ++ xs.drop (off + s)) else none
 | none => none
theorem Has.stores {P : Program} {w : World} {b : Nat} {xs ys : List Value} {E t : TypeId} {off : Nat} {v : Value} (H : Has w b (rowL xs E)) (h : storeC P t xs off v = some ys) :
  (storeVar t ⟨b, off, none⟩ v).run P w = .ok () (w.setRow b ⟨ys⟩) := by
 unfold storeC at h
 cases hs : size? P t with
 | none => rw [hs] at h; cases h
 | some s =>
  rw [hs] at h
  simp only at h
  cases hb : Nat.beq v.cells.toList.length s && (Nat.ble (off + s) xs.length && oneCells v.cells.toList) with
  | false => rw [hb] at h; cases h
  | true =>
   rw [hb] at h
   simp only [cond_true, Option.some.injEq] at h
   simp only [Bool.and_eq_true] at hb
   obtain ⟨h1, h2, h3⟩ := hb
   have h1 := Nat.eq_of_beq_eq_true h1
   have h2 := Nat.le_of_ble_eq_true h2
   have hst := run_storeCells_at P b off E v.cells.toList 0 ⟨xs⟩ w H (by simp at h1 ⊢; omega) (oneCells_mem h3)
   subst h
   unfold storeVar
   simp only [Sem.run_bind, run_size hs, Result.andThen_ok]
   have h1' : v.cells.size = s := by simpa using h1
   simp only [h1', ne_eq, not_true, if_false]
   rw [hst]
   simp [h1']
def load? (os : Array Oper) (L : Loc) (i : Nat) : Option (TypeId × Addr) :=
 match at? os L i with
 | some o => match o.op with
  | .load t x => match ev L x with
   | .pointer (some a) => some (t, a)
   | _ => none
  | _ => none
 | none => none
def store? (os : Array Oper) (L : Loc) (i : Nat) : Option (TypeId × Addr × Value) :=
 match at? os L i with
 | some o => match o.op with
  | .store t x y => match ev L x with
   | .pointer (some a) => some (t, a, ev L y)
   | _ => none
  | _ => none
 | none => none
def new? (P : Program) : Sem Next → Option (Obj × (Nat → Option Value))
 | .new o k => some (o, fun r => match pure? P (k r) with | some (.value v) => some v | _ => none)
 | .program k => new? P (k P)
 | .mark _ k => new? P k
 | _ => none
theorem new?_run {P : Program} : ∀ (s : Sem Next) {o : Obj} {V : Nat → Option Value} {v : Value} (w : World), new? P s = some (o, V) → V w.heap.size = some v → s.run P w = .ok (.value v) (w.alloc o)
 | .new o' k, o, V, v, w, h, hv => by
  simp only [new?, Option.some.injEq, Prod.mk.injEq] at h
  obtain ⟨rfl, rfl⟩ := h
  simp only at hv
  cases hp : pure? P (k w.heap.size) with
  | none => rw [hp] at hv; cases hv
  | some x =>
   rw [hp] at hv
   cases x <;> simp only [Option.some.injEq] at hv <;> first | cases hv | skip
   exact pure?_run _ hp _
 | .program k, o, V, v, w, h, hv => by simp only [new?] at h; exact new?_run (k P) w h hv
 | .mark m k, o, V, v, w, h, hv => by simp only [new?] at h; simp only [Sem.run]; exact new?_run k w h hv
 | .pure .., _, _, _, _, h, _ | .load .., _, _, _, _, h, _ | .store .., _, _, _, _, h, _ | .shape .., _, _, _, _, h, _ | .freeze .., _, _, _, _, h, _ | .frozen .., _, _, _, _, h, _
 | .getObj .., _, _, _, _, h, _ | .setObj .., _, _, _, _, h, _ | .choose .., _, _, _, _, h, _ | .sys .., _, _, _, _, h, _ | .halt .., _, _, _, _, h, _ => by cases h
def newAt? (P : Program) (os : Array Oper) (L : Loc) (i : Nat) : Option (Obj × (Nat → Option Value)) :=
 match at? os L i with
 | some o => new? P (execOp (ev L) o)
 | none => none
section
variable {P : Program} {n : Nat} {os : Array Oper} {K : Loc → World → Prop} {L L' : Loc} {w : World} {i : Nat} {d : Option Tmp}
theorem Ops.load {t : TypeId} {a : Addr} {v : Value} (h : load? os L i = some (t, a)) (hd : dst? os i = some d) (hl : Loads P w t a v) (hs : setL n d v L = some L')
  (hn : Ops P n os (i + 1) K L' w) : Ops P n os i K L w := by
 unfold load? at h
 cases h0 : at? os L i with
 | none => rw [h0] at h; cases h
 | some o =>
  rw [h0] at h
  simp only at h
  have hd' : o.dst = d := by have := (at?_spec h0).1; simpa [dst?, this] using hd
  cases ho : o.op with
  | load t' x =>
   rw [ho] at h
   simp only at h
   cases hx : ev L x with
   | pointer p =>
    rw [hx] at h
    cases p with
    | none => cases h
    | some a' =>
     simp only [Option.some.injEq, Prod.mk.injEq] at h
     obtain ⟨rfl, rfl⟩ := h
     refine Ops.run h0 (v := v) (w' := w) ?_ (by rw [hd']; exact hs) hn
     unfold execOp
     unfold Loads at hl
     simp only [ho, hx, Instr.loadAt, Instr.sureAddr, Sem.run_bind, Sem.run_pure, Result.andThen_ok, hl]
   | _ => rw [hx] at h; cases h
  | _ => rw [ho] at h; cases h
theorem Ops.store {t : TypeId} {b off : Nat} {v : Value} {xs ys : List Value} {E : TypeId} (h : store? os L i = some (t, ⟨b, off, none⟩, v)) (hd : dst? os i = some d) (H : Has w b (rowL xs E))
  (hst : storeC P t xs off v = some ys) (hs : setL n d undef L = some L')
  (hn : ∀ w', Has w' b (rowL ys E) → Keeps (fun j => j = b) w w' → Ops P n os (i + 1) K L' w') : Ops P n os i K L w := by
 unfold store? at h
 cases h0 : at? os L i with
 | none => rw [h0] at h; cases h
 | some o =>
  rw [h0] at h
  simp only at h
  have hd' : o.dst = d := by have := (at?_spec h0).1; simpa [dst?, this] using hd
  cases ho : o.op with
  | store t' x y =>
   rw [ho] at h
   simp only at h
   cases hx : ev L x with
   | pointer p =>
    rw [hx] at h
    cases p with
    | none => cases h
    | some a' =>
     simp only [Option.some.injEq, Prod.mk.injEq] at h
     obtain ⟨rfl, rfl, hv⟩ := h
     refine Ops.runSkip h0 (w' := w.setRow b ⟨ys⟩) ?_ (by rw [hd']; exact hs) (hn _ (H.set ys) (Keeps.setRow w b ⟨ys⟩))
     unfold execOp
     simp only [ho, hx, hv, Instr.storeAt, Instr.sureAddr, Sem.run_bind, Sem.run_pure, Result.andThen_ok, H.stores hst]
   | _ => rw [hx] at h; cases h
  | _ => rw [ho] at h; cases h
theorem Ops.new {o : Obj} {V : Nat → Value} {Ln : Nat → Loc} (h : newAt? P os L i = some (o, fun b => some (V b))) (hd : dst? os i = some d) (hs : ∀ b, setL n d (V b) L = some (Ln b))
  (hn : ∀ b w', b = w.heap.size → Has w' b o → Keeps none_ w w' → w'.heap.size = b + 1 → Ops P n os (i + 1) K (Ln b) w') : Ops P n os i K L w := by
 unfold newAt? at h
 cases h0 : at? os L i with
 | none => rw [h0] at h; cases h
 | some o' =>
  rw [h0] at h
  simp only at h
  have hd' : o'.dst = d := by have := (at?_spec h0).1; simpa [dst?, this] using hd
  exact Ops.run h0 (new?_run _ w h rfl) (by rw [hd']; exact hs _) (hn w.heap.size _ rfl (Has.new w o) (Keeps.alloc w o) (by simp))
theorem Ops.does {o : Oper} {v : Value} {w' : World} (h0 : at? os L i = some o) (hr : (execOp (ev L) o).run P w = .ok (.value v) w') (hd : dst? os i = some d) (hs : setL n d v L = some L')
  (hn : Ops P n os (i + 1) K L' w') : Ops P n os i K L w := by
 have hd' : o.dst = d := by have := (at?_spec h0).1; simpa [dst?, this] using hd
 exact Ops.run h0 hr (by rw [hd']; exact hs) hn
end
theorem retv_cell {P : Program} {fn : Func} {w : World} {L : Loc} {t : Tmp} {ty : TypeId} {a : Addr} {v : Value} (h : fn.results = #[.cell t ty]) (hv : lk L t = some (.pointer (some a))) (hl : Loads P w ty a v) : retv P fn w v L := by
 intro tmps ht
 have := ht t _ hv
 unfold Loads at hl
 simp [results, h, this, asAddr, hl]
theorem retv_cell_tmp {P : Program} {fn : Func} {w : World} {L : Loc} {t t' : Tmp} {ty : TypeId} {a : Addr} {v v' : Value} (h : fn.results = #[.cell t ty, .tmp t']) (hv : lk L t = some (.pointer (some a))) (hl : Loads P w ty a v)
  (hv' : lk L t' = some v') : retv P fn w (.tuple #[v, v']) L := by
 intro tmps ht
 have := ht t _ hv
 have h2 := ht t' _ hv'
 unfold Loads at hl
 simp [results, h, this, asAddr, hl, h2]
end Go.Q
namespace Go.Q
open Go.RowKit
def opn (os : Array Oper) (i : Nat) : Oper := match os[i]? with | some o => o | none => default
def okAt (os : Array Oper) (L : Loc) (i : Nat) : Bool := match at? os L i with | some _ => true | none => false
theorem at?_opn {os : Array Oper} {L : Loc} {i : Nat} (h : okAt os L i = true) : at? os L i = some (opn os i) := by
 unfold okAt at h
 cases h0 : at? os L i with
 | none => rw [h0] at h; cases h
 | some o => have := (at?_spec h0).1; simp [opn, this]
def Runs (P : Program) (L : Loc) (o : Oper) (w : World) (v : Value) (w' : World) : Prop := (execOp (ev L) o).run P w = .ok (.value v) w'
def RunsU (P : Program) (L : Loc) (o : Oper) (w : World) (w' : World) : Prop := (execOp (ev L) o).run P w = .ok .skip w'
section
variable {P : Program} {L : Loc} {o : Oper} {w w' : World} {v : Value}
theorem Runs.pure (h : next? P L o = some (.value v)) : Runs P L o w v w := by
 unfold next? at h
 cases hc : plainOp o.op && knows L o.op.operands.toList with
 | false => rw [hc] at h; cases h
 | true => rw [hc] at h; exact pure?_run _ h w
def ld? (L : Loc) (o : Oper) : Option (TypeId × Addr) :=
 match o.op with
 | .load t x => match ev L x with
  | .pointer (some a) => some (t, a)
  | _ => none
 | _ => none
theorem Runs.load {t : TypeId} {a : Addr} (h : ld? L o = some (t, a)) (hl : Loads P w t a v) : Runs P L o w v w := by
 unfold ld? at h
 cases ho : o.op with
 | load t' x =>
  rw [ho] at h
  simp only at h
  cases hx : ev L x with
  | pointer p =>
   rw [hx] at h
   cases p with
   | none => cases h
   | some a' =>
    simp only [Option.some.injEq, Prod.mk.injEq] at h
    obtain ⟨rfl, rfl⟩ := h
    unfold Loads at hl
    unfold Runs execOp
    simp only [ho, hx, Instr.loadAt, Instr.sureAddr, Sem.run_bind, Sem.run_pure, Result.andThen_ok, hl]
  | _ => rw [hx] at h; cases h
 | _ => rw [ho] at h; cases h
def st? (L : Loc) (o : Oper) : Option (TypeId × Addr × Value) :=
 match o.op with
 | .store t x y => match ev L x with
  | .pointer (some a) => some (t, a, ev L y)
  | _ => none
 | _ => none
theorem RunsU.store {t : TypeId} {a : Addr} {u : Value} (h : st? L o = some (t, a, u)) (hr : (storeVar t a u).run P w = .ok () w') : RunsU P L o w w' := by
 unfold st? at h
 cases ho : o.op with
 | store t' x y =>
  rw [ho] at h
  simp only at h
  cases hx : ev L x with
  | pointer p =>
   rw [hx] at h
   cases p with
   | none => cases h
   | some a' =>
    simp only [Option.some.injEq, Prod.mk.injEq] at h
    obtain ⟨rfl, rfl, hv⟩ := h
    unfold RunsU execOp
    simp only [ho, hx, hv, Instr.storeAt, Instr.sureAddr, Sem.run_bind, Sem.run_pure, Result.andThen_ok, hr]
  | _ => rw [hx] at h; cases h
 | _ => rw [ho] at h; cases h
def bin? (L : Loc) (o : Oper) : Option (BinOp × TypeId × Value × Value) :=
 match o.op with
 | .binOp op t x y _ => some (op, t, ev L x, ev L y)
 | _ => none
theorem Runs.int {op : BinOp} {t : TypeId} {k k' : IntKind} {x y : Int} (h : bin? L o = some (op, t, .int k x, .int k' y)) (hr : (binOp op t (.int k x) (.int k' y)).run P w = .ok v w) : Runs P L o w v w := by
 unfold bin? at h
 cases ho : o.op with
 | binOp op' t' x' y' t2 =>
  rw [ho] at h
  simp only [Option.some.injEq, Prod.mk.injEq] at h
  obtain ⟨rfl, rfl, hx, hy⟩ := h
  unfold Runs execOp
  have hg : (eqGuard op' t' x' y' (Value.int k x) (Value.int k' y)).run P w = .ok () w := by
   unfold eqGuard; cases op' <;> simp [Sem.run_pure]
  simp only [ho, hx, hy, Sem.run_bind, hg, Result.andThen_ok, hr, Sem.run_pure]
 | _ => rw [ho] at h; cases h
def ix? (L : Loc) (o : Oper) : Option (TypeId × Value × Value) :=
 match o.op with
 | .indexAddr t x y => some (t, ev L x, ev L y)
 | _ => none
def sliceElem? (P : Program) (t : TypeId) : Option Nat := match P.underlying t with | some (.slice e) => size? P e | _ => none
def arrayElem? (P : Program) (t : TypeId) : Option (Nat × Nat) := match P.underlying t with | some (.array n e) => (match size? P e with | some s => some (n, s) | none => none) | _ => none
theorem Runs.ixSlice {t : TypeId} {b off len cap s off' : Nat} {k : IntKind} {i : Int} (h : ix? L o = some (t, .slice (some ⟨b, off, none⟩) len cap, .int k i)) (hs : sliceElem? P t = some s)
  (h0 : 0 ≤ i) (h1 : i < len) (ho : off + i.toNat * s = off') : Runs P L o w (.pointer (some ⟨b, off', none⟩)) w := by
 unfold ix? at h
 unfold sliceElem? at hs
 cases hop : o.op with
 | indexAddr t' x y =>
  rw [hop] at h
  simp only [Option.some.injEq, Prod.mk.injEq] at h
  obtain ⟨rfl, hx, hy⟩ := h
  cases hu : P.underlying t' with
  | none => rw [hu] at hs; cases hs
  | some d =>
   rw [hu] at hs
   cases d with
   | slice e =>
    simp only at hs
    unfold Runs execOp
    simp only [hop, hx, hy, Instr.indexAt, Sem.run_bind, Sem.run_pure, Result.andThen_ok, asIntOf, run_underlying hu]
    rw [if_pos ⟨h0, h1⟩]
    simp only [Sem.run_bind, run_size hs, Result.andThen_ok, Sem.run_pure, add_plain, ho]
   | _ => cases hs
 | _ => rw [hop] at h; cases h
end
section
variable {P : Program} {n : Nat} {os : Array Oper} {K : Loc → World → Prop} {L L' : Loc} {w : World} {i : Nat} {d : Option Tmp}
theorem Ops.go {v : Value} {w' : World} (h0 : okAt os L i = true) (hr : Runs P L (opn os i) w v w') (hd : dst? os i = some d) (hs : setL n d v L = some L')
  (hn : Ops P n os (i + 1) K L' w') : Ops P n os i K L w :=
 Ops.does (at?_opn h0) hr hd hs hn
theorem Ops.goU {w' : World} (h0 : okAt os L i = true) (hr : RunsU P L (opn os i) w w') (hd : dst? os i = some d) (hs : setL n d undef L = some L')
  (hn : Ops P n os (i + 1) K L' w') : Ops P n os i K L w := by
 have h1 := at?_opn h0
 have hd' : (opn os i).dst = d := by have := (at?_spec h1).1; simpa [dst?, this] using hd
 exact Ops.runSkip h1 hr (by rw [hd']; exact hs) hn
end
def marks (n : Nat) : List Nat → Array Bool
 | [] => Array.replicate n false
 | i :: is => (marks n is).setIfInBounds i true
def drPost (n : Nat) (K : Loc → World → Prop) : Exit → Act → World → Prop := fun e a w => ∃ L, Rep n a L ∧ thn K (fun _ _ _ => False) e L w
def Dr (P : Program) (n : Nat) (os : Array Oper) (S : World → Prop) (fuel : Nat) (is : List Nat) (K : Loc → World → Prop) (L : Loc) (w : World) : Prop :=
 S w → ∀ a, Rep n a L → wpAnyH P .any os (drPost n K) S fuel (marks os.size is) a w
theorem wpAnyH_mono {P : Program} {md : Region.Mode} {os : Array Oper} {Q : Exit → Act → World → Prop} {S S' : World → Prop} (hS : ∀ w, S' w → S w) :
  ∀ (fuel : Nat) (listed : Array Bool) (a : Act) (w : World), wpAnyH P md os Q S' fuel listed a w → wpAnyH P md os Q S fuel listed a w
 | 0, _, _, _, h => h
 | fuel + 1, _, _, _, h => ⟨h.1, fun i hi => wpOp_mono (fun a' w' h' => ⟨hS _ h'.1, wpAnyH_mono hS fuel _ a' w' h'.2⟩) (h.2 i hi)⟩
def takeOk (os : Array Oper) (is : List Nat) (i : Nat) : Bool :=
 Region.noSelect os && (Region.free .any os (marks os.size is) i && (Region.ready .any os (marks os.size is)).contains i)
section
variable {P : Program} {n : Nat} {os : Array Oper} {K : Loc → World → Prop} {L L' : Loc} {w : World} {i : Nat} {d : Option Tmp} {S : World → Prop} {fuel : Nat} {is : List Nat}
theorem Dr.keep {R : Loc} (hs : restrict L (R.map Prod.fst) = some R) (h : Dr P n os S fuel is K R w) : Dr P n os S fuel is K L w :=
 fun hS a ha => h hS a (ha.sub (restrict_sub hs))
theorem Dr.strong {S' : World → Prop} (hS' : S' w) (hS : ∀ w, S' w → S w) (h : Dr P n os S' fuel is K L w) : Dr P n os S fuel is K L w :=
 fun _ a ha => wpAnyH_mono hS _ _ _ _ (h hS' a ha)
theorem Dr.take {v : Value} (hk : takeOk os is i = true) (h0 : okAt os L i = true) (hr : ∀ w', S w' → Runs P L (opn os i) w' v w') (hd : dst? os i = some d) (hs : setL n d v L = some L')
  (hn : Dr P n os S fuel (i :: is) K L' w) : Dr P n os S (fuel + 1) is K L w := by
 intro hS a ha
 have h1 := at?_opn h0
 obtain ⟨ho, hw, hp, hkn⟩ := at?_spec h1
 simp only [takeOk, Bool.and_eq_true] at hk
 obtain ⟨hk1, hk2, hk3⟩ := hk
 have hd' : (opn os i).dst = d := by simpa [dst?, ho] using hd
 refine wpAnyH_take (v := v) ho hk1 hk2 hk3 (fun c a w h => by obtain ⟨_, _, q⟩ := h; exact q.elim) (.inl ⟨wants_wanted ha hw, fun w' hw' => ?_⟩) hS ?_
 ·rw [exec_known ha hp hkn]; exact hr w' hw'
 ·have hrep : Rep n (a.put (opn os i).dst v) L' := ha.setL (by rw [hd']; exact hs)
  exact hn hS _ hrep
theorem Dr.unwanted (hk : takeOk os is i = true) (hw : (match os[i]? with | some o => wants os L o | none => none) = some false) (hd : dst? os i = some d) (hs : setL n d undef L = some L')
  (hn : Dr P n os S fuel (i :: is) K L' w) : Dr P n os S (fuel + 1) is K L w := by
 intro hS a ha
 cases ho : os[i]? with
 | none => rw [ho] at hw; cases hw
 | some o =>
  rw [ho] at hw
  simp only at hw
  simp only [takeOk, Bool.and_eq_true] at hk
  obtain ⟨hk1, hk2, hk3⟩ := hk
  have hd' : o.dst = d := by simpa [dst?, ho] using hd
  refine wpAnyH_take (v := undef) ho hk1 hk2 hk3 (fun c a w h => by obtain ⟨_, _, q⟩ := h; exact q.elim) (.inr ⟨wants_wanted ha hw, rfl⟩) hS ?_
  exact hn hS _ (ha.setL (by rw [hd']; exact hs))
def takes (P : Program) (n : Nat) (os : Array Oper) : List Nat → List Nat → Loc → Option Loc
 | [], _, L => some L
 | i :: todo, is, L => bif takeOk os is i then
   match os[i]? with
   | none => none
   | some o => match wants os L o with
    | none => none
    | some false => match setL n o.dst undef L with
     | some L' => takes P n os todo (i :: is) L'
     | none => none
    | some true => match next? P L o with
     | some (.value v) => match setL n o.dst v L with
      | some L' => takes P n os todo (i :: is) L'
      | none => none
     | _ => none
  else none
theorem Dr.takes_go : ∀ (todo is : List Nat) (fuel : Nat) (L L1 : Loc), takes P n os todo is L = some L1 → Dr P n os S fuel (todo.reverse ++ is) K L1 w → Dr P n os S (fuel + todo.length) is K L w
 | [], is, fuel, L, L1, h, hn => by simp only [takes, Option.some.injEq] at h; subst h; simpa using hn
 | i :: todo, is, fuel, L, L1, h, hn => by
  simp only [takes] at h
  cases hk : takeOk os is i with
  | false => rw [hk] at h; cases h
  | true =>
   rw [hk] at h
   simp only [cond_true] at h
   have hn' : Dr P n os S fuel (todo.reverse ++ (i :: is)) K L1 w := by simpa using hn
   cases ho : os[i]? with
   | none => rw [ho] at h; cases h
   | some o =>
    rw [ho] at h
    simp only at h
    have hd : dst? os i = some o.dst := by simp [dst?, ho]
    rw [show fuel + (i :: todo).length = (fuel + todo.length) + 1 from by simp; omega]
    cases hw : wants os L o with
    | none => rw [hw] at h; cases h
    | some b =>
     rw [hw] at h
     cases b with
     | false =>
      simp only at h
      cases hs : setL n o.dst undef L with
      | none => rw [hs] at h; cases h
      | some L' => rw [hs] at h; exact Dr.unwanted hk (by rw [ho]; exact hw) hd hs (Dr.takes_go todo (i :: is) fuel L' L1 h hn')
     | true =>
      simp only at h
      cases hx : next? P L o with
      | none => rw [hx] at h; cases h
      | some x =>
       rw [hx] at h
       cases x with
       | value v =>
        simp only at h
        cases hs : setL n o.dst v L with
        | none => rw [hs] at h; cases h
        | some L' =>
         rw [hs] at h
         have hop : opn os i = o := by simp [opn, ho]
         have hok : okAt os L i = true := by
          unfold next? at hx
          cases hc : plainOp o.op && knows L o.op.operands.toList with
          | false => rw [hc] at hx; cases hx
          | true => simp [okAt, at?, ho, hw, hc]
         exact Dr.take hk hok (fun w' _ => by rw [hop]; exact Runs.pure hx) hd hs (Dr.takes_go todo (i :: is) fuel L' L1 h hn')
       | _ => cases h
theorem Dr.takes {fuel' : Nat} {is' : List Nat} (todo : List Nat) (R : Loc) (hf : Nat.beq (fuel' + todo.length) fuel = true) (hi : todo.reverse ++ is = is')
  (h : (match Q.takes P n os todo is L with | some L1 => restrict L1 (R.map Prod.fst) | none => none) = some R) (hn : Dr P n os S fuel' is' K R w) : Dr P n os S fuel is K L w := by
 cases h1 : Q.takes P n os todo is L with
 | none => rw [h1] at h; cases h
 | some L1 =>
  rw [h1] at h
  have := Nat.eq_of_beq_eq_true hf
  subst this
  subst hi
  exact Dr.takes_go todo is fuel' L L1 h1 (Dr.keep h hn)
theorem Dr.step (hr : Region.ready .any os (marks os.size is) = [i])
  (h : S w → ∀ a, Rep n a L → wpOp P os (drPost n K) i (fun a' w' => S w' ∧ wpAnyH P .any os (drPost n K) S fuel (marks os.size (i :: is)) a' w') a w) : Dr P n os S (fuel + 1) is K L w := by
 intro hS a ha
 refine wpAnyH_all hr (by simp) fun j hj => ?_
 have : j = i := by simpa using hj
 subst this
 exact h hS a ha
theorem Dr.call {f : Nat} {args : Array Value} {R : Ending → World → Prop} (hr : Region.ready .any os (marks os.size is) = [i]) (hc : call? P os L i = some (f, args)) (hd : dst? os i = some d) (C : S w → Calls P f args w R)
  (h : ∀ e w', R e w' → ∃ v L', e = .returned v ∧ setL n d v L = some L' ∧ S w' ∧ Dr P n os S fuel (i :: is) K L' w') : Dr P n os S (fuel + 1) is K L w := by
 refine Dr.step hr fun hS a ha => ?_
 unfold call? at hc
 cases h0 : at? os L i with
 | none => rw [h0] at hc; cases hc
 | some o =>
  rw [h0] at hc
  simp only at hc
  cases hx : next? P L o with
  | none => rw [hx] at hc; cases hc
  | some x =>
   rw [hx] at hc
   cases x with
   | enter f' args' =>
    simp only [Option.some.injEq, Prod.mk.injEq] at hc
    obtain ⟨rfl, rfl⟩ := hc
    obtain ⟨ho, hw, _, _⟩ := at?_spec h0
    have hd' : o.dst = d := by simpa [dst?, ho] using hd
    unfold wpOp
    simp only [ho, wants_wanted ha hw, if_true, Oper.wp, next?_run ha hx, Oper.upon]
    refine .inl (Calls.mono (C hS) fun e w' he => ?_)
    obtain ⟨v, L', rfl, hs, hS', hn⟩ := h e w' he
    rw [hd']
    exact ⟨hS', hn hS' _ (ha.setL hs)⟩
   | _ => cases hc
theorem Dr.go {v : Value} {w' : World} (hr : Region.ready .any os (marks os.size is) = [i]) (h0 : okAt os L i = true) (hx : Runs P L (opn os i) w v w') (hd : dst? os i = some d) (hs : setL n d v L = some L')
  (hS' : S w') (hn : Dr P n os S fuel (i :: is) K L' w') : Dr P n os S (fuel + 1) is K L w := by
 refine Dr.step hr fun hS a ha => ?_
 have h1 := at?_opn h0
 obtain ⟨ho, hw, hp, hkn⟩ := at?_spec h1
 have hd' : (opn os i).dst = d := by simpa [dst?, ho] using hd
 unfold Runs at hx
 unfold wpOp
 simp only [ho, wants_wanted ha hw, if_true, Oper.wp, exec_known ha hp hkn, hx, Oper.upon]
 exact .inl ⟨hS', hn hS' _ (ha.setL (by rw [hd']; exact hs))⟩
theorem Dr.goU {w' : World} (hr : Region.ready .any os (marks os.size is) = [i]) (h0 : okAt os L i = true) (hx : RunsU P L (opn os i) w w') (hd : dst? os i = some d) (hs : setL n d undef L = some L')
  (hS' : S w') (hn : Dr P n os S fuel (i :: is) K L' w') : Dr P n os S (fuel + 1) is K L w := by
 refine Dr.step hr fun hS a ha => ?_
 have h1 := at?_opn h0
 obtain ⟨ho, hw, hp, hkn⟩ := at?_spec h1
 have hd' : (opn os i).dst = d := by simpa [dst?, ho] using hd
 unfold RunsU at hx
 unfold wpOp
 simp only [ho, wants_wanted ha hw, if_true, Oper.wp, exec_known ha hp hkn, hx, Oper.upon]
 exact .inl ⟨hS', hn hS' _ (ha.setL (by rw [hd']; exact hs))⟩
theorem Dr.done (hr : Region.ready .any os (marks os.size is) = []) (h : K L w) : Dr P n os S fuel is K L w :=
 fun _ _ ha => wpAnyH_done hr ⟨L, ha, h⟩ _
theorem Dr.split (b : Bool) (ht : b = true → Dr P n os S fuel is K L w) (hf : b = false → Dr P n os S fuel is K L w) : Dr P n os S fuel is K L w := by
 cases b
 ·exact hf rfl
 ·exact ht rfl
end
theorem RunsU.stored {P : Program} {L : Loc} {o : Oper} {w : World} {t : TypeId} {b off : Nat} {v : Value} {xs ys : List Value} {E : TypeId} (h : st? L o = some (t, ⟨b, off, none⟩, v)) (H : Has w b (rowL xs E)) (hst : storeC P t xs off v = some ys) :
  RunsU P L o w (w.setRow b ⟨ys⟩) := RunsU.store h (H.stores hst)
section
variable {P : Program} {n : Nat} {os : Array Oper} {K : Loc → World → Prop} {L L' : Loc} {w : World} {i : Nat} {d : Option Tmp} {S : World → Prop} {fuel : Nat} {is : List Nat}
theorem Ops.put {t : TypeId} {b off : Nat} {v : Value} {xs ys : List Value} {E : TypeId} (h0 : okAt os L i = true) (h : st? L (opn os i) = some (t, ⟨b, off, none⟩, v)) (H : Has w b (rowL xs E)) (hst : storeC P t xs off v = some ys)
  (hd : dst? os i = some d) (hs : setL n d undef L = some L') (hn : ∀ w', Has w' b (rowL ys E) → Keeps (fun j => j = b) w w' → Ops P n os (i + 1) K L' w') : Ops P n os i K L w :=
 Ops.goU h0 (RunsU.stored h H hst) hd hs (hn _ (H.set ys) (Keeps.setRow w b ⟨ys⟩))
theorem Dr.put {t : TypeId} {b off : Nat} {v : Value} {xs ys : List Value} {E : TypeId} (hr : Region.ready .any os (marks os.size is) = [i]) (h0 : okAt os L i = true) (h : st? L (opn os i) = some (t, ⟨b, off, none⟩, v)) (H : Has w b (rowL xs E)) (hst : storeC P t xs off v = some ys)
  (hd : dst? os i = some d) (hs : setL n d undef L = some L') (hn : ∀ w', Has w' b (rowL ys E) → Keeps (fun j => j = b) w w' → S w' ∧ Dr P n os S fuel (i :: is) K L' w') : Dr P n os S (fuel + 1) is K L w := by
 obtain ⟨hS, hD⟩ := hn _ (H.set ys) (Keeps.setRow w b ⟨ys⟩)
 exact Dr.goU hr h0 (RunsU.stored h H hst) hd hs hS hD
end
section
variable {P : Program} {n : Nat} {Q : Exit → Loc → World → Prop} {L : Loc} {w : World} {f : Func} {p : List Nat}
theorem q_draw (S : World → Prop) (fuel : Nat) (hm : P.follows .mixedOrders = true) (hc : isDraw (cd f p) = true) (hf : Nat.beq (opsOf (cd f p)).size fuel = true)
  (h : ∀ w', Keeps none_ w w' → w'.heap.size = w.heap.size → w'.heap = w.heap → S w' ∧ Dr P n (opsOf (cd f p)) S fuel [] (Q .normal) L w') : wp P n (cd f p) Q L w := by
 intro a ha
 cases e : cd f p with
 | region id os dr =>
  rw [e] at hc h hf
  cases dr with
  | false => cases hc
  | true =>
   simp only [opsOf] at h hf
   have hfu := Nat.eq_of_beq_eq_true hf
   obtain ⟨hS, hD⟩ := h { w with drawn := w.drawn + 1 } (Keeps.refl w).drew rfl rfl
   refine Go.wp_mono (Go.wp_region_held (Q := drPost n (Q .normal)) (S := S) hm ?_) fun ex a' w' hq => ?_
   ·have := hD hS a ha
    rw [← hfu] at this
    exact this
   ·obtain ⟨L', r, q⟩ := hq
    cases ex with
    | normal => exact ⟨L', r, q⟩
    | _ => exact q.elim
 | _ => rw [e] at hc; cases hc
end
end Go.Q
namespace Go.Q
open Go.RowKit
theorem wrap_i64 {x : Int} (h0 : -9223372036854775808 ≤ x) (h1 : x ≤ 9223372036854775807) : IntKind.i64.wrap x = x := by
 have e : (2 : Int) ^ IntKind.i64.bits = 18446744073709551616 := by decide
 have e1 : (2 : Int) ^ (IntKind.i64.bits - 1) = 9223372036854775808 := by decide
 unfold IntKind.wrap
 simp only [e, e1, IntKind.signed, Bool.true_and, decide_eq_true_eq]
 split <;> omega
theorem wrap_u64 {x : Int} (h0 : 0 ≤ x) (h1 : x ≤ 18446744073709551615) : IntKind.u64.wrap x = x := by
 have e : (2 : Int) ^ IntKind.u64.bits = 18446744073709551616 := by decide
 unfold IntKind.wrap
 simp only [e, IntKind.signed, Bool.false_and, Bool.false_eq_true, if_false]
 omega
def roll (P : Program) (n : Nat) (c : Code) (Q : Exit → Loc → World → Prop) : Nat → Loc → World → Prop
 | 0 => fun _ _ => False
 | k + 1 => fun L w => wp P n c (thn (roll P n c Q k) Q) L w
theorem q_roll {P : Program} {n : Nat} {f : Func} {p : List Nat} {Q : Exit → Loc → World → Prop} {L : Loc} {w : World} (k : Nat) (hc : isLoop (cd f p) = true) (h : roll P n (cd f (0 :: p)) Q k L w) : wp P n (cd f p) Q L w :=
 q_loop (fun s L w => roll P n (cd f (0 :: p)) Q s L w) id k hc h fun s L w hI => by
  cases s with
  | zero => exact hI.elim
  | succ s =>
   refine q_mono hI fun e L' w' hq => ?_
   cases e with
   | normal => exact ⟨s, hq, Nat.lt_succ_self s⟩
   | _ => exact hq
theorem roll_step {P : Program} {n : Nat} {c : Code} {Q : Exit → Loc → World → Prop} {k : Nat} {L : Loc} {w : World} (h : wp P n c (thn (roll P n c Q k) Q) L w) : roll P n c Q (k + 1) L w := h
def ints (l : List Int) : List Value := l.map i64
theorem beq_f {x y : Int} (h : x ≠ y) : (x == y) = false := by simpa using h
theorem of_beq_t {x y : Int} (h : (x == y) = true) : x = y := by simpa using h
theorem of_beq_f {x y : Int} (h : (x == y) = false) : ¬ (x = y) := by simpa using h
theorem of_bne_t {x y : Int} (h : (x != y) = true) : ¬ (x = y) := by simpa using h
theorem of_bne_f {x y : Int} (h : (x != y) = false) : x = y := by simpa using h
theorem bnot_true {b : Bool} (h : (!b) = true) : b = false := by simpa using h
theorem bnot_false {b : Bool} (h : (!b) = false) : b = true := by simpa using h
theorem loadC1 {P : Program} {t : TypeId} {xs : List Value} {off : Nat} {v : Value} (ht : isAgg? P t = some false) (hx : xs[off]? = some v) : loadC P t xs off = some v := by
 simp only [loadC, ht, hx]
theorem loadCN {P : Program} {t : TypeId} {xs vs : List Value} {off : Nat} (ht : isAgg? P t = some true) (hs : size? P t = some vs.length) (hx : (xs.drop off).take vs.length = vs) (hl : off + vs.length ≤ xs.length) :
  loadC P t xs off = some (agg vs) := by
 simp only [loadC, ht, hs]
 rw [show Nat.ble (off + vs.length) xs.length = true from Nat.ble_eq_true_of_le hl]
 simp [hx]
theorem storeC1 {P : Program} {t : TypeId} {xs ys : List Value} {off : Nat} {v : Value} (hs : size? P t = some 1) (hv : v.oneCell' = true) (hl : off < xs.length) (hy : xs.set off v = ys) : storeC P t xs off v = some ys := by
 have hc : v.cells.toList = [v] := by cases v <;> first | rfl | cases hv
 simp only [storeC, hs, hc]
 rw [show Nat.beq [v].length 1 = true from rfl, show Nat.ble (off + 1) xs.length = true from Nat.ble_eq_true_of_le hl]
 simp only [oneCells, hv, Bool.and_true, cond_true, Option.some.injEq]
 rw [← hy, List.set_eq_take_append_cons_drop, if_pos hl]
 simp
theorem storeCN {P : Program} {t : TypeId} {xs ys vs : List Value} {off : Nat} (hs : size? P t = some vs.length) (hv : oneCells vs = true) (hl : off + vs.length ≤ xs.length) (hy : xs.take off ++ vs ++ xs.drop (off + vs.length) = ys) :
  storeC P t xs off (agg vs) = some ys := by
 simp only [storeC, hs, Value.cells]
 rw [show Nat.beq vs.length vs.length = true from Nat.beq_refl _, show Nat.ble (off + vs.length) xs.length = true from Nat.ble_eq_true_of_le hl]
 simp [hv, ← hy]
end Go.Q
namespace Go.Q
open Go.ChangeShapes Go.WideShapes Go.ChangeAt Go.RowKit
theorem post_keeps {H : Type} {enc : TypeId × Value → H} {P : Program} {f : Func} {s : ChangeSpec} {apart fresh handsOn again : Bool} {W W' : World} {args : Array Value} {v : Value} {ds gs : List (DataW H)} {before pa pv : List MemPlace}
  (hW : DataW.Whole enc P f.params.toList s.vars apart W args.toList ds gs before)
  (hres : ∀ (b : Nat) (sp : Nat → Bool) (hd : Bool), DataW.TrodAll enc P W' b sp hd f.resultTypes.toList (v.resultList f.resultTypes.size) (s.fn H (ds ++ gs)).results [])
  (hargs : ∀ sp : Nat → Bool, (∀ p ∈ before, sp p.block = true) → DataW.TrodAll enc P W' 0 sp true f.params.toList args.toList (s.fn H (ds ++ gs)).args pa)
  (hvars : ∀ sp : Nat → Bool, (∀ p ∈ before, sp p.block = true) → DataW.TrodVars enc P W' sp s.vars (s.fn H (ds ++ gs)).vars pv)
  (hps : before = pa ++ pv) (hK : Keeps none_ W W')
  (hok : ∀ (j : Nat) (t : TypeId) (r : Value), f.resultTypes[j]? = some t → (v.resultList f.resultTypes.size)[j]? = some r → Value.okWide P W' .any 0 t r) :
  s.post enc P f apart fresh handsOn again W args v W' := by
 have hold : ∀ p ∈ before, (fun b => decide (b < W.heap.size)) p.block = true := fun p hp => by simpa using hW.lt p hp
 have hlt := hW.lt
 refine ⟨ds, gs, before, [], pa, pv, hW, hres _ _ _, hargs _ hold, hvars _ hold, World.keptBut_mono (fun p hp => ⟨hp, ?_⟩) (hK.below.frame (· ∈ before)), fun _ => ?_⟩
 ·rw [hps, List.mem_append] at hp
  exact Or.inr hp
 ·obtain ⟨_, _, _, _, _, hz, hn⟩ := hW
  refine ⟨hok, _, _, ([] ++ pa) ++ pv, ⟨[] ++ pa, pv, trodAll_append (hargs _ (fun _ _ => rfl)) (hres _ _ _), hvars _ (fun _ _ => rfl), rfl, ?_, ?_⟩, ?_⟩
  ·intro b off hp
   have hmem : MemPlace.cell b off ∈ before := by rw [hps]; simpa using hp
   have h1 := hlt _ hmem
   rw [hK.below.frozen h1]
   exact hz b off hmem
  ·intro ha
   have := hn ha
   rw [hps] at this
   simpa using this
  ·intro p hp _
   rw [hps]
   simpa using hp
theorem trod_keeps {H : Type} {enc : TypeId × Value → H} {P : Program} {t : TypeId} (hl : laidOutB P = true) (hr : P.readableRec t = true) (hrow : t < P.types.size) {W W' : World} {v : Value} {d : DataW H} {ps : List MemPlace} {sp : Nat → Bool}
  (h : DataW.Trod enc P W 0 (fun _ => true) true t v d ps) (K : Keeps none_ W W') (hlt : ∀ x ∈ ps, x.block < W.heap.size) (hsp : ∀ x ∈ ps, sp x.block = true) : DataW.Trod enc P W' 0 sp true t v d ps :=
 WideElems.Trod_stays hl hr hrow h (fun x hx => K.below.same (hlt x hx)) hsp
end Go.Q
namespace Go.Q
open Go.ChangeShapes Go.WideShapes Go.ChangeAt Go.RowKit Go.Deep
def Elems (w : World) (A : Option Addr) (n sz : Nat) (vs : List Value) : Prop :=
 vs.length = n ∧ (0 < n → ∃ b off, A = some ⟨b, off, none⟩ ∧ ∀ i v, vs[i]? = some v → ∀ j u, v.cells.toList[j]? = some u → w.cell? ⟨b, off + i * sz + j, none⟩ = some u)
theorem Elems.at {P : Program} {w : World} {A : Option Addr} {n sz : Nat} {α : Type} {f : α → Value} {l : List α} {t : TypeId} (h : Elems w A n sz (l.map f)) {k : Nat} (hk : k < n)
  (g : α → List Value) (hg : ∀ x, f x = agg (g x)) (ht : isAgg? P t = some true) (hs : ∀ x, size? P t = some (g x).length) :
  ∃ x b off, l[k]? = some x ∧ A = some ⟨b, off, none⟩ ∧ ∀ w', Keeps none_ w w' → Loads P w' t ⟨b, off + k * sz, none⟩ (f x) := by
 obtain ⟨hl, hc⟩ := h
 obtain ⟨b, off, hA, hcell⟩ := hc (by omega)
 have hkl : k < l.length := by simpa using (by rw [hl]; exact hk : k < (l.map f).length)
 refine ⟨l[k], b, off, List.getElem?_eq_getElem hkl, hA, fun w' K => ?_⟩
 rw [hg]
 refine loads_agg ht (hs _) fun j u hu => ?_
 rw [add_plain]
 refine K.cell (hcell k (f l[k]) (by simp [hkl]) j u (by rw [hg]; simpa [Value.cells] using hu)) (fun h => h)
theorem Runs.ixSliceE {P : Program} {L : Loc} {o : Oper} {w : World} {t : TypeId} {A : Option Addr} {b off len cap s off' : Nat} {k : IntKind} {i : Int} (hA : A = some ⟨b, off, none⟩) (h : ix? L o = some (t, .slice A len cap, .int k i)) (hs : sliceElem? P t = some s)
  (h0 : 0 ≤ i) (h1 : i < len) (ho : off + i.toNat * s = off') : Runs P L o w (.pointer (some ⟨b, off', none⟩)) w := by
 subst hA
 exact Runs.ixSlice h hs h0 h1 ho
section
variable {H : Type} {enc : TypeId × Value → H} {P : Program} {w : World} {base : Nat} {spare : Nat → Bool} {held : Bool}
end
def intFields (P : Program) (fs : Array Field) (k : IntKind) : Bool := fs.toList.all fun f => match P.underlying f.type with
 | some (.int k') => k' == k
 | _ => false
theorem wf_i64 {n : Int} (h : (Lit.int .i64 n).wf = true) : -9223372036854775808 ≤ n ∧ n ≤ 9223372036854775807 := by
 simp only [Lit.wf, Bool.and_eq_true, decide_eq_true_eq] at h
 have e1 : IntKind.i64.min = -9223372036854775808 := by decide
 have e2 : IntKind.i64.max = 9223372036854775807 := by decide
 rw [e1, e2] at h
 exact h
end Go.Q
