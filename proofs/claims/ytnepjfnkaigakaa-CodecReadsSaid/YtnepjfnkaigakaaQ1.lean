/- A walk's words over any program: partial knowledge of a frame's temporaries, code named by its path, operations run by the kernel. -/
import Derived.OrdersHeld
import Derived.KernelRfl
import Derived.Below
import Derived.Laws.AppendOwn
namespace Go.Q
open Go.RowKit

/-! ### 1. What is known of the temporaries -/

abbrev Loc := List (Nat × Value)

def lk : Loc → Nat → Option Value
  | [], _ => none
  | (i, v) :: L, t => bif Nat.beq i t then some v else lk L t

def evo (L : Loc) : Operand → Option Value
  | .tmp t => lk L t
  | .const v => some v
  | .global g => some (.pointer (some ⟨g, 0, none⟩))
  | .func f => some (.func (.func f) #[] #[])

def ev (L : Loc) (x : Operand) : Value := match evo L x with | some v => v | none => undef

def knows (L : Loc) : List Operand → Bool
  | [] => true
  | x :: xs => match evo L x with | some _ => knows L xs | none => false

structure Rep (n : Nat) (a : Act) (L : Loc) : Prop where
  defers : a.defers = []
  size : a.tmps.size = n
  val : ∀ t v, lk L t = some v → a.tmps[t]? = some v

theorem Rep.ev {n : Nat} {a : Act} {L : Loc} (h : Rep n a L) {x : Operand} {v : Value} (hx : evo L x = some v) : a.eval x = v := by
  cases x with
  | tmp t => simp only [evo] at hx; simp [Act.eval, h.val t v hx]
  | const u => simp only [evo] at hx; injection hx
  | global g => simp only [evo] at hx; injection hx
  | func f => simp only [evo] at hx; injection hx

theorem knows_mem {L : Loc} : ∀ {xs : List Operand}, knows L xs = true → ∀ x ∈ xs, ∃ v, evo L x = some v
  | [], _, x, hx => by cases hx
  | y :: ys, h, x, hx => by
    simp only [knows] at h
    cases hy : evo L y with
    | none => rw [hy] at h; cases h
    | some v =>
      rw [hy] at h
      rcases List.mem_cons.1 hx with rfl | hx
      · exact ⟨v, hy⟩
      · exact knows_mem h x hx

theorem Rep.put {n : Nat} {a : Act} {L : Loc} (h : Rep n a L) {d : Nat} (hd : d < n) (v : Value) : Rep n (a.put (some d) v) ((d, v) :: L) := by
  refine ⟨h.defers, by simp [Act.put, h.size], fun t u ht => ?_⟩
  simp only [lk] at ht
  by_cases e : d = t
  · subst e
    have hb : Nat.beq d d = true := Nat.beq_refl d
    simp only [hb, cond_true, Option.some.injEq] at ht
    subst ht
    simp [Act.put, h.size, hd]
  · have hb : Nat.beq d t = false := by rw [Bool.eq_false_iff]; intro hh; exact e (Nat.eq_of_beq_eq_true hh)
    simp only [hb, cond_false] at ht
    simp only [Act.put]
    rw [Array.getElem?_setIfInBounds_ne e]
    exact h.val t u ht

theorem Rep.put_none {n : Nat} {a : Act} {L : Loc} (h : Rep n a L) (v : Value) : Rep n (a.put none v) L := h

/-- What an operation's place turns of what is known; 'none': the place is out of the frame. -/
def setL (n : Nat) (dst : Option Tmp) (v : Value) (L : Loc) : Option Loc :=
  match dst with
  | none => some L
  | some d => bif Nat.blt d n then some ((d, v) :: L) else none

theorem Rep.setL {n : Nat} {a : Act} {L L' : Loc} (h : Rep n a L) {dst : Option Tmp} {v : Value} (hs : setL n dst v L = some L') : Rep n (a.put dst v) L' := by
  cases dst with
  | none => simp only [Q.setL] at hs; injection hs with hs; subst hs; exact h
  | some d =>
    simp only [Q.setL] at hs
    cases hb : Nat.blt d n with
    | false => rw [hb] at hs; cases hs
    | true =>
      rw [hb] at hs
      simp only [cond_true, Option.some.injEq] at hs
      subst hs
      exact h.put (by simpa [Nat.blt_eq] using hb) v

/-- Only some of what is known. -/
def restrict (L : Loc) : List Nat → Option Loc
  | [] => some []
  | t :: ts => match lk L t with
    | some v => match restrict L ts with
      | some R => some ((t, v) :: R)
      | none => none
    | none => none

theorem restrict_sub {L : Loc} : ∀ {ts : List Nat} {R : Loc}, restrict L ts = some R → ∀ t v, lk R t = some v → lk L t = some v
  | [], R, h, t, v, hv => by simp only [restrict] at h; injection h with h; subst h; cases hv
  | s :: ts, R, h, t, v, hv => by
    simp only [restrict] at h
    cases hs : lk L s with
    | none => rw [hs] at h; cases h
    | some u =>
      rw [hs] at h
      cases hr : restrict L ts with
      | none => rw [hr] at h; cases h
      | some R' =>
        rw [hr] at h
        simp only [Option.some.injEq] at h
        subst h
        simp only [lk] at hv
        cases hb : Nat.beq s t with
        | true =>
          rw [hb] at hv
          simp only [cond_true, Option.some.injEq] at hv
          subst hv
          have := Nat.eq_of_beq_eq_true hb
          subst this
          exact hs
        | false => rw [hb] at hv; exact restrict_sub hr t v hv

theorem Rep.sub {n : Nat} {a : Act} {L R : Loc} (h : Rep n a L) (hs : ∀ t v, lk R t = some v → lk L t = some v) : Rep n a R :=
  ⟨h.defers, h.size, fun t v ht => h.val t v (hs t v ht)⟩

/-! ### 2. Code by its path -/

def sub : Code → Nat → Code
  | .seq a _, 0 => a
  | .seq _ b, _ => b
  | .cond _ a _, 0 => a
  | .cond _ _ b, _ => b
  | .block _ a, _ => a
  | .loop a, _ => a
  | .scope a, _ => a
  | .rangeFunc _ _ a _, 0 => a
  | .rangeFunc _ _ _ b, _ => b
  | c, _ => c

def cd (f : Func) : List Nat → Code
  | [] => match f.body with | some c => c | none => .skip
  | i :: p => sub (cd f p) i

def opsOf : Code → Array Oper
  | .region _ ops _ => ops
  | _ => #[]

def isSeq : Code → Bool | .seq _ _ => true | _ => false
def isRegion : Code → Bool | .region _ _ false => true | _ => false
def isDraw : Code → Bool | .region _ _ true => true | _ => false
def isLoop : Code → Bool | .loop _ => true | _ => false
def isBlock : Code → Option Nat | .block i _ => some i | _ => none
def isExit : Code → Option Nat | .exit i => some i | _ => none
def isRet : Code → Bool | .ret => true | _ => false
def isSkip : Code → Bool | .skip => true | _ => false
def isCond : Code → Option Operand | .cond c _ _ => some c | _ => none

def thn (next : Loc → World → Prop) (Q : Exit → Loc → World → Prop) : Exit → Loc → World → Prop
  | .normal, L, w => next L w
  | e, L, w => Q e L w

def blk (id : Nat) (Q : Exit → Loc → World → Prop) : Exit → Loc → World → Prop
  | .exit id', L, w => if id' = id then Q .normal L w else Q (.exit id') L w
  | e, L, w => Q e L w

def wp (P : Program) (n : Nat) (c : Code) (Q : Exit → Loc → World → Prop) (L : Loc) (w : World) : Prop :=
  ∀ a, Rep n a L → c.wp P (fun e a' w' => ∃ L', Rep n a' L' ∧ Q e L' w') a w

section rules
variable {P : Program} {n : Nat} {Q : Exit → Loc → World → Prop} {L : Loc} {w : World} {f : Func} {p : List Nat}

theorem q_keep {c : Code} {R : Loc} (hs : restrict L (R.map Prod.fst) = some R) (h : wp P n c Q R w) : wp P n c Q L w :=
  fun a ha => h a (ha.sub (restrict_sub hs))

theorem q_mono {c : Code} {Q' : Exit → Loc → World → Prop} (h : wp P n c Q L w) (hq : ∀ e L w, Q e L w → Q' e L w) : wp P n c Q' L w :=
  fun a ha => Go.wp_mono (h a ha) fun _ _ _ ⟨L', r, q⟩ => ⟨L', r, hq _ _ _ q⟩

theorem q_seq (hc : isSeq (cd f p) = true) (h : wp P n (cd f (0 :: p)) (thn (wp P n (cd f (1 :: p)) Q) Q) L w) : wp P n (cd f p) Q L w := by
  intro a ha
  have h1 := h a ha
  simp only [cd] at h1
  cases e : cd f p with
  | seq x y =>
    rw [e] at h1
    simp only [sub] at h1
    refine Go.wp_seq (Go.wp_mono h1 fun ex a' w' hq => ?_)
    obtain ⟨L', r, q⟩ := hq
    cases ex with
    | normal => exact q a' r
    | _ => exact ⟨L', r, q⟩
  | _ => rw [e] at hc; cases hc

theorem q_cond {o : Operand} {b : Bool} (hc : isCond (cd f p) = some o) (hv : evo L o = some (.bool b))
    (ht : b = true → wp P n (cd f (0 :: p)) Q L w) (hf : b = false → wp P n (cd f (1 :: p)) Q L w) : wp P n (cd f p) Q L w := by
  intro a ha
  simp only [cd] at ht hf
  cases e : cd f p with
  | cond c x y =>
    rw [e] at hc ht hf
    simp only [isCond, Option.some.injEq] at hc
    subst hc
    exact Go.wp_cond_split (ha.ev hv) (fun hb => ht hb a ha) (fun hb => hf hb a ha)
  | _ => rw [e] at hc; cases hc

theorem q_then {o : Operand} (hc : isCond (cd f p) = some o) (hv : evo L o = some (.bool true)) (h : wp P n (cd f (0 :: p)) Q L w) : wp P n (cd f p) Q L w :=
  q_cond hc hv (fun _ => h) (fun hb => by cases hb)

theorem q_else {o : Operand} (hc : isCond (cd f p) = some o) (hv : evo L o = some (.bool false)) (h : wp P n (cd f (1 :: p)) Q L w) : wp P n (cd f p) Q L w :=
  q_cond hc hv (fun hb => by cases hb) (fun _ => h)

theorem q_block {id : Nat} (hc : isBlock (cd f p) = some id) (h : wp P n (cd f (0 :: p)) (blk id Q) L w) : wp P n (cd f p) Q L w := by
  intro a ha
  have h1 := h a ha
  simp only [cd] at h1
  cases e : cd f p with
  | block i x =>
    rw [e] at hc h1
    simp only [isBlock, Option.some.injEq] at hc
    subst hc
    simp only [sub] at h1
    refine Go.wp_block (Go.wp_mono h1 fun ex a' w' hq => ?_)
    obtain ⟨L', r, q⟩ := hq
    cases ex with
    | exit k =>
      by_cases hk : k = i
      · simp only [Exit.inBlock, if_pos hk]
        simp only [blk, if_pos hk] at q
        exact ⟨L', r, q⟩
      · simp only [Exit.inBlock, if_neg hk]
        simp only [blk, if_neg hk] at q
        exact ⟨L', r, q⟩
    | _ => exact ⟨L', r, q⟩
  | _ => rw [e] at hc; cases hc

theorem q_skip (hc : isSkip (cd f p) = true) (h : Q .normal L w) : wp P n (cd f p) Q L w := by
  intro a ha
  cases e : cd f p with
  | skip => exact Go.wp_skip ⟨L, ha, h⟩
  | _ => rw [e] at hc; cases hc

theorem q_exit {id : Nat} (hc : isExit (cd f p) = some id) (h : Q (.exit id) L w) : wp P n (cd f p) Q L w := by
  intro a ha
  cases e : cd f p with
  | exit i =>
    rw [e] at hc
    simp only [isExit, Option.some.injEq] at hc
    subst hc
    exact Go.wp_exit ⟨L, ha, h⟩
  | _ => rw [e] at hc; cases hc

theorem q_ret (hc : isRet (cd f p) = true) (h : Q .ret L w) : wp P n (cd f p) Q L w := by
  intro a ha
  cases e : cd f p with
  | ret => exact Go.wp_ret ⟨L, ha, h⟩
  | _ => rw [e] at hc; cases hc

/-- A loop: 'I s' holds at every round's head, of some state s; each round that comes back to the head lowers the measure. -/
theorem q_loop {σ : Type} (I : σ → Loc → World → Prop) (m : σ → Nat) (s0 : σ) (hc : isLoop (cd f p) = true) (h0 : I s0 L w)
    (round : ∀ s L w, I s L w → wp P n (cd f (0 :: p)) (thn (fun L' w' => ∃ s', I s' L' w' ∧ m s' < m s) Q) L w) : wp P n (cd f p) Q L w := by
  intro a ha
  simp only [cd] at round
  cases e : cd f p with
  | loop c =>
    rw [e] at round
    simp only [sub] at round
    have key : ∀ (k : Nat) (s : σ) (L : Loc) (a : Act) (w : World), m s = k → I s L w → Rep n a L → ∀ (b : Frame) (kk : List Item) (cs : List Frame),
        ∃ e a' w', (∃ L', Rep n a' L' ∧ Q e L' w') ∧ Arrives P (lone (b.at a (.code c :: .inLoop c :: kk)) cs w) b kk cs e a' w' := by
      intro k
      induction k using Nat.strongRecOn with
      | _ k ih =>
        intro s L a w hk hI ha b kk cs
        obtain ⟨ex, a₁, w₁, ⟨L₁, r₁, hq⟩, harr⟩ := round s L w hI a ha b (.inLoop c :: kk) cs
        cases ex with
        | normal =>
          obtain ⟨s', hI', hlt⟩ := hq
          obtain ⟨e₂, a₂, w₂, hq₂, harr₂⟩ := ih (m s') (hk ▸ hlt) s' L₁ a₁ w₁ rfl hI' r₁ b kk cs
          exact ⟨e₂, a₂, w₂, hq₂, .of_steps (Steps.trans harr (.one step_inLoop)) harr₂⟩
        | exit id => exact ⟨_, a₁, w₁, ⟨L₁, r₁, hq⟩, .pass (x := .inLoop c) rfl (fun _ _ => .inl (by simp)) harr⟩
        | goto l => exact ⟨_, a₁, w₁, ⟨L₁, r₁, hq⟩, .pass (x := .inLoop c) rfl (fun _ _ => .inl (by simp)) harr⟩
        | ret => exact ⟨_, a₁, w₁, ⟨L₁, r₁, hq⟩, .pass (x := .inLoop c) rfl (fun _ _ => .inl (by simp)) harr⟩
        | panic ch => exact ⟨_, a₁, w₁, ⟨L₁, r₁, hq⟩, .pass (x := .inLoop c) rfl (fun _ _ => .inl (by simp)) harr⟩
        | outgrown => exact ⟨_, a₁, w₁, ⟨L₁, r₁, hq⟩, .pass (x := .inLoop c) rfl (fun _ _ => .inl (by simp)) harr⟩
    intro b kk cs
    obtain ⟨ex, a', w', hq, harr⟩ := key _ s0 L a w rfl h0 ha b kk cs
    exact ⟨ex, a', w', hq, .of_steps (.one step_loop) harr⟩
  | _ => rw [e] at hc; cases hc
end rules

/-! ### 3. A function's call -/

/-- What is known at a call's begin. -/
def args0 : Nat → List Value → Loc
  | _, [] => []
  | i, v :: vs => (i, v) :: args0 (i + 1) vs

theorem lk_args0 : ∀ (vs : List Value) (i t : Nat) (v : Value), lk (args0 i vs) t = some v → i ≤ t ∧ vs[t - i]? = some v
  | [], i, t, v, h => by cases h
  | u :: vs, i, t, v, h => by
    simp only [args0, lk] at h
    cases hb : Nat.beq i t with
    | true =>
      rw [hb] at h
      simp only [cond_true, Option.some.injEq] at h
      have := Nat.eq_of_beq_eq_true hb
      subst this
      subst h
      simp
    | false =>
      rw [hb] at h
      obtain ⟨h1, h2⟩ := lk_args0 vs (i + 1) t v h
      refine ⟨by omega, ?_⟩
      have : t - i = (t - (i + 1)) + 1 := by omega
      rw [this, List.getElem?_cons_succ]
      exact h2

/-- The value of a function's results in what is known and in the world. -/
def retv (P : Program) (fn : Func) (w : World) (v : Value) (L : Loc) : Prop := ∀ tmps : Array Value, (∀ t u, lk L t = some u → tmps[t]? = some u) → (results fn tmps).run P w = .ok v w

def retQ (P : Program) (fn : Func) (R : Ending → World → Prop) : Exit → Loc → World → Prop
  | .normal, L, w | .ret, L, w => ∃ v, retv P fn w v L ∧ R (.returned v) w
  | _, _, _ => False

theorem q_calls {P : Program} {k : FuncId} {fn : Func} {vs : List Value} {w : World} {R : Ending → World → Prop} (hf : P.funcs[k]? = some fn)
    (hb : fn.body.isSome = true) (hn : Nat.ble vs.length fn.ntmps = true) (h : wp P fn.ntmps (cd fn []) (retQ P fn R) (args0 0 vs) w) : Calls P k ⟨vs⟩ w R := by
  cases hbody : fn.body with
  | none => rw [hbody] at hb; cases hb
  | some c =>
    have hle : vs.length ≤ fn.ntmps := Nat.le_of_ble_eq_true hn
    refine calls_of_wp hf hbody ?_
    have e : cd fn [] = c := by simp [cd, hbody]
    rw [e] at h
    refine Go.wp_mono (h _ ⟨rfl, ?_, fun t v ht => ?_⟩) fun ex a' w' ⟨L', r, q⟩ => ?_
    · simp; omega
    · obtain ⟨_, h2⟩ := lk_args0 vs 0 t v ht
      simp only [Nat.sub_zero] at h2
      have hlt : t < vs.length := (List.getElem?_eq_some_iff.1 h2).1
      simp only [Array.getElem?_append, List.size_toArray, hlt, if_true]
      simpa using h2
    · cases ex with
      | normal => obtain ⟨v, hv, hR⟩ := q; exact ⟨r.defers, v, hv _ r.val, hR⟩
      | ret => obtain ⟨v, hv, hR⟩ := q; exact ⟨r.defers, v, hv _ r.val, hR⟩
      | _ => exact q.elim

theorem retv_none {P : Program} {fn : Func} {w : World} {L : Loc} (h : fn.results = #[]) : retv P fn w (.tuple #[]) L := by
  intro tmps _; simp [results, h]

theorem retv_tmp {P : Program} {fn : Func} {w : World} {L : Loc} {t : Tmp} {v : Value} (h : fn.results = #[.tmp t]) (hv : lk L t = some v) : retv P fn w v L := by
  intro tmps ht; simp [results, h, ht t v hv]

theorem retv_tmp2 {P : Program} {fn : Func} {w : World} {L : Loc} {t t' : Tmp} {v v' : Value} (h : fn.results = #[.tmp t, .tmp t']) (hv : lk L t = some v) (hv' : lk L t' = some v') :
    retv P fn w (.tuple #[v, v']) L := by
  intro tmps ht; simp [results, h, ht t v hv, ht t' v' hv']

theorem retv_tmp3 {P : Program} {fn : Func} {w : World} {L : Loc} {t t' t'' : Tmp} {v v' v'' : Value} (h : fn.results = #[.tmp t, .tmp t', .tmp t'']) (hv : lk L t = some v) (hv' : lk L t' = some v') (hv'' : lk L t'' = some v'') :
    retv P fn w (.tuple #[v, v', v'']) L := by
  intro tmps ht; simp [results, h, ht t v hv, ht t' v' hv', ht t'' v'' hv'']

end Go.Q
