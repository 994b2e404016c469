/- A region's operations, one behind the other, over what is known of the temporaries. -/
import Derived.Test.YtnepjfnkaigakaaQ1
namespace Go.Q
open Go.RowKit

/-! ### 1. Operations that touch no memory, run by the kernel -/

def pure? (P : Program) {α : Type} : Sem α → Option α
  | .pure a => some a
  | .program k => pure? P (k P)
  | .mark _ k => pure? P k
  | _ => none

theorem pure?_run {P : Program} {α : Type} : ∀ (s : Sem α) {a : α}, pure? P s = some a → ∀ w, s.run P w = .ok a w
  | .pure b, a, h, w => by simp only [pure?, Option.some.injEq] at h; subst h; rfl
  | .program k, a, h, w => by simp only [pure?] at h; exact pure?_run (k P) h w
  | .mark m k, a, h, w => by simp only [pure?] at h; simp only [Sem.run]; exact pure?_run k h w
  | .load .., _, h, _ | .store .., _, h, _ | .new .., _, h, _ | .shape .., _, h, _ | .freeze .., _, h, _ | .frozen .., _, h, _ | .getObj .., _, h, _
  | .setObj .., _, h, _ | .choose .., _, h, _ | .sys .., _, h, _ | .halt .., _, h, _ => by cases h

def plainOp : Op → Bool
  | .select .. => false
  | _ => true

theorem plainOp_not {o : Op} (h : plainOp o = true) : ∀ cs b, o ≠ .select cs b := by
  intro cs b e; subst e; cases h

/-- Is the operation wanted? 'none': not known. -/
def wants (os : Array Oper) (L : Loc) (o : Oper) : Option Bool :=
  match o.guard with
  | none => some true
  | some (j, want) => match os[j]? with
    | some g => match g.dst with
      | some d => match lk L d with
        | some (.bool b) => some (b == want)
        | some (.tuple _) => some false
        | _ => none
      | none => none
    | none => none

theorem wants_wanted {os : Array Oper} {L : Loc} {o : Oper} {b : Bool} {n : Nat} {a : Act} (ha : Rep n a L) (h : wants os L o = some b) :
    Region.wanted o (yielded os a.tmps) = b := by
  unfold wants at h
  unfold Region.wanted
  cases hg : o.guard with
  | none => rw [hg] at h; simpa using h
  | some jw =>
    obtain ⟨j, want⟩ := jw
    rw [hg] at h
    simp only at h ⊢
    cases ho : os[j]? with
    | none => rw [ho] at h; cases h
    | some g =>
      rw [ho] at h
      simp only at h
      cases hd : g.dst with
      | none => rw [hd] at h; cases h
      | some d =>
        rw [hd] at h
        simp only at h
        cases hl : lk L d with
        | none => rw [hl] at h; cases h
        | some v =>
          rw [hl] at h
          cases v with
          | bool c =>
            simp only [Option.some.injEq] at h
            have := ha.val d _ hl
            subst h
            simp [yielded, ho, hd, this]
          | tuple vs =>
            simp only [Option.some.injEq] at h
            have := ha.val d _ hl
            subst h
            simp [yielded, ho, hd, this]
          | _ => cases h

/-- What the kernel comes to at an operation whose operands are known. -/
def next? (P : Program) (L : Loc) (o : Oper) : Option Next :=
  bif plainOp o.op && knows L o.op.operands.toList then pure? P (execOp (ev L) o) else none

theorem exec_known {L : Loc} {o : Oper} {n : Nat} {a : Act} (ha : Rep n a L) (hp : plainOp o.op = true) (hk : knows L o.op.operands.toList = true) :
    execOp a.eval o = execOp (ev L) o :=
  execOp_congr o (plainOp_not hp) fun x hx => by
    obtain ⟨v, hv⟩ := knows_mem hk x (Array.mem_toList_iff.2 hx)
    rw [ha.ev hv]
    simp [ev, hv]

theorem next?_run {P : Program} {L : Loc} {o : Oper} {n : Nat} {a : Act} {x : Next} (ha : Rep n a L) (h : next? P L o = some x) (w : World) :
    (execOp a.eval o).run P w = .ok x w := by
  unfold next? at h
  cases hc : plainOp o.op && knows L o.op.operands.toList with
  | false => rw [hc] at h; cases h
  | true =>
    rw [hc] at h
    simp only [Bool.and_eq_true] at hc
    rw [exec_known ha hc.1 hc.2]
    exact pure?_run _ h w

/-- The operation number i: wanted, its operands known. -/
def at? (os : Array Oper) (L : Loc) (i : Nat) : Option Oper :=
  match os[i]? with
  | some o => match wants os L o with
    | some true => bif plainOp o.op && knows L o.op.operands.toList then some o else none
    | _ => none
  | none => none

theorem at?_spec {os : Array Oper} {L : Loc} {i : Nat} {o : Oper} (h : at? os L i = some o) :
    os[i]? = some o ∧ wants os L o = some true ∧ plainOp o.op = true ∧ knows L o.op.operands.toList = true := by
  unfold at? at h
  cases ho : os[i]? with
  | none => rw [ho] at h; cases h
  | some o' =>
    rw [ho] at h
    simp only at h
    cases hw : wants os L o' with
    | none => rw [hw] at h; cases h
    | some b =>
      rw [hw] at h
      cases b with
      | false => cases h
      | true =>
        simp only at h
        cases hc : plainOp o'.op && knows L o'.op.operands.toList with
        | false => rw [hc] at h; cases h
        | true =>
          rw [hc] at h
          simp only [cond_true, Option.some.injEq] at h
          subst h
          simp only [Bool.and_eq_true] at hc
          exact ⟨rfl, hw, hc.1, hc.2⟩

/-- k operations that touch no memory, from number i on. -/
def regs (P : Program) (n : Nat) (os : Array Oper) : Nat → Nat → Loc → Option Loc
  | 0, _, L => some L
  | k + 1, i, L => match os[i]? with
    | none => none
    | some o => match wants os L o with
      | none => none
      | some false => match setL n o.dst undef L with
        | some L' => regs P n os k (i + 1) L'
        | none => none
      | some true => match next? P L o with
        | some (.value v) => match setL n o.dst v L with
          | some L' => regs P n os k (i + 1) L'
          | none => none
        | _ => none

def Ops (P : Program) (n : Nat) (os : Array Oper) (i : Nat) (K : Loc → World → Prop) (L : Loc) (w : World) : Prop :=
  ∀ a, Rep n a L → wpOps P os (fun e a' w' => ∃ L', Rep n a' L' ∧ thn K (fun _ _ _ => False) e L' w') (List.range' i (os.size - i)) a w

section
variable {P : Program} {n : Nat} {os : Array Oper} {K : Loc → World → Prop} {L : Loc} {w : World} {i : Nat}

theorem Ops.keep {R : Loc} (hs : restrict L (R.map Prod.fst) = some R) (h : Ops P n os i K R w) : Ops P n os i K L w :=
  fun a ha => h a (ha.sub (restrict_sub hs))

theorem Ops.done (hi : Nat.beq os.size i = true) (h : K L w) : Ops P n os i K L w := by
  intro a ha
  have : os.size - i = 0 := by have := Nat.eq_of_beq_eq_true hi; omega
  rw [this]
  exact ⟨L, ha, h⟩

theorem range'_head {o : Oper} (ho : os[i]? = some o) : List.range' i (os.size - i) = i :: List.range' (i + 1) (os.size - (i + 1)) := by
  have hlt : i < os.size := (Array.getElem?_eq_some_iff.1 ho).1
  have : os.size - i = (os.size - (i + 1)) + 1 := by omega
  rw [this, List.range'_succ]

theorem Ops.cons {o : Oper} (ho : os[i]? = some o) (h : ∀ a, Rep n a L → wpOp P os (fun e a' w' => ∃ L', Rep n a' L' ∧ thn K (fun _ _ _ => False) e L' w') i
    (fun a' w' => ∃ L', Rep n a' L' ∧ Ops P n os (i + 1) K L' w') a w) : Ops P n os i K L w := by
  intro a ha
  rw [range'_head ho, wpOps_cons]
  exact wpOp_mono (fun a' w' ⟨L', r, q⟩ => q a' r) (h a ha)

theorem Ops.unwanted {o : Oper} {L' : Loc} (ho : os[i]? = some o) (hw : wants os L o = some false) (hs : setL n o.dst undef L = some L') (h : Ops P n os (i + 1) K L' w) :
    Ops P n os i K L w := by
  refine Ops.cons ho fun a ha => ?_
  unfold wpOp
  simp only [ho, wants_wanted ha hw, Bool.false_eq_true, if_false]
  exact ⟨L', ha.setL hs, h⟩

/-- An operation whose run is known. -/
theorem Ops.run {o : Oper} {v : Value} {w' : World} {L' : Loc} (ho : at? os L i = some o) (hr : (execOp (ev L) o).run P w = .ok (.value v) w') (hs : setL n o.dst v L = some L')
    (h : Ops P n os (i + 1) K L' w') : Ops P n os i K L w := by
  obtain ⟨h0, hw, hp, hk⟩ := at?_spec ho
  refine Ops.cons h0 fun a ha => ?_
  unfold wpOp
  simp only [h0, wants_wanted ha hw, if_true, Oper.wp, exec_known ha hp hk, hr, Oper.upon]
  exact .inl ⟨L', ha.setL hs, h⟩

theorem Ops.runSkip {o : Oper} {w' : World} {L' : Loc} (ho : at? os L i = some o) (hr : (execOp (ev L) o).run P w = .ok .skip w') (hs : setL n o.dst undef L = some L')
    (h : Ops P n os (i + 1) K L' w') : Ops P n os i K L w := by
  obtain ⟨h0, hw, hp, hk⟩ := at?_spec ho
  refine Ops.cons h0 fun a ha => ?_
  unfold wpOp
  simp only [h0, wants_wanted ha hw, if_true, Oper.wp, exec_known ha hp hk, hr, Oper.upon]
  exact .inl ⟨L', ha.setL hs, h⟩

theorem Ops.regs_go : ∀ (k i : Nat) (L L1 : Loc), regs P n os k i L = some L1 → Ops P n os (i + k) K L1 w → Ops P n os i K L w
  | 0, i, L, L1, h, hn => by simp only [regs, Option.some.injEq] at h; subst h; exact hn
  | k + 1, i, L, L1, h, hn => by
    simp only [regs] at h
    cases ho : os[i]? with
    | none => rw [ho] at h; cases h
    | some o =>
      rw [ho] at h
      simp only at h
      have hn' : Ops P n os (i + 1 + k) K L1 w := by rw [show i + 1 + k = i + (k + 1) from by omega]; exact hn
      cases hw : wants os L o with
      | none => rw [hw] at h; cases h
      | some b =>
        rw [hw] at h
        cases b with
        | false =>
          simp only at h
          cases hs : setL n o.dst undef L with
          | none => rw [hs] at h; cases h
          | some L' => rw [hs] at h; exact Ops.unwanted ho hw hs (Ops.regs_go k (i + 1) L' L1 h hn')
        | true =>
          simp only at h
          cases hx : next? P L o with
          | none => rw [hx] at h; cases h
          | some x =>
            rw [hx] at h
            cases x with
            | value v =>
              simp only at h
              cases hs : setL n o.dst v L with
              | none => rw [hs] at h; cases h
              | some L' =>
                rw [hs] at h
                refine Ops.cons ho fun a ha => ?_
                unfold wpOp
                simp only [ho, wants_wanted ha hw, if_true, Oper.wp, next?_run ha hx, Oper.upon]
                exact .inl ⟨L', ha.setL hs, Ops.regs_go k (i + 1) L' L1 h hn'⟩
            | _ => cases h

/-- k operations at once; only what 'R' names is kept. -/
theorem Ops.regs {j : Nat} (k : Nat) (R : Loc) (hj : Nat.beq (i + k) j = true) (h : (match Q.regs P n os k i L with | some L1 => restrict L1 (R.map Prod.fst) | none => none) = some R)
    (hn : Ops P n os j K R w) : Ops P n os i K L w := by
  cases h1 : Q.regs P n os k i L with
  | none => rw [h1] at h; cases h
  | some L1 =>
    rw [h1] at h
    have := Nat.eq_of_beq_eq_true hj
    subst this
    exact Ops.regs_go k i L L1 h1 (Ops.keep h hn)

/-- A guard, or a test, is parted. -/
theorem Ops.split (b : Bool) (ht : b = true → Ops P n os i K L w) (hf : b = false → Ops P n os i K L w) : Ops P n os i K L w := by
  cases b
  · exact hf rfl
  · exact ht rfl

/-- Where the operation number i calls a Go function: its number and its arguments, run by the kernel. -/
def call? (P : Program) (os : Array Oper) (L : Loc) (i : Nat) : Option (Nat × Array Value) :=
  match at? os L i with
  | some o => match next? P L o with
    | some (.enter f args) => some (f, args)
    | _ => none
  | none => none

def dst? (os : Array Oper) (i : Nat) : Option (Option Tmp) := match os[i]? with | some o => some o.dst | none => none

theorem Ops.call {f : Nat} {args : Array Value} {R : Ending → World → Prop} {d : Option Tmp} (hc : call? P os L i = some (f, args)) (hd : dst? os i = some d) (C : Calls P f args w R)
    (h : ∀ e w', R e w' → ∃ v L', e = .returned v ∧ setL n d v L = some L' ∧ Ops P n os (i + 1) K L' w') : Ops P n os i K L w := by
  unfold call? at hc
  cases h0 : at? os L i with
  | none => rw [h0] at hc; cases hc
  | some o =>
    rw [h0] at hc
    simp only at hc
    cases hx : next? P L o with
    | none => rw [hx] at hc; cases hc
    | some x =>
      rw [hx] at hc
      cases x with
      | enter f' args' =>
        simp only [Option.some.injEq, Prod.mk.injEq] at hc
        obtain ⟨rfl, rfl⟩ := hc
        obtain ⟨ho, hw, _, _⟩ := at?_spec h0
        have hd' : o.dst = d := by simpa [dst?, ho] using hd
        refine Ops.cons ho fun a ha => ?_
        unfold wpOp
        simp only [ho, wants_wanted ha hw, if_true, Oper.wp, next?_run ha hx, Oper.upon]
        refine .inl (Calls.mono C fun e w' he => ?_)
        obtain ⟨v, L', rfl, hs, hn⟩ := h e w' he
        rw [hd']
        exact ⟨L', ha.setL hs, hn⟩
      | _ => cases hc

end

section
variable {P : Program} {n : Nat} {Q : Exit → Loc → World → Prop} {L : Loc} {w : World} {f : Func} {p : List Nat}

theorem q_region (hc : isRegion (cd f p) = true) (h : Ops P n (opsOf (cd f p)) 0 (Q .normal) L w) : wp P n (cd f p) Q L w := by
  intro a ha
  cases e : cd f p with
  | region id os dr =>
    rw [e] at hc h
    cases dr with
    | true => cases hc
    | false =>
      refine Go.wp_region ?_
      have h1 := h a ha
      simp only [opsOf] at h1
      rw [List.range_eq_range']
      have hm : ∀ (l : List Nat) (a : Act) (w : World), wpOps P os (fun e a' w' => ∃ L', Rep n a' L' ∧ thn (Q .normal) (fun _ _ _ => False) e L' w') l a w →
          wpOps P os (fun e a' w' => ∃ L', Rep n a' L' ∧ Q e L' w') l a w := by
        have hq : ∀ e a' w', (∃ L', Rep n a' L' ∧ thn (Q .normal) (fun _ _ _ => False) e L' w') → (∃ L', Rep n a' L' ∧ Q e L' w') := by
          rintro e a' w' ⟨L', r, q⟩
          cases e with
          | normal => exact ⟨L', r, q⟩
          | _ => exact q.elim
        intro l
        induction l with
        | nil => intro a w hh; exact hq _ _ _ hh
        | cons j l ih =>
          intro a w hh
          rw [wpOps_cons] at hh ⊢
          have h2 := wpOp_mono (ih) hh
          unfold wpOp at h2 ⊢
          split
          · rename_i ho; simp only [ho] at h2; exact h2
          · rename_i o ho
            simp only [ho] at h2
            split
            · rename_i hw
              simp only [hw, if_true] at h2
              rcases h2 with h2 | ⟨h2, h3⟩
              · left
                unfold Oper.wp at *
                generalize (execOp a.eval o).run P w = r at *
                cases r with
                | ok x w' =>
                  cases x <;> simp only [Oper.upon] at h2 ⊢ <;> first
                    | exact h2
                    | exact Calls.mono h2 (fun e w'' he => by
                        cases e with
                        | returned _ => exact he
                        | panicked _ => exact hq _ _ _ he
                        | outgrown => obtain ⟨a0, w0, h0⟩ := he; exact ⟨a0, w0, hq _ _ _ h0⟩)
                    | exact Rows.mono h2 (fun _ _ he => he)
                | halt x w' => cases x <;> simp only [Oper.upon] at h2 ⊢ <;> first | exact h2 | exact hq _ _ _ h2
              · right
                obtain ⟨a0, w0, h0⟩ := h3
                exact ⟨h2, a0, w0, hq _ _ _ h0⟩
            · rename_i hw; simp only [hw] at h2; exact h2
      exact hm _ _ _ h1
  | _ => rw [e] at hc; cases hc
end

end Go.Q
