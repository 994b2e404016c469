/- Operations over memory as equations on their runs; regions that draw their order. -/
import Derived.Test.YtnepjfnkaigakaaQ3
namespace Go.Q
open Go.RowKit

def opn (os : Array Oper) (i : Nat) : Oper := match os[i]? with | some o => o | none => default
def okAt (os : Array Oper) (L : Loc) (i : Nat) : Bool := match at? os L i with | some _ => true | none => false

theorem at?_opn {os : Array Oper} {L : Loc} {i : Nat} (h : okAt os L i = true) : at? os L i = some (opn os i) := by
  unfold okAt at h
  cases h0 : at? os L i with
  | none => rw [h0] at h; cases h
  | some o => have := (at?_spec h0).1; simp [opn, this]

/-- In world w the operation comes to the value v and leaves w'. -/
def Runs (P : Program) (L : Loc) (o : Oper) (w : World) (v : Value) (w' : World) : Prop := (execOp (ev L) o).run P w = .ok (.value v) w'
def RunsU (P : Program) (L : Loc) (o : Oper) (w : World) (w' : World) : Prop := (execOp (ev L) o).run P w = .ok .skip w'

section
variable {P : Program} {L : Loc} {o : Oper} {w w' : World} {v : Value}

theorem Runs.pure (h : next? P L o = some (.value v)) : Runs P L o w v w := by
  unfold next? at h
  cases hc : plainOp o.op && knows L o.op.operands.toList with
  | false => rw [hc] at h; cases h
  | true => rw [hc] at h; exact pure?_run _ h w

def ld? (L : Loc) (o : Oper) : Option (TypeId × Addr) :=
  match o.op with
  | .load t x => match ev L x with
    | .pointer (some a) => some (t, a)
    | _ => none
  | _ => none

theorem Runs.load {t : TypeId} {a : Addr} (h : ld? L o = some (t, a)) (hl : Loads P w t a v) : Runs P L o w v w := by
  unfold ld? at h
  cases ho : o.op with
  | load t' x =>
    rw [ho] at h
    simp only at h
    cases hx : ev L x with
    | pointer p =>
      rw [hx] at h
      cases p with
      | none => cases h
      | some a' =>
        simp only [Option.some.injEq, Prod.mk.injEq] at h
        obtain ⟨rfl, rfl⟩ := h
        unfold Loads at hl
        unfold Runs execOp
        simp only [ho, hx, Instr.loadAt, Instr.sureAddr, Sem.run_bind, Sem.run_pure, Result.andThen_ok, hl]
    | _ => rw [hx] at h; cases h
  | _ => rw [ho] at h; cases h

def st? (L : Loc) (o : Oper) : Option (TypeId × Addr × Value) :=
  match o.op with
  | .store t x y => match ev L x with
    | .pointer (some a) => some (t, a, ev L y)
    | _ => none
  | _ => none

theorem RunsU.store {t : TypeId} {a : Addr} {u : Value} (h : st? L o = some (t, a, u)) (hr : (storeVar t a u).run P w = .ok () w') : RunsU P L o w w' := by
  unfold st? at h
  cases ho : o.op with
  | store t' x y =>
    rw [ho] at h
    simp only at h
    cases hx : ev L x with
    | pointer p =>
      rw [hx] at h
      cases p with
      | none => cases h
      | some a' =>
        simp only [Option.some.injEq, Prod.mk.injEq] at h
        obtain ⟨rfl, rfl, hv⟩ := h
        unfold RunsU execOp
        simp only [ho, hx, hv, Instr.storeAt, Instr.sureAddr, Sem.run_bind, Sem.run_pure, Result.andThen_ok, hr]
    | _ => rw [hx] at h; cases h
  | _ => rw [ho] at h; cases h

def bin? (L : Loc) (o : Oper) : Option (BinOp × TypeId × Value × Value) :=
  match o.op with
  | .binOp op t x y _ => some (op, t, ev L x, ev L y)
  | _ => none

theorem Runs.int {op : BinOp} {t : TypeId} {k k' : IntKind} {x y : Int} (h : bin? L o = some (op, t, .int k x, .int k' y)) (hr : (binOp op t (.int k x) (.int k' y)).run P w = .ok v w) : Runs P L o w v w := by
  unfold bin? at h
  cases ho : o.op with
  | binOp op' t' x' y' t2 =>
    rw [ho] at h
    simp only [Option.some.injEq, Prod.mk.injEq] at h
    obtain ⟨rfl, rfl, hx, hy⟩ := h
    unfold Runs execOp
    have hg : (eqGuard op' t' x' y' (Value.int k x) (Value.int k' y)).run P w = .ok () w := by
      unfold eqGuard; cases op' <;> simp [Sem.run_pure]
    simp only [ho, hx, hy, Sem.run_bind, hg, Result.andThen_ok, hr, Sem.run_pure]
  | _ => rw [ho] at h; cases h

theorem run_rem {k : IntKind} {t : TypeId} {x y : Int} (hy : y ≠ 0) : (binOp .rem t (.int k x) (.int k y)).run P w = .ok (.int k (x.tmod y)) w := by
  simp [binOp, Op.intDiv, hy]
theorem run_quo {k : IntKind} {t : TypeId} {x y : Int} (hy : y ≠ 0) : (binOp .quo t (.int k x) (.int k y)).run P w = .ok (.int k (k.wrap (x.tdiv y))) w := by
  simp [binOp, Op.intDiv, hy]

def ix? (L : Loc) (o : Oper) : Option (TypeId × Value × Value) :=
  match o.op with
  | .indexAddr t x y => some (t, ev L x, ev L y)
  | _ => none

/-- The element type's size where t is a slice type; an array's element's size and length. -/
def sliceElem? (P : Program) (t : TypeId) : Option Nat := match P.underlying t with | some (.slice e) => size? P e | _ => none
def arrayElem? (P : Program) (t : TypeId) : Option (Nat × Nat) := match P.underlying t with | some (.array n e) => (match size? P e with | some s => some (n, s) | none => none) | _ => none

theorem Runs.ixSlice {t : TypeId} {b off len cap s off' : Nat} {k : IntKind} {i : Int} (h : ix? L o = some (t, .slice (some ⟨b, off, none⟩) len cap, .int k i)) (hs : sliceElem? P t = some s)
    (h0 : 0 ≤ i) (h1 : i < len) (ho : off + i.toNat * s = off') : Runs P L o w (.pointer (some ⟨b, off', none⟩)) w := by
  unfold ix? at h
  unfold sliceElem? at hs
  cases hop : o.op with
  | indexAddr t' x y =>
    rw [hop] at h
    simp only [Option.some.injEq, Prod.mk.injEq] at h
    obtain ⟨rfl, hx, hy⟩ := h
    cases hu : P.underlying t' with
    | none => rw [hu] at hs; cases hs
    | some d =>
      rw [hu] at hs
      cases d with
      | slice e =>
        simp only at hs
        unfold Runs execOp
        simp only [hop, hx, hy, Instr.indexAt, Sem.run_bind, Sem.run_pure, Result.andThen_ok, asIntOf, run_underlying hu]
        rw [if_pos ⟨h0, h1⟩]
        simp only [Sem.run_bind, run_size hs, Result.andThen_ok, Sem.run_pure, add_plain, ho]
      | _ => cases hs
  | _ => rw [hop] at h; cases h

theorem Runs.ixArray {t : TypeId} {b off len s off' : Nat} {k : IntKind} {i : Int} (h : ix? L o = some (t, .pointer (some ⟨b, off, none⟩), .int k i)) (hs : arrayElem? P t = some (len, s))
    (h0 : 0 ≤ i) (h1 : i < len) (ho : off + i.toNat * s = off') : Runs P L o w (.pointer (some ⟨b, off', none⟩)) w := by
  unfold ix? at h
  unfold arrayElem? at hs
  cases hop : o.op with
  | indexAddr t' x y =>
    rw [hop] at h
    simp only [Option.some.injEq, Prod.mk.injEq] at h
    obtain ⟨rfl, hx, hy⟩ := h
    cases hu : P.underlying t' with
    | none => rw [hu] at hs; cases hs
    | some d =>
      rw [hu] at hs
      cases d with
      | array n e =>
        simp only at hs
        cases he : size? P e with
        | none => rw [he] at hs; cases hs
        | some s' =>
          rw [he] at hs
          simp only [Option.some.injEq, Prod.mk.injEq] at hs
          obtain ⟨rfl, rfl⟩ := hs
          unfold Runs execOp
          simp only [hop, hx, hy, Instr.indexAt, Sem.run_bind, Sem.run_pure, Result.andThen_ok, asIntOf, run_underlying hu, Instr.sureAddr]
          rw [if_pos ⟨h0, h1⟩]
          simp only [Sem.run_bind, run_size he, Result.andThen_ok, Sem.run_pure, add_plain, ho]
      | _ => cases hs
  | _ => rw [hop] at h; cases h

end

section
variable {P : Program} {n : Nat} {os : Array Oper} {K : Loc → World → Prop} {L L' : Loc} {w : World} {i : Nat} {d : Option Tmp}

theorem Ops.go {v : Value} {w' : World} (h0 : okAt os L i = true) (hr : Runs P L (opn os i) w v w') (hd : dst? os i = some d) (hs : setL n d v L = some L')
    (hn : Ops P n os (i + 1) K L' w') : Ops P n os i K L w :=
  Ops.does (at?_opn h0) hr hd hs hn

theorem Ops.goU {w' : World} (h0 : okAt os L i = true) (hr : RunsU P L (opn os i) w w') (hd : dst? os i = some d) (hs : setL n d undef L = some L')
    (hn : Ops P n os (i + 1) K L' w') : Ops P n os i K L w := by
  have h1 := at?_opn h0
  have hd' : (opn os i).dst = d := by have := (at?_spec h1).1; simpa [dst?, this] using hd
  exact Ops.runSkip h1 hr (by rw [hd']; exact hs) hn
end

/-! ### Regions that draw their order -/

def marks (n : Nat) : List Nat → Array Bool
  | [] => Array.replicate n false
  | i :: is => (marks n is).setIfInBounds i true

def drPost (n : Nat) (K : Loc → World → Prop) : Exit → Act → World → Prop := fun e a w => ∃ L, Rep n a L ∧ thn K (fun _ _ _ => False) e L w

def Dr (P : Program) (n : Nat) (os : Array Oper) (S : World → Prop) (fuel : Nat) (is : List Nat) (K : Loc → World → Prop) (L : Loc) (w : World) : Prop :=
  S w → ∀ a, Rep n a L → wpAnyH P .any os (drPost n K) S fuel (marks os.size is) a w

theorem wpAnyH_mono {P : Program} {md : Region.Mode} {os : Array Oper} {Q : Exit → Act → World → Prop} {S S' : World → Prop} (hS : ∀ w, S' w → S w) :
    ∀ (fuel : Nat) (listed : Array Bool) (a : Act) (w : World), wpAnyH P md os Q S' fuel listed a w → wpAnyH P md os Q S fuel listed a w
  | 0, _, _, _, h => h
  | fuel + 1, _, _, _, h => ⟨h.1, fun i hi => wpOp_mono (fun a' w' h' => ⟨hS _ h'.1, wpAnyH_mono hS fuel _ a' w' h'.2⟩) (h.2 i hi)⟩

/-- What a step of a region that draws asks of the numbers alone. -/
def takeOk (os : Array Oper) (is : List Nat) (i : Nat) : Bool :=
  Region.noSelect os && (Region.free .any os (marks os.size is) i && (Region.ready .any os (marks os.size is)).contains i)

section
variable {P : Program} {n : Nat} {os : Array Oper} {K : Loc → World → Prop} {L L' : Loc} {w : World} {i : Nat} {d : Option Tmp} {S : World → Prop} {fuel : Nat} {is : List Nat}

theorem Dr.keep {R : Loc} (hs : restrict L (R.map Prod.fst) = some R) (h : Dr P n os S fuel is K R w) : Dr P n os S fuel is K L w :=
  fun hS a ha => h hS a (ha.sub (restrict_sub hs))

theorem Dr.strong {S' : World → Prop} (hS' : S' w) (hS : ∀ w, S' w → S w) (h : Dr P n os S' fuel is K L w) : Dr P n os S fuel is K L w :=
  fun _ a ha => wpAnyH_mono hS _ _ _ _ (h hS' a ha)

theorem Dr.take {v : Value} (hk : takeOk os is i = true) (h0 : okAt os L i = true) (hr : ∀ w', S w' → Runs P L (opn os i) w' v w') (hd : dst? os i = some d) (hs : setL n d v L = some L')
    (hn : Dr P n os S fuel (i :: is) K L' w) : Dr P n os S (fuel + 1) is K L w := by
  intro hS a ha
  have h1 := at?_opn h0
  obtain ⟨ho, hw, hp, hkn⟩ := at?_spec h1
  simp only [takeOk, Bool.and_eq_true] at hk
  obtain ⟨hk1, hk2, hk3⟩ := hk
  have hd' : (opn os i).dst = d := by simpa [dst?, ho] using hd
  refine wpAnyH_take (v := v) ho hk1 hk2 hk3 (fun c a w h => by obtain ⟨_, _, q⟩ := h; exact q.elim) (.inl ⟨wants_wanted ha hw, fun w' hw' => ?_⟩) hS ?_
  · rw [exec_known ha hp hkn]; exact hr w' hw'
  · have hrep : Rep n (a.put (opn os i).dst v) L' := ha.setL (by rw [hd']; exact hs)
    exact hn hS _ hrep

theorem Dr.unwanted (hk : takeOk os is i = true) (hw : (match os[i]? with | some o => wants os L o | none => none) = some false) (hd : dst? os i = some d) (hs : setL n d undef L = some L')
    (hn : Dr P n os S fuel (i :: is) K L' w) : Dr P n os S (fuel + 1) is K L w := by
  intro hS a ha
  cases ho : os[i]? with
  | none => rw [ho] at hw; cases hw
  | some o =>
    rw [ho] at hw
    simp only at hw
    simp only [takeOk, Bool.and_eq_true] at hk
    obtain ⟨hk1, hk2, hk3⟩ := hk
    have hd' : o.dst = d := by simpa [dst?, ho] using hd
    refine wpAnyH_take (v := undef) ho hk1 hk2 hk3 (fun c a w h => by obtain ⟨_, _, q⟩ := h; exact q.elim) (.inr ⟨wants_wanted ha hw, rfl⟩) hS ?_
    exact hn hS _ (ha.setL (by rw [hd']; exact hs))

/-- Takes of operations that touch no memory, in this order. -/
def takes (P : Program) (n : Nat) (os : Array Oper) : List Nat → List Nat → Loc → Option Loc
  | [], _, L => some L
  | i :: todo, is, L => bif takeOk os is i then
      match os[i]? with
      | none => none
      | some o => match wants os L o with
        | none => none
        | some false => match setL n o.dst undef L with
          | some L' => takes P n os todo (i :: is) L'
          | none => none
        | some true => match next? P L o with
          | some (.value v) => match setL n o.dst v L with
            | some L' => takes P n os todo (i :: is) L'
            | none => none
          | _ => none
    else none

theorem Dr.takes_go : ∀ (todo is : List Nat) (fuel : Nat) (L L1 : Loc), takes P n os todo is L = some L1 → Dr P n os S fuel (todo.reverse ++ is) K L1 w → Dr P n os S (fuel + todo.length) is K L w
  | [], is, fuel, L, L1, h, hn => by simp only [takes, Option.some.injEq] at h; subst h; simpa using hn
  | i :: todo, is, fuel, L, L1, h, hn => by
    simp only [takes] at h
    cases hk : takeOk os is i with
    | false => rw [hk] at h; cases h
    | true =>
      rw [hk] at h
      simp only [cond_true] at h
      have hn' : Dr P n os S fuel (todo.reverse ++ (i :: is)) K L1 w := by simpa using hn
      cases ho : os[i]? with
      | none => rw [ho] at h; cases h
      | some o =>
        rw [ho] at h
        simp only at h
        have hd : dst? os i = some o.dst := by simp [dst?, ho]
        rw [show fuel + (i :: todo).length = (fuel + todo.length) + 1 from by simp; omega]
        cases hw : wants os L o with
        | none => rw [hw] at h; cases h
        | some b =>
          rw [hw] at h
          cases b with
          | false =>
            simp only at h
            cases hs : setL n o.dst undef L with
            | none => rw [hs] at h; cases h
            | some L' => rw [hs] at h; exact Dr.unwanted hk (by rw [ho]; exact hw) hd hs (Dr.takes_go todo (i :: is) fuel L' L1 h hn')
          | true =>
            simp only at h
            cases hx : next? P L o with
            | none => rw [hx] at h; cases h
            | some x =>
              rw [hx] at h
              cases x with
              | value v =>
                simp only at h
                cases hs : setL n o.dst v L with
                | none => rw [hs] at h; cases h
                | some L' =>
                  rw [hs] at h
                  have hop : opn os i = o := by simp [opn, ho]
                  have hok : okAt os L i = true := by
                    unfold next? at hx
                    cases hc : plainOp o.op && knows L o.op.operands.toList with
                    | false => rw [hc] at hx; cases hx
                    | true => simp [okAt, at?, ho, hw, hc]
                  exact Dr.take hk hok (fun w' _ => by rw [hop]; exact Runs.pure hx) hd hs (Dr.takes_go todo (i :: is) fuel L' L1 h hn')
              | _ => cases h

theorem Dr.takes {fuel' : Nat} {is' : List Nat} (todo : List Nat) (R : Loc) (hf : Nat.beq (fuel' + todo.length) fuel = true) (hi : todo.reverse ++ is = is')
    (h : (match Q.takes P n os todo is L with | some L1 => restrict L1 (R.map Prod.fst) | none => none) = some R) (hn : Dr P n os S fuel' is' K R w) : Dr P n os S fuel is K L w := by
  cases h1 : Q.takes P n os todo is L with
  | none => rw [h1] at h; cases h
  | some L1 =>
    rw [h1] at h
    have := Nat.eq_of_beq_eq_true hf
    subst this
    subst hi
    exact Dr.takes_go todo is fuel' L L1 h1 (Dr.keep h hn)

/-- Only number i can come up now. -/
theorem Dr.step (hr : Region.ready .any os (marks os.size is) = [i])
    (h : S w → ∀ a, Rep n a L → wpOp P os (drPost n K) i (fun a' w' => S w' ∧ wpAnyH P .any os (drPost n K) S fuel (marks os.size (i :: is)) a' w') a w) : Dr P n os S (fuel + 1) is K L w := by
  intro hS a ha
  refine wpAnyH_all hr (by simp) fun j hj => ?_
  have : j = i := by simpa using hj
  subst this
  exact h hS a ha

theorem Dr.call {f : Nat} {args : Array Value} {R : Ending → World → Prop} (hr : Region.ready .any os (marks os.size is) = [i]) (hc : call? P os L i = some (f, args)) (hd : dst? os i = some d) (C : S w → Calls P f args w R)
    (h : ∀ e w', R e w' → ∃ v L', e = .returned v ∧ setL n d v L = some L' ∧ S w' ∧ Dr P n os S fuel (i :: is) K L' w') : Dr P n os S (fuel + 1) is K L w := by
  refine Dr.step hr fun hS a ha => ?_
  unfold call? at hc
  cases h0 : at? os L i with
  | none => rw [h0] at hc; cases hc
  | some o =>
    rw [h0] at hc
    simp only at hc
    cases hx : next? P L o with
    | none => rw [hx] at hc; cases hc
    | some x =>
      rw [hx] at hc
      cases x with
      | enter f' args' =>
        simp only [Option.some.injEq, Prod.mk.injEq] at hc
        obtain ⟨rfl, rfl⟩ := hc
        obtain ⟨ho, hw, _, _⟩ := at?_spec h0
        have hd' : o.dst = d := by simpa [dst?, ho] using hd
        unfold wpOp
        simp only [ho, wants_wanted ha hw, if_true, Oper.wp, next?_run ha hx, Oper.upon]
        refine .inl (Calls.mono (C hS) fun e w' he => ?_)
        obtain ⟨v, L', rfl, hs, hS', hn⟩ := h e w' he
        rw [hd']
        exact ⟨hS', hn hS' _ (ha.setL hs)⟩
      | _ => cases hc

theorem Dr.go {v : Value} {w' : World} (hr : Region.ready .any os (marks os.size is) = [i]) (h0 : okAt os L i = true) (hx : Runs P L (opn os i) w v w') (hd : dst? os i = some d) (hs : setL n d v L = some L')
    (hS' : S w') (hn : Dr P n os S fuel (i :: is) K L' w') : Dr P n os S (fuel + 1) is K L w := by
  refine Dr.step hr fun hS a ha => ?_
  have h1 := at?_opn h0
  obtain ⟨ho, hw, hp, hkn⟩ := at?_spec h1
  have hd' : (opn os i).dst = d := by simpa [dst?, ho] using hd
  unfold Runs at hx
  unfold wpOp
  simp only [ho, wants_wanted ha hw, if_true, Oper.wp, exec_known ha hp hkn, hx, Oper.upon]
  exact .inl ⟨hS', hn hS' _ (ha.setL (by rw [hd']; exact hs))⟩

theorem Dr.goU {w' : World} (hr : Region.ready .any os (marks os.size is) = [i]) (h0 : okAt os L i = true) (hx : RunsU P L (opn os i) w w') (hd : dst? os i = some d) (hs : setL n d undef L = some L')
    (hS' : S w') (hn : Dr P n os S fuel (i :: is) K L' w') : Dr P n os S (fuel + 1) is K L w := by
  refine Dr.step hr fun hS a ha => ?_
  have h1 := at?_opn h0
  obtain ⟨ho, hw, hp, hkn⟩ := at?_spec h1
  have hd' : (opn os i).dst = d := by simpa [dst?, ho] using hd
  unfold RunsU at hx
  unfold wpOp
  simp only [ho, wants_wanted ha hw, if_true, Oper.wp, exec_known ha hp hkn, hx, Oper.upon]
  exact .inl ⟨hS', hn hS' _ (ha.setL (by rw [hd']; exact hs))⟩

theorem Dr.done (hr : Region.ready .any os (marks os.size is) = []) (h : K L w) : Dr P n os S fuel is K L w :=
  fun _ _ ha => wpAnyH_done hr ⟨L, ha, h⟩ _

theorem Dr.split (b : Bool) (ht : b = true → Dr P n os S fuel is K L w) (hf : b = false → Dr P n os S fuel is K L w) : Dr P n os S fuel is K L w := by
  cases b
  · exact hf rfl
  · exact ht rfl
end

theorem RunsU.stored {P : Program} {L : Loc} {o : Oper} {w : World} {t : TypeId} {b off : Nat} {v : Value} {xs ys : List Value} {E : TypeId} (h : st? L o = some (t, ⟨b, off, none⟩, v)) (H : Has w b (rowL xs E)) (hst : storeC P t xs off v = some ys) :
    RunsU P L o w (w.setRow b ⟨ys⟩) := RunsU.store h (H.stores hst)

section
variable {P : Program} {n : Nat} {os : Array Oper} {K : Loc → World → Prop} {L L' : Loc} {w : World} {i : Nat} {d : Option Tmp} {S : World → Prop} {fuel : Nat} {is : List Nat}

theorem Ops.put {t : TypeId} {b off : Nat} {v : Value} {xs ys : List Value} {E : TypeId} (h0 : okAt os L i = true) (h : st? L (opn os i) = some (t, ⟨b, off, none⟩, v)) (H : Has w b (rowL xs E)) (hst : storeC P t xs off v = some ys)
    (hd : dst? os i = some d) (hs : setL n d undef L = some L') (hn : ∀ w', Has w' b (rowL ys E) → Keeps (fun j => j = b) w w' → Ops P n os (i + 1) K L' w') : Ops P n os i K L w :=
  Ops.goU h0 (RunsU.stored h H hst) hd hs (hn _ (H.set ys) (Keeps.setRow w b ⟨ys⟩))

theorem Dr.put {t : TypeId} {b off : Nat} {v : Value} {xs ys : List Value} {E : TypeId} (hr : Region.ready .any os (marks os.size is) = [i]) (h0 : okAt os L i = true) (h : st? L (opn os i) = some (t, ⟨b, off, none⟩, v)) (H : Has w b (rowL xs E)) (hst : storeC P t xs off v = some ys)
    (hd : dst? os i = some d) (hs : setL n d undef L = some L') (hn : ∀ w', Has w' b (rowL ys E) → Keeps (fun j => j = b) w w' → S w' ∧ Dr P n os S fuel (i :: is) K L' w') : Dr P n os S (fuel + 1) is K L w := by
  obtain ⟨hS, hD⟩ := hn _ (H.set ys) (Keeps.setRow w b ⟨ys⟩)
  exact Dr.goU hr h0 (RunsU.stored h H hst) hd hs hS hD
end

section
variable {P : Program} {n : Nat} {Q : Exit → Loc → World → Prop} {L : Loc} {w : World} {f : Func} {p : List Nat}

/-- A region that draws: S is to hold of every world from the draw on. -/
theorem q_draw (S : World → Prop) (fuel : Nat) (hm : P.follows .mixedOrders = true) (hc : isDraw (cd f p) = true) (hf : Nat.beq (opsOf (cd f p)).size fuel = true)
    (h : ∀ w', Keeps none_ w w' → w'.heap.size = w.heap.size → w'.heap = w.heap → S w' ∧ Dr P n (opsOf (cd f p)) S fuel [] (Q .normal) L w') : wp P n (cd f p) Q L w := by
  intro a ha
  cases e : cd f p with
  | region id os dr =>
    rw [e] at hc h hf
    cases dr with
    | false => cases hc
    | true =>
      simp only [opsOf] at h hf
      have hfu := Nat.eq_of_beq_eq_true hf
      obtain ⟨hS, hD⟩ := h { w with drawn := w.drawn + 1 } (Keeps.refl w).drew rfl rfl
      refine Go.wp_mono (Go.wp_region_held (Q := drPost n (Q .normal)) (S := S) hm ?_) fun ex a' w' hq => ?_
      · have := hD hS a ha
        rw [← hfu] at this
        exact this
      · obtain ⟨L', r, q⟩ := hq
        cases ex with
        | normal => exact ⟨L', r, q⟩
        | _ => exact q.elim
  | _ => rw [e] at hc; cases hc
end

end Go.Q
