/- Regions that draw: a load and a call, in either order. -/
import Derived.Test.YtnepjfnkaigakaaLibDr
set_option linter.unusedVariables false
namespace Go.Q
open Go.RowKit

section
variable {P : Program} {n : Nat} {os : Array Oper} {K : Loc → World → Prop} {L L' : Loc} {w : World} {i j : Nat} {d di dj : Option Tmp} {S : World → Prop} {fuel : Nat} {is : List Nat}

theorem Dr.callStep {f : Nat} {args : Array Value} {R : Ending → World → Prop} (hc : call? P os L i = some (f, args)) (hd : dst? os i = some d) (C : Calls P f args w R)
    (h : ∀ e w', R e w' → ∃ v L', e = .returned v ∧ setL n d v L = some L' ∧ S w' ∧ Dr P n os S fuel (i :: is) K L' w') {a : Act} (ha : Rep n a L) :
    wpOp P os (drPost n K) i (fun a' w' => S w' ∧ wpAnyH P .any os (drPost n K) S fuel (marks os.size (i :: is)) a' w') a w := by
  unfold call? at hc
  cases h0 : at? os L i with
  | none => rw [h0] at hc; cases hc
  | some o =>
    rw [h0] at hc
    simp only at hc
    cases hx : next? P L o with
    | none => rw [hx] at hc; cases hc
    | some x =>
      rw [hx] at hc
      cases x with
      | enter f' args' =>
        simp only [Option.some.injEq, Prod.mk.injEq] at hc
        obtain ⟨rfl, rfl⟩ := hc
        obtain ⟨ho, hw, _, _⟩ := at?_spec h0
        have hd' : o.dst = d := by simpa [dst?, ho] using hd
        unfold wpOp
        simp only [ho, wants_wanted ha hw, if_true, Oper.wp, next?_run ha hx, Oper.upon]
        refine .inl (Calls.mono C fun e w' he => ?_)
        obtain ⟨v, L', rfl, hs, hS', hn⟩ := h e w' he
        exact ⟨hS', hn hS' _ (ha.setL (by rw [hd']; exact hs))⟩
      | _ => cases hc

/-- A load and a call are ready: whichever comes first, the call leaves what is loaded. -/
theorem Dr.load_call {t : TypeId} {a : Addr} {v : Value} {f : Nat} {args : Array Value} {R : Ending → World → Prop} {L1 : Loc} {l : List Nat}
    (hr : Region.ready .any os (marks os.size is) = l) (hl2 : l = [i, j] ∨ l = [j, i]) (hij : Region.ready .any os (marks os.size (i :: is)) = [j]) (hji : Region.ready .any os (marks os.size (j :: is)) = [i]) (hm : marks os.size (i :: j :: is) = marks os.size (j :: i :: is))
    (hi0 : okAt os L i = true) (hld : ld? L (opn os i) = some (t, a)) (hdi : dst? os i = some di) (hsi : setL n di v L = some L1)
    (hc1 : call? P os L1 j = some (f, args)) (hc0 : call? P os L j = some (f, args)) (hdj : dst? os j = some dj)
    (hl : Loads P w t a v) (hS : S w) (C : Calls P f args w R)
    (h : ∀ e w', R e w' → ∃ u Rl L2, e = .returned u ∧ Loads P w' t a v ∧ S w' ∧ (match setL n dj u L1 with | some Lx => restrict Lx (Rl.map Prod.fst) | none => none) = some Rl ∧
      setL n dj u L = some L2 ∧ okAt os L2 i = true ∧ ld? L2 (opn os i) = some (t, a) ∧ (match setL n di v L2 with | some Lx => restrict Lx (Rl.map Prod.fst) | none => none) = some Rl ∧ Dr P n os S fuel (j :: i :: is) K Rl w') : Dr P n os S (fuel + 2) is K L w := by
  intro hS0 act ha
  refine wpAnyH_all hr (by rcases hl2 with rfl | rfl <;> simp) fun q hq => ?_
  have hq : q = i ∨ q = j := by rcases hl2 with rfl | rfl <;> simp at hq <;> omega
  rcases hq with rfl | rfl
  · refine Dr.opStep hi0 (Runs.load hld hl) hdi hsi hS ?_ ha
    refine Dr.call hij hc1 hdj (fun _ => C) fun e w' he => ?_
    obtain ⟨u, Rl, L2, rfl, h1, h2, h3, h4, h5, h6, h7, h8⟩ := h e w' he
    cases hx : setL n dj u L1 with
    | none => rw [hx] at h3; cases h3
    | some Lx =>
      rw [hx] at h3
      exact ⟨u, Lx, rfl, hx, h2, Dr.keep h3 h8⟩
  · refine Dr.callStep hc0 hdj C (fun e w' he => ?_) ha
    obtain ⟨u, Rl, L2, rfl, h1, h2, h3, h4, h5, h6, h7, h8⟩ := h e w' he
    refine ⟨u, L2, rfl, h4, h2, ?_⟩
    cases hx : setL n di v L2 with
    | none => rw [hx] at h7; cases h7
    | some Lx =>
      rw [hx] at h7
      refine Dr.go hji h5 (Runs.load h6 h1) hdi hx h2 (Dr.keep h7 ?_)
      unfold Dr at h8 ⊢
      rw [hm]
      exact h8

/-- The load i floats: the rest goes on with it and without it. L: without, L1: with what it loads. -/
def DrB (P : Program) (n : Nat) (os : Array Oper) (S : World → Prop) (fuel : Nat) (is : List Nat) (i : Nat) (K : Loc → World → Prop) (L L1 : Loc) (w : World) : Prop :=
  Dr P n os S (fuel + 1) is K L w ∧ Dr P n os S fuel (i :: is) K L1 w
theorem Dr.swap {is' : List Nat} (hm : marks os.size is = marks os.size is') (h : Dr P n os S fuel is K L w) : Dr P n os S fuel is' K L w := by
  unfold Dr at h ⊢
  rw [← hm]
  exact h
theorem Dr.float (L1 : Loc) (i : Nat) (h : DrB P n os S fuel is i K L L1 w) : Dr P n os S (fuel + 1) is K L w := h.1
theorem DrB.call {t : TypeId} {a : Addr} {v : Value} {f : Nat} {args : Array Value} {R : Ending → World → Prop} {L1 : Loc} {l : List Nat}
    (hr : Region.ready .any os (marks os.size is) = l) (hl2 : l = [i, j] ∨ l = [j, i]) (hij : Region.ready .any os (marks os.size (i :: is)) = [j]) (hm : marks os.size (i :: j :: is) = marks os.size (j :: i :: is))
    (hi0 : okAt os L i = true) (hld : ld? L (opn os i) = some (t, a)) (hdi : dst? os i = some di) (hsi : (match setL n di v L with | some Lx => restrict Lx (L1.map Prod.fst) | none => none) = some L1)
    (hc1 : call? P os L1 j = some (f, args)) (hc0 : call? P os L j = some (f, args)) (hdj : dst? os j = some dj)
    (hl : Loads P w t a v) (hS : S w) (C : Calls P f args w R)
    (h : ∀ e w', R e w' → ∃ u La Lb, e = .returned u ∧ S w' ∧ setL n dj u L = some La ∧ setL n dj u L1 = some Lb ∧ DrB P n os S fuel (j :: is) i K La Lb w') : DrB P n os S (fuel + 1) is i K L L1 w := by
  have h2 : Dr P n os S (fuel + 1) (i :: is) K L1 w := Dr.call hij hc1 hdj (fun _ => C) fun e w' he => by
    obtain ⟨u, La, Lb, rfl, h2, h3, h4, h5⟩ := h e w' he
    exact ⟨u, Lb, rfl, h4, h2, Dr.swap hm h5.2⟩
  refine ⟨?_, h2⟩
  intro hS0 act ha
  refine wpAnyH_all hr (by rcases hl2 with rfl | rfl <;> simp) fun q hq => ?_
  have hq : q = i ∨ q = j := by rcases hl2 with rfl | rfl <;> simp at hq <;> omega
  rcases hq with rfl | rfl
  · cases hx : setL n di v L with
    | none => rw [hx] at hsi; cases hsi
    | some Lx =>
      rw [hx] at hsi
      exact Dr.opStep hi0 (Runs.load hld hl) hdi hx hS (Dr.keep hsi h2) ha
  · refine Dr.callStep hc0 hdj C (fun e w' he => ?_) ha
    obtain ⟨u, La, Lb, rfl, h2, h3, h4, h5⟩ := h e w' he
    exact ⟨u, La, rfl, h3, h2, h5.1⟩
theorem DrB.new {t : TypeId} {a : Addr} {v : Value} {o : Obj} {V : Nat → Value} {L1 : Loc} {La Lb : Nat → Loc} {l : List Nat}
    (hr : Region.ready .any os (marks os.size is) = l) (hl2 : l = [i, j] ∨ l = [j, i]) (hij : Region.ready .any os (marks os.size (i :: is)) = [j]) (hm : marks os.size (i :: j :: is) = marks os.size (j :: i :: is))
    (hi0 : okAt os L i = true) (hld : ld? L (opn os i) = some (t, a)) (hdi : dst? os i = some di) (hsi : (match setL n di v L with | some Lx => restrict Lx (L1.map Prod.fst) | none => none) = some L1)
    (hn1 : newAt? P os L1 j = some (o, fun b => some (V b))) (hn0 : newAt? P os L j = some (o, fun b => some (V b))) (hdj : dst? os j = some dj) (hsj0 : ∀ b, setL n dj (V b) L = some (La b)) (hsj1 : ∀ b, setL n dj (V b) L1 = some (Lb b))
    (hl : Loads P w t a v) (hS : S w)
    (h : ∀ b w', b = w.heap.size → Has w' b o → Keeps none_ w w' → w'.heap.size = b + 1 → S w' ∧ DrB P n os S fuel (j :: is) i K (La b) (Lb b) w') : DrB P n os S (fuel + 1) is i K L L1 w := by
  obtain ⟨hS2, hD⟩ := h w.heap.size (w.alloc o) rfl (Has.new w o) (Keeps.alloc w o) (by simp)
  have h2 : Dr P n os S (fuel + 1) (i :: is) K L1 w := by
    obtain ⟨h1, h2⟩ := Runs.new (w := w) hn1
    exact Dr.go hij h1 h2 hdj (hsj1 _) hS2 (Dr.swap hm hD.2)
  refine ⟨?_, h2⟩
  intro hS0 act ha
  refine wpAnyH_all hr (by rcases hl2 with rfl | rfl <;> simp) fun q hq => ?_
  have hq : q = i ∨ q = j := by rcases hl2 with rfl | rfl <;> simp at hq <;> omega
  rcases hq with rfl | rfl
  · cases hx : setL n di v L with
    | none => rw [hx] at hsi; cases hsi
    | some Lx =>
      rw [hx] at hsi
      exact Dr.opStep hi0 (Runs.load hld hl) hdi hx hS (Dr.keep hsi h2) ha
  · obtain ⟨h1, h3⟩ := Runs.new (w := w) hn0
    exact Dr.opStep h1 h3 hdj (hsj0 _) hS2 hD.1 ha
theorem DrB.takes {L1 : Loc} {fuel' : Nat} {is' : List Nat} (todo : List Nat) (Ra Rb : Loc) (hf : Nat.beq (fuel' + todo.length) fuel = true) (hi : todo.reverse ++ is = is') (hm : marks os.size (todo.reverse ++ (i :: is)) = marks os.size (i :: is'))
    (ha : (match Q.takes P n os todo is L with | some L1 => restrict L1 (Ra.map Prod.fst) | none => none) = some Ra) (hb : (match Q.takes P n os todo (i :: is) L1 with | some L1 => restrict L1 (Rb.map Prod.fst) | none => none) = some Rb)
    (h : DrB P n os S fuel' is' i K Ra Rb w) : DrB P n os S fuel is i K L L1 w :=
  ⟨Dr.takes (fuel' := fuel' + 1) todo Ra (Nat.beq_eq ▸ (by have := Nat.eq_of_beq_eq_true hf; omega)) hi ha h.1, Dr.takes todo Rb hf rfl hb (Dr.swap hm.symm h.2)⟩
theorem DrB.end_ {t : TypeId} {a : Addr} {v : Value} {L1 R : Loc} (hr : Region.ready .any os (marks os.size is) = [i]) (hi0 : okAt os L i = true) (hld : ld? L (opn os i) = some (t, a)) (hdi : dst? os i = some di)
    (hsi : (match setL n di v L with | some Lx => restrict Lx (R.map Prod.fst) | none => none) = some R) (hs2 : restrict L1 (R.map Prod.fst) = some R) (hl : Loads P w t a v) (hS : S w) (h : Dr P n os S fuel (i :: is) K R w) : DrB P n os S fuel is i K L L1 w := by
  refine ⟨?_, Dr.keep hs2 h⟩
  cases hx : setL n di v L with
  | none => rw [hx] at hsi; cases hsi
  | some Lx =>
    rw [hx] at hsi
    exact Dr.go hr hi0 (Runs.load hld hl) hdi hx hS (Dr.keep hsi h)
theorem DrB.strong {S' : World → Prop} {L1 : Loc} (hS' : S' w) (hS : ∀ w, S' w → S w) (h : DrB P n os S' fuel is i K L L1 w) : DrB P n os S fuel is i K L L1 w := ⟨Dr.strong hS' hS h.1, Dr.strong hS' hS h.2⟩
theorem DrB.keep {L1 R R1 : Loc} (hs : restrict L (R.map Prod.fst) = some R) (hs1 : restrict L1 (R1.map Prod.fst) = some R1) (h : DrB P n os S fuel is i K R R1 w) : DrB P n os S fuel is i K L L1 w := ⟨Dr.keep hs h.1, Dr.keep hs1 h.2⟩
end
end Go.Q
