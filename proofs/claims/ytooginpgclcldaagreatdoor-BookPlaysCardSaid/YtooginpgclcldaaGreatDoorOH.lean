/- A range over a function whose elements come in an order of their own, and whose rounds may lay blocks. -/
import Derived.Test.YtooginpgclcldaaGreatDoorLV
import Derived.Test.YtooginpgclcldaaGreatDoorOA
set_option linter.unusedVariables false
namespace Go.Q
open Go.RowKit

/-- As 'TellsN', of elements of which it is known alone which lists of them can come. -/
def TellsM {β : Type} (P : Program) (m : Nat) (gf : Nat) (lb : List Value) (enc : β → List Value) (T : Nat → Prop) (S : List β → Prop) (w0 : World) : Prop :=
  ∀ (l : Nat) (J : List β → World → Prop) (W : World), Keeps T w0 W → (∀ k W1 W2, J k W1 → Loose W.heap.size W1 W2 → J k W2) →
    (∀ pre x W1, J pre W1 → (∃ post, S (pre ++ x :: post)) → YieldAt Fence.wide m P l ⟨enc x⟩ W1 fun e W' => e = .returned (.bool true) ∧ J (pre ++ [x]) W' ∧ Keeps T W1 W' ∧ KeepsFrom W.heap.size W1 W') →
    J [] W → Calls P gf ⟨.func (.yield l) #[] #[] :: lb⟩ W fun e W' => (∃ v, e = .returned v) ∧ ∃ all, S all ∧ J all W'
theorem Loose.le {B B' : Nat} {W W' : World} (k : Loose B' W W') (h : B ≤ B') : Loose B W W' := k.mono fun _ _ hs => ⟨Nat.le_trans h hs.1, hs.2⟩
theorem KeepsFrom.le {B B' : Nat} {W W' : World} (k : KeepsFrom B W W') (h : B ≤ B') : KeepsFrom B' W W' := ⟨k.size, fun i o hB hi ho => k.same i o (Nat.le_trans h hB) hi ho⟩
theorem keepsFrom_put {B l : Nat} {W : World} {o o' : Obj} (h : W.heap[l]? = some o) (hB : l < B) : KeepsFrom B W (W.putObj l o') :=
  ⟨by simp, fun i x hi hx _ => (World.putObj_heap_other (by omega)).trans hx⟩
section
variable {κ α : Type} {w w' : World} {r mb : Nat} {kf : κ → Value} {vf : α → Value} {m rest : List (κ × α)} {last : Option (κ × α)}
theorem IterM.iter (h : IterM w r mb kf vf m rest last) : ∃ o, w.heap[r]? = some o ∧ o.isCells = false := by
  obtain ⟨es, clock, since, seen, c0, hr, _⟩ := h
  exact ⟨_, hr, rfl⟩
theorem IterM.loose {B : Nat} (h : IterM w r mb kf vf m rest last) (hB : B ≤ r) (k : Keeps (fun i => i = r) w w') : Loose B w w' := k.mono fun i _ hi => by
  subst hi
  exact ⟨hB, h.iter⟩
theorem IterM.keepF {B : Nat} {T : Nat → Prop} (h : IterM w r mb kf vf m rest last) (k : Keeps T w w') (kF : KeepsFrom B w w') (hB : B ≤ r) (hT : ¬ T mb) : IterM w' r mb kf vf m rest last := by
  obtain ⟨o, ho, hc⟩ := h.iter
  have e := kF.same r o hB ho hc
  exact h.keep (S := fun i => T i ∧ i ≠ r) ⟨k.os, k.tape, k.output, k.size, fun i hi hn => by
    by_cases hir : i = r
    · subst hir; exact e.trans ho.symm
    · exact k.blk i hi fun ht => hn ⟨ht, hir⟩⟩ (fun h => h.2 rfl) (fun h => hT h.1)
theorem OpsR.go {F : Fence} {P : Program} {m n : Nat} {os : Array Oper} {K : List Deferred → Exit → Loc → World → Prop} {L L' : Loc} {w : World} {i : Nat} {d : Option Tmp} {ds : List Deferred} (hF : Open F) (hd : noDefer os = true) {v : Value} {w' : World} (h0 : okAt os L i = true) (hr : Runs P L (opn os i) w v w') (hdd : dst? os i = some d) (hs : setL n d v L = some L')
    (hn : OpsR F P m n os (i + 1) K ds L' w') : OpsR F P m n os i K ds L w := by
  have h1 := at?_opn h0
  have hd' : (opn os i).dst = d := by have := (at?_spec h1).1; simpa [dst?, this] using hdd
  refine OpsR.run hF hd h1 hr fun a ha => ?_
  show ∃ a2 L', (wd ds a).put (opn os i).dst v = wd ds a2 ∧ _
  rw [hd']
  exact ⟨a.put d v, L', wd_put _ _ _ _, ha.setL hs, hn⟩
theorem came_perm {β : Type} {s p q m : List β} {x : β} (h : (s ++ (p ++ x :: q)).Perm m) : ((s ++ [x]) ++ (p ++ q)).Perm m := by
  refine List.Perm.trans ?_ h
  rw [List.append_assoc]
  exact List.Perm.append_left _ (List.perm_middle (l₁ := p) (l₂ := q) (a := x)).symm
theorem came_next {β : Type} {s p q m : List β} {x : β} (h : (s ++ (p ++ x :: q)).Perm m) : (s ++ x :: (p ++ q)).Perm m := (List.Perm.append_left _ List.perm_middle.symm).trans h
end
/-- A loop over a function that is never left ahead of its end. -/
theorem qr_eachM {β : Type} {P : Program} {m n : Nat} {Q : List Deferred → Exit → Loc → World → Prop} {L : Loc} {w : World} {f : Func} {p : List Nat} {ds : List Deferred} {g : Operand} {ts : List Tmp}
    (hc : isRange (cd f p) = some (g, ⟨ts⟩)) (h1 : 1 ≤ m) {gf : Nat} {lb : List Value} (hg : evo L g = some (.func (.func gf) #[] ⟨lb⟩)) (eg : ∀ args w, (callFunc gf args).run P w = .ok (.enter gf args) w)
    {enc : β → List Value} {T : Nat → Prop} {S : List β → Prop} {w0 : World} (hseq : TellsM P (m - 1 - 1) gf lb enc T S w0) (hT : ∀ i, w.heap.size ≤ i → T i) (hw0 : Keeps T w0 w)
    (I : List β → World → Prop) (hI : ∀ k W W', I k W → Loose w.heap.size W W' → I k W') (h0 : I [] w) (La : β → Loc) (hLa : ∀ x, setLs n ts (enc x) L = some (La x))
    (Ax : β → Loc → World → Prop) (hAx : ∀ x L W W', Ax x L W → Loose w.heap.size W W' → Ax x L W')
    (hassign : ∀ (l : Nat) (pre : List β) (x : β) (W : World), w.heap.size + 1 < W.heap.size → I pre W → (∃ post, S (pre ++ x :: post)) → wpR (Fence.wide.inRound l) P (m - 1 - 1) n (cd f (0 :: p)) (fun ds e L' W' => e = .normal ∧ ds = [] ∧ Keeps none_ W W' ∧ Ax x L' W') [] (La x) W)
    (hbody : ∀ (l : Nat) (pre : List β) (x : β) (L1 : Loc) (W : World), I pre W → (∃ post, S (pre ++ x :: post)) → Ax x L1 W → wpR (Fence.wide.inRound l) P (m - 1 - 1) n (cd f (1 :: p)) (fun _ e _ W' => e = .normal ∧ KeepsFrom w.heap.size W W' ∧ Keeps T W W' ∧ I (pre ++ [x]) W') [] L1 W)
    (hdone : ∀ (D : Nat) (all : List β) (W : World), w.heap.size ≤ D → S all → I all W → W.heap[D]? = some (.deferred (some [])) → Q ({ target := .collected D, args := #[] } :: ds) .normal L W) :
    wpR Fence.wide P m n (cd f p) Q ds L w := by
  intro a ha
  simp only [cd] at hassign hbody
  cases e : cd f p with
  | rangeFunc g' ps assign body =>
    rw [e] at hc hassign hbody
    simp only [isRange, Option.some.injEq, Prod.mk.injEq] at hc
    obtain ⟨rfl, rfl⟩ := hc
    simp only [sub] at hassign hbody
    refine wpIn_rangeFunc fun fn hfn => ?_
    obtain ⟨rec, hrec⟩ : ∃ rec : LoopState → Loop, rec = fun st => { state := st, pending := none, fn, tmps := (wd ds a).tmps, params := ⟨ts⟩, assign, body, defers := w.heap.size } := ⟨_, rfl⟩
    have hev : (wd ds a).eval g' = .func (.func gf) #[] ⟨lb⟩ := ha.ev hg
    obtain ⟨W1, hW1⟩ : ∃ W1, (w.alloc (.deferred (some []))).alloc (.loop (rec .ready)) = W1 := ⟨_, rfl⟩
    have hK1 : Keeps none_ w W1 := by rw [← hW1]; exact (Keeps.alloc w _).trans (Keeps.alloc _ _) (fun _ _ h => h) (fun _ _ h => h)
    have hl1 : W1.heap[w.heap.size + 1]? = some (.loop (rec .ready)) := by
      rw [← hW1]; have := World.alloc_heap_new (w.alloc (.deferred (some []))) (.loop (rec .ready)); rwa [World.size_alloc] at this
    have hd1 : W1.heap[w.heap.size]? = some (.deferred (some [])) := by
      rw [← hW1]; exact ((Keeps.alloc (w.alloc (.deferred (some []))) (.loop (rec .ready))).blk _ (by simp) (fun h => h)).trans (World.alloc_heap_new w _)
    refine ⟨w.heap.size + 1, [{ target := .collected w.heap.size, args := #[] }], W1, { target := .fn (.func gf) ⟨lb⟩, args := #[.func (.yield (w.heap.size + 1)) #[] #[]] }, W1, gf,
      #[.func (.yield (w.heap.size + 1)) #[] #[]] ++ ⟨lb⟩, W1, ?_, ?_, fun f' hf' => True.intro, ?_, fun _ => h1, ?_⟩
    · rw [← hW1, hrec]; exact run_enterLoop_outer _ _ _ _ _
    · simp only [resolve, hev]
      simp [go_sem]
    · simp [invoke, go_sem, eg]
    · refine callsIn_wide.2 ?_
      have harr : (#[.func (.yield (w.heap.size + 1)) #[] #[]] ++ ⟨lb⟩ : Array Value) = ⟨.func (.yield (w.heap.size + 1)) #[] #[] :: lb⟩ := by simp
      rw [harr]
      have hs1 : W1.heap.size = w.heap.size + 2 := by rw [← hW1]; simp
      refine (hseq (w.heap.size + 1) (fun k W => I k W ∧ W.heap[w.heap.size + 1]? = some (.loop (rec .ready)) ∧ W.heap[w.heap.size]? = some (.deferred (some []))) _
        (hw0.trans hK1 (fun _ _ h => h) (fun _ _ h => h.elim)) ?_ ?_ ⟨hI _ _ _ h0 (.none hK1), hl1, hd1⟩).mono ?_
      · rintro k W W' ⟨hi, hl, hd⟩ hk
        exact ⟨hI _ _ _ hi (hk.le (by omega)), (hk.blk _ (Array.getElem?_eq_some_iff.1 hl).1 (fun h => by have := h.1; omega)).trans hl, (hk.blk _ (Array.getElem?_eq_some_iff.1 hd).1 (fun h => by have := h.1; omega)).trans hd⟩
      · rintro pre x W ⟨hi, hl, hd⟩ hpost
        have hLv := hLa x
        have hy := run_yield (P := P) (args := ⟨enc x⟩) hl (by rw [hrec]; simpa using setLs_len hLv)
        refine ⟨_, _, _, _, hy, roundIn_of_wpIn trivial ?_⟩
        have hlt : w.heap.size + 1 < W.heap.size := (Array.getElem?_eq_some_iff.1 hl).1
        have hr := setLs_rep ha hLv
        have ea : ({ tmps := ((rec .ready).params.zip ⟨enc x⟩).foldl (fun t (p, v) => t.setIfInBounds p v) (rec .ready).tmps, defers := [] } : Act) = wd [] { tmps := (ts.zip (enc x)).foldl (fun t x => t.setIfInBounds x.1 x.2) a.tmps, defers := a.defers } := by rw [hrec]; simp [wd]
        have easg : (rec .ready).assign = assign := by rw [hrec]
        have ebdy : (rec .ready).body = body := by rw [hrec]
        rw [easg, ebdy]
        refine (congrArg (fun z => Code.wpIn _ _ P assign _ z W) ea).mpr ?_
        refine wpIn_mono (hassign _ pre x W hlt hi hpost _ hr) ?_
        rintro ex a' W' ⟨ds2, a2, L', rfl, r, rfl, rfl, hka, hax⟩
        have hlA := (hka.blk _ hlt (fun h => h)).trans hl
        have hdA := (hka.blk _ (by omega) (fun h => h)).trans hd
        have hltA : w.heap.size + 1 < W'.heap.size := Nat.lt_of_lt_of_le hlt hka.size
        have hp2 : Loose w.heap.size W' (W'.putObj (w.heap.size + 1) (.loop { rec .ready with state := .busy })) := .put _ (by omega) hlA rfl
        have hl2 : (W'.putObj (w.heap.size + 1) (.loop { rec .ready with state := .busy })).heap[w.heap.size + 1]? = some (.loop { rec .ready with state := .busy }) := World.putObj_heap_same hltA
        have hd2 : (W'.putObj (w.heap.size + 1) (.loop { rec .ready with state := .busy })).heap[w.heap.size]? = some (.deferred (some [])) := (World.putObj_heap_other (by omega)).trans hdA
        refine ⟨_, run_beginRound hlA (by rw [hrec]), ?_⟩
        refine wpIn_mono (hbody _ pre x _ _ (hI _ _ _ (hI _ _ _ hi (.none hka)) hp2) hpost (hAx _ _ _ _ hax hp2) _ r) ?_
        rintro ex3 a3 W3 ⟨_, _, _, _, _, rfl, hkf, hkT, hi3⟩
        have hl3 := hkf.same _ _ (by omega) hl2 rfl
        have hd3 := hkf.same _ _ (Nat.le_refl _) hd2 rfl
        have hlt3 : w.heap.size + 1 < W3.heap.size := (Array.getElem?_eq_some_iff.1 hl3).1
        refine ⟨_, _, run_endRound none hl3, rfl, ⟨hI _ _ _ hi3 (.put _ (by omega) hl3 rfl), ?_, (World.putObj_heap_other (by omega)).trans hd3⟩, ?_, ?_⟩
        · rw [World.putObj_heap_same hlt3, hrec]; rfl
        · have kT : ∀ {X : World} {o : Obj}, X.heap[w.heap.size + 1]? = some o → ∀ o', o.isCells = false → Keeps T X (X.putObj (w.heap.size + 1) o') := fun hx o' ho => (Loose.put (B := w.heap.size) o' (by omega) hx ho).keeps.mono fun i _ h => hT i h
          exact ((hka.trans (kT hlA _ rfl) (fun _ _ h => h.elim) (fun _ _ h => h)).trans hkT (fun _ _ h => h) (fun _ _ h => h)).trans (kT hl3 _ rfl) (fun _ _ h => h) (fun _ _ h => h)
        · exact (((keepsFrom_of hka fun i h => h.elim).trans (keepsFrom_put hlA (by omega))).trans (KeepsFrom.le hkf (by omega))).trans (keepsFrom_put hl3 (by omega))
      · rintro ex W ⟨⟨v, rfl⟩, all, hall, hi, hl, hd⟩
        have hel := run_endLoop (P := P) hl (by rw [hrec]; simp)
        rw [show (rec .ready).pending = none from by rw [hrec]] at hel
        refine ⟨none, _, hel, ?_⟩
        exact ⟨_, a, L, rfl, ha, hdone _ all _ (Nat.le_refl _) hall (hI _ _ _ hi (.put _ (by omega) hl rfl)) ((World.putObj_heap_other (by omega)).trans hd)⟩
  | _ => rw [e] at hc; cases hc
end Go.Q
