/- A range over a function with any number of loop variables. -/
import Derived.Test.YtooginpgclcldaaDoorLQ
set_option linter.unusedVariables false
namespace Go.Q
open Go.RowKit

/-- The loop variables are given their values. -/
def setLs (n : Nat) : List Tmp → List Value → Loc → Option Loc
  | [], [], L => some L
  | t :: ts, v :: vs, L => match setL n (some t) v L with
    | some L' => setLs n ts vs L'
    | none => none
  | _, _, _ => none
theorem setLs_rep {n : Nat} : ∀ {ts : List Tmp} {vs : List Value} {a : Act} {L L' : Loc}, Rep n a L → setLs n ts vs L = some L' → Rep n { tmps := (ts.zip vs).foldl (fun t x => t.setIfInBounds x.1 x.2) a.tmps, defers := a.defers } L'
  | [], [], a, L, L', h, hs => by simp only [setLs, Option.some.injEq] at hs; subst hs; simpa using h
  | [], _ :: _, _, _, _, _, hs => by simp [setLs] at hs
  | _ :: _, [], _, _, _, _, hs => by simp [setLs] at hs
  | t :: ts, v :: vs, a, L, L', h, hs => by
    simp only [setLs] at hs
    cases h1 : setL n (some t) v L with
    | none => rw [h1] at hs; cases hs
    | some L1 =>
      rw [h1] at hs
      exact setLs_rep (a := a.put (some t) v) (h.setL h1) hs
theorem setLs_len {n : Nat} : ∀ {ts : List Tmp} {vs : List Value} {L L' : Loc}, setLs n ts vs L = some L' → vs.length = ts.length
  | [], [], _, _, _ => rfl
  | [], _ :: _, _, _, hs => by simp [setLs] at hs
  | _ :: _, [], _, _, hs => by simp [setLs] at hs
  | t :: ts, v :: vs, L, L', hs => by
    simp only [setLs] at hs
    cases h1 : setL n (some t) v L with
    | none => rw [h1] at hs; cases hs
    | some L1 => rw [h1] at hs; simp [setLs_len hs]
/-- As 'Tells', of elements of several values. -/
def TellsN (P : Program) (m : Nat) (gf : Nat) (lb : List Value) (A : Nat → List Value → World → Prop) (T : Nat → Prop) (N : Nat) (w0 : World) : Prop :=
  ∀ (l : Nat) (J : Nat → World → Prop) (W : World), Keeps T w0 W → (∀ k W W', J k W → Keeps none_ W W' → J k W') →
    (∀ k vs W1, J k W1 → k < N → A k vs W1 → YieldAt Fence.wide m P l ⟨vs⟩ W1 fun e W' => e = .returned (.bool true) ∧ J (k + 1) W' ∧ Keeps T W1 W') →
    J 0 W → Calls P gf ⟨.func (.yield l) #[] #[] :: lb⟩ W fun e W' => (∃ v, e = .returned v) ∧ J N W'
/-- A loop over a function that is never left ahead of its end. -/
theorem qr_eachN {P : Program} {m n : Nat} {Q : List Deferred → Exit → Loc → World → Prop} {L : Loc} {w : World} {f : Func} {p : List Nat} {ds : List Deferred} {g : Operand} {ts : List Tmp}
    (hc : isRange (cd f p) = some (g, ⟨ts⟩)) (h1 : 1 ≤ m) {gf : Nat} {lb : List Value} (hg : evo L g = some (.func (.func gf) #[] ⟨lb⟩)) (eg : ∀ args w, (callFunc gf args).run P w = .ok (.enter gf args) w)
    {A : Nat → List Value → World → Prop} {T : Nat → Prop} {N : Nat} {w0 : World} (hseq : TellsN P (m - 1 - 1) gf lb A T N w0) (hT : ∀ i, w.heap.size ≤ i → T i) (hw0 : Keeps T w0 w)
    (I : Nat → World → Prop) (hI : ∀ k W W', I k W → Loose w.heap.size W W' → I k W') (hA : ∀ k v W W', A k v W → Loose w.heap.size W W' → A k v W') (h0 : I 0 w) (La L1 : List Value → Loc) (hLa : ∀ k v W, k < N → A k v W → setLs n ts v L = some (La v))
    (hassign : ∀ (l k : Nat) (v : List Value) (W : World), k < N → A k v W → wpR (Fence.wide.inRound l) P (m - 1 - 1) n (cd f (0 :: p)) (fun ds e L' W' => e = .normal ∧ ds = [] ∧ W' = W ∧ L' = L1 v) [] (La v) W)
    (hbody : ∀ (l k : Nat) (v : List Value) (W : World), I k W → k < N → A k v W → wpR (Fence.wide.inRound l) P (m - 1 - 1) n (cd f (1 :: p)) (fun _ e _ W' => e = .normal ∧ KeepsFrom w.heap.size W W' ∧ Keeps T W W' ∧ I (k + 1) W') [] (L1 v) W)
    (hdone : ∀ (D : Nat) (W : World), w.heap.size ≤ D → I N W → W.heap[D]? = some (.deferred (some [])) → Q ({ target := .collected D, args := #[] } :: ds) .normal L W) :
    wpR Fence.wide P m n (cd f p) Q ds L w := by
  intro a ha
  simp only [cd] at hassign hbody
  cases e : cd f p with
  | rangeFunc g' ps assign body =>
    rw [e] at hc hassign hbody
    simp only [isRange, Option.some.injEq, Prod.mk.injEq] at hc
    obtain ⟨rfl, rfl⟩ := hc
    simp only [sub] at hassign hbody
    refine wpIn_rangeFunc fun fn hfn => ?_
    obtain ⟨rec, hrec⟩ : ∃ rec : LoopState → Loop, rec = fun st => { state := st, pending := none, fn, tmps := (wd ds a).tmps, params := ⟨ts⟩, assign, body, defers := w.heap.size } := ⟨_, rfl⟩
    have hev : (wd ds a).eval g' = .func (.func gf) #[] ⟨lb⟩ := ha.ev hg
    obtain ⟨W1, hW1⟩ : ∃ W1, (w.alloc (.deferred (some []))).alloc (.loop (rec .ready)) = W1 := ⟨_, rfl⟩
    have hK1 : Keeps none_ w W1 := by rw [← hW1]; exact (Keeps.alloc w _).trans (Keeps.alloc _ _) (fun _ _ h => h) (fun _ _ h => h)
    have hl1 : W1.heap[w.heap.size + 1]? = some (.loop (rec .ready)) := by
      rw [← hW1]; have := World.alloc_heap_new (w.alloc (.deferred (some []))) (.loop (rec .ready)); rwa [World.size_alloc] at this
    have hd1 : W1.heap[w.heap.size]? = some (.deferred (some [])) := by
      rw [← hW1]; exact ((Keeps.alloc (w.alloc (.deferred (some []))) (.loop (rec .ready))).blk _ (by simp) (fun h => h)).trans (World.alloc_heap_new w _)
    refine ⟨w.heap.size + 1, [{ target := .collected w.heap.size, args := #[] }], W1, { target := .fn (.func gf) ⟨lb⟩, args := #[.func (.yield (w.heap.size + 1)) #[] #[]] }, W1, gf,
      #[.func (.yield (w.heap.size + 1)) #[] #[]] ++ ⟨lb⟩, W1, ?_, ?_, fun f' hf' => True.intro, ?_, fun _ => h1, ?_⟩
    · rw [← hW1, hrec]; exact run_enterLoop_outer _ _ _ _ _
    · simp only [resolve, hev]
      simp [go_sem]
    · simp [invoke, go_sem, eg]
    · refine callsIn_wide.2 ?_
      have harr : (#[.func (.yield (w.heap.size + 1)) #[] #[]] ++ ⟨lb⟩ : Array Value) = ⟨.func (.yield (w.heap.size + 1)) #[] #[] :: lb⟩ := by simp
      rw [harr]
      refine (hseq (w.heap.size + 1) (fun k W => I k W ∧ W.heap[w.heap.size + 1]? = some (.loop (rec .ready)) ∧ W.heap[w.heap.size]? = some (.deferred (some []))) _
        (hw0.trans hK1 (fun _ _ h => h) (fun _ _ h => h.elim)) ?_ ?_ ⟨hI 0 _ _ h0 (.none hK1), hl1, hd1⟩).mono ?_
      · rintro k W W' ⟨hi, hl, hd⟩ hk
        exact ⟨hI _ _ _ hi (.none hk), (hk.blk _ (Array.getElem?_eq_some_iff.1 hl).1 (fun h => h)).trans hl, (hk.blk _ (Array.getElem?_eq_some_iff.1 hd).1 (fun h => h)).trans hd⟩
      · rintro k v W ⟨hi, hl, hd⟩ hkN hAv
        have hLv := hLa k v W hkN hAv
        have hy := run_yield (P := P) (args := ⟨v⟩) hl (by rw [hrec]; simpa using setLs_len hLv)
        refine ⟨_, _, _, _, hy, roundIn_of_wpIn trivial ?_⟩
        have hlt : w.heap.size + 1 < W.heap.size := (Array.getElem?_eq_some_iff.1 hl).1
        have hr := setLs_rep ha hLv
        have ea : ({ tmps := ((rec .ready).params.zip ⟨v⟩).foldl (fun t (p, v) => t.setIfInBounds p v) (rec .ready).tmps, defers := [] } : Act) = wd [] { tmps := (ts.zip v).foldl (fun t x => t.setIfInBounds x.1 x.2) a.tmps, defers := a.defers } := by rw [hrec]; simp [wd]
        have easg : (rec .ready).assign = assign := by rw [hrec]
        have ebdy : (rec .ready).body = body := by rw [hrec]
        rw [easg, ebdy]
        refine (congrArg (fun z => Code.wpIn _ _ P assign _ z W) ea).mpr ?_
        refine wpIn_mono (hassign _ k v W hkN hAv _ hr) ?_
        rintro ex a' W' ⟨ds2, a2, L', rfl, r, rfl, rfl, rfl, rfl⟩
        have hp2 : Loose w.heap.size W' (W'.putObj (w.heap.size + 1) (.loop { rec .ready with state := .busy })) := .put _ (by omega) hl rfl
        have hl2 : (W'.putObj (w.heap.size + 1) (.loop { rec .ready with state := .busy })).heap[w.heap.size + 1]? = some (.loop { rec .ready with state := .busy }) := World.putObj_heap_same hlt
        have hd2 : (W'.putObj (w.heap.size + 1) (.loop { rec .ready with state := .busy })).heap[w.heap.size]? = some (.deferred (some [])) := (World.putObj_heap_other (by omega)).trans hd
        refine ⟨_, run_beginRound hl (by rw [hrec]), ?_⟩
        refine wpIn_mono (hbody _ k v _ (hI _ _ _ hi hp2) hkN (hA _ _ _ _ hAv hp2) _ r) ?_
        rintro ex3 a3 W3 ⟨_, _, _, _, _, rfl, hkf, hkT, hi3⟩
        have hl3 := hkf.same _ _ (by omega) hl2 rfl
        have hd3 := hkf.same _ _ (Nat.le_refl _) hd2 rfl
        have hlt3 : w.heap.size + 1 < W3.heap.size := (Array.getElem?_eq_some_iff.1 hl3).1
        refine ⟨_, _, run_endRound none hl3, rfl, ⟨hI _ _ _ hi3 (.put _ (by omega) hl3 rfl), ?_, (World.putObj_heap_other (by omega)).trans hd3⟩, ?_⟩
        · rw [World.putObj_heap_same hlt3, hrec]; rfl
        · have kT : ∀ {X : World} {o : Obj}, X.heap[w.heap.size + 1]? = some o → ∀ o', o.isCells = false → Keeps T X (X.putObj (w.heap.size + 1) o') := fun hx o' ho => (Loose.put (B := w.heap.size) o' (by omega) hx ho).keeps.mono fun i _ h => hT i h
          exact ((kT hl _ rfl).trans hkT (fun _ _ h => h) (fun _ _ h => h)).trans (kT hl3 _ rfl) (fun _ _ h => h) (fun _ _ h => h)
      · rintro ex W ⟨⟨v, rfl⟩, hi, hl, hd⟩
        have hel := run_endLoop (P := P) hl (by rw [hrec]; simp)
        rw [show (rec .ready).pending = none from by rw [hrec]] at hel
        refine ⟨none, _, hel, ?_⟩
        exact ⟨_, a, L, rfl, ha, hdone _ _ (Nat.le_refl _) (hI _ _ _ hi (.put _ (by omega) hl rfl)) ((World.putObj_heap_other (by omega)).trans hd)⟩
  | _ => rw [e] at hc; cases hc
theorem retv_cell_cell_tmp {P : Program} {fn : Func} {w : World} {L : Loc} {t t' t'' : Tmp} {ty ty' : TypeId} {a a' : Addr} {v v' v'' : Value} (h : fn.results = #[.cell t ty, .cell t' ty', .tmp t'']) (hv : lk L t = some (.pointer (some a))) (hl : Loads P w ty a v)
    (hv' : lk L t' = some (.pointer (some a'))) (hl' : Loads P w ty' a' v') (hv'' : lk L t'' = some v'') : retv P fn w (.tuple #[v, v', v'']) L := by
  intro tmps ht
  have h1 := ht t _ hv
  have h2 := ht t' _ hv'
  have h3 := ht t'' _ hv''
  unfold Loads at hl hl'
  simp [results, h, h1, h2, h3, asAddr, hl, hl']
end Go.Q
