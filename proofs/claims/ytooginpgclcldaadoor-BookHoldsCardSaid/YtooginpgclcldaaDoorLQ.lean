/- A range over a function that tells its elements one by one, each of them in memory that may be new. -/
import Derived.Test.YtooginpgclcldaaDoorLO
import Derived.Test.YtooginpgclcldaaDoorLB
set_option linter.unusedVariables false
namespace Go.Q
open Go.RowKit

/-- From W on nothing has changed but blocks from B on that hold no cells. -/
def Loose (B : Nat) (W W' : World) : Prop := Keeps (fun i => B ≤ i ∧ ∃ o, W.heap[i]? = some o ∧ o.isCells = false) W W'
theorem Loose.none {B : Nat} {W W' : World} (k : Keeps none_ W W') : Loose B W W' := k.mono fun _ _ h => h.elim
theorem Loose.put {B : Nat} {W : World} {l : Nat} {o : Obj} (o' : Obj) (hB : B ≤ l) (h : W.heap[l]? = some o) (ho : o.isCells = false) : Loose B W (W.putObj l o') :=
  ⟨rfl, rfl, rfl, by simp, fun i _ hn => World.putObj_heap_other (fun e => hn (by subst e; exact ⟨hB, o, h, ho⟩))⟩
theorem Loose.has {B : Nat} {W W' : World} (k : Loose B W W') {b : Nat} {xs : List Value} {E : TypeId} (h : Has W b (rowL xs E)) : Has W' b (rowL xs E) :=
  h.keep k fun ⟨_, o, ho, hc⟩ => by rw [show W.heap[b]? = some (rowL xs E) from h] at ho; cases ho; cases hc
theorem Loose.keeps {B : Nat} {W W' : World} (k : Loose B W W') : Keeps (fun i => B ≤ i) W W' := k.mono fun _ _ h => h.1
theorem Loose.own {B base e sz n : Nat} {v : Value} {xs : List Value} {W W' : World} (k : Loose B W W') (h : W.ownsRow base e sz v n xs) : W'.ownsRow base e sz v n xs := own_keep h k fun b hb ⟨_, o, ho, hc⟩ => by
  obtain ⟨_, h2⟩ := h
  rcases h2 with h2 | ⟨g, cap, cur, hv, hg, hh, _⟩
  · obtain ⟨rfl, _⟩ := h2; cases hb
  · subst hv
    obtain rfl : g = b := by simpa [Value.ownBlock] using hb
    rw [hh] at ho; cases ho; cases hc
theorem keepsFrom_of {B : Nat} {U : Nat → Prop} {W W' : World} (k : Keeps U W W') (h : ∀ i, U i → B ≤ i → ∃ o, W.heap[i]? = some o ∧ o.isCells = true) : KeepsFrom B W W' :=
  ⟨k.size, fun i o hB hi ho => (k.blk i (Array.getElem?_eq_some_iff.1 hi).1 fun hu => by obtain ⟨o2, h2, h3⟩ := h i hu hB; rw [hi] at h2; cases h2; rw [ho] at h3; cases h3).trans hi⟩

theorem own_is_cells {B e sz n : Nat} {v : Value} {xs : List Value} {W : World} (h : W.ownsRow B e sz v n xs) {i : Nat} (hi : v.ownBlock = some i) : ∃ o, W.heap[i]? = some o ∧ o.isCells = true := by
  obtain ⟨_, h2⟩ := h
  rcases h2 with ⟨rfl, _⟩ | ⟨g, cap, cur, hv, hg, hh, _⟩
  · cases hi
  · subst hv
    obtain rfl : g = i := by simpa [Value.ownBlock] using hi
    exact ⟨_, hh, rfl⟩
/-- A call of a function that has a body enters it. -/
theorem enters {P : Program} {f : FuncId} {fn : Func} (hf : P.funcs[f]? = some fn) (hn : (fn.name == "runtime.NumGoroutine") = false) (hb : fn.body.isSome = true) (args : Array Value) (w : World) : (callFunc f args).run P w = .ok (.enter f args) w := by
  have h1 : fn.name ≠ "runtime.NumGoroutine" := by simpa using hn
  cases hc : fn.body with
  | none => rw [hc] at hb; cases hb
  | some c => simp [callFunc, hf, h1, hc, mark]
/-- The function gf with what it has captured, made ahead of w0, tells N elements one by one, of the k-th of which 'A k' is known; what it reads lies outside T. -/
def Tells (P : Program) (m : Nat) (gf : Nat) (lb : List Value) (A : Nat → Value → World → Prop) (T : Nat → Prop) (N : Nat) (w0 : World) : Prop :=
  ∀ (l : Nat) (J : Nat → World → Prop) (W : World), Keeps T w0 W → (∀ k W W', J k W → Keeps none_ W W' → J k W') →
    (∀ k v W1, J k W1 → k < N → A k v W1 → YieldAt Fence.wide m P l #[v] W1 fun e W' => e = .returned (.bool true) ∧ J (k + 1) W' ∧ Keeps T W1 W') →
    J 0 W → Calls P gf ⟨.func (.yield l) #[] #[] :: lb⟩ W fun e W' => (∃ v, e = .returned v) ∧ J N W'

/-- A loop 'for x := range seq' that is never left ahead of its end. -/
theorem qr_each {P : Program} {m n : Nat} {Q : List Deferred → Exit → Loc → World → Prop} {L : Loc} {w : World} {f : Func} {p : List Nat} {ds : List Deferred} {g : Operand} {t : Tmp}
    (hc : isRange (cd f p) = some (g, #[t])) (h1 : 1 ≤ m) {gf : Nat} {lb : List Value} (hg : evo L g = some (.func (.func gf) #[] ⟨lb⟩)) (eg : ∀ args w, (callFunc gf args).run P w = .ok (.enter gf args) w)
    {A : Nat → Value → World → Prop} {T : Nat → Prop} {N : Nat} {w0 : World} (hseq : Tells P (m - 1 - 1) gf lb A T N w0) (hT : ∀ i, w.heap.size ≤ i → T i) (hw0 : Keeps T w0 w)
    (I : Nat → World → Prop) (hI : ∀ k W W', I k W → Loose w.heap.size W W' → I k W') (hA : ∀ k v W W', A k v W → Loose w.heap.size W W' → A k v W') (h0 : I 0 w) (La L1 : Value → Loc) (hLa : ∀ v, setL n (some t) v L = some (La v))
    (hassign : ∀ (l : Nat) (v : Value) (W : World), wpR (Fence.wide.inRound l) P (m - 1 - 1) n (cd f (0 :: p)) (fun ds e L' W' => e = .normal ∧ ds = [] ∧ W' = W ∧ L' = L1 v) [] (La v) W)
    (hbody : ∀ (l k : Nat) (v : Value) (W : World), I k W → k < N → A k v W → wpR (Fence.wide.inRound l) P (m - 1 - 1) n (cd f (1 :: p)) (fun _ e _ W' => e = .normal ∧ KeepsFrom w.heap.size W W' ∧ Keeps T W W' ∧ I (k + 1) W') [] (L1 v) W)
    (hdone : ∀ (D : Nat) (W : World), w.heap.size ≤ D → I N W → W.heap[D]? = some (.deferred (some [])) → Q ({ target := .collected D, args := #[] } :: ds) .normal L W) :
    wpR Fence.wide P m n (cd f p) Q ds L w := by
  intro a ha
  simp only [cd] at hassign hbody
  cases e : cd f p with
  | rangeFunc g' ps assign body =>
    rw [e] at hc hassign hbody
    simp only [isRange, Option.some.injEq, Prod.mk.injEq] at hc
    obtain ⟨rfl, rfl⟩ := hc
    simp only [sub] at hassign hbody
    refine wpIn_rangeFunc fun fn hfn => ?_
    obtain ⟨rec, hrec⟩ : ∃ rec : LoopState → Loop, rec = fun st => { state := st, pending := none, fn, tmps := (wd ds a).tmps, params := #[t], assign, body, defers := w.heap.size } := ⟨_, rfl⟩
    have hev : (wd ds a).eval g' = .func (.func gf) #[] ⟨lb⟩ := ha.ev hg
    obtain ⟨W1, hW1⟩ : ∃ W1, (w.alloc (.deferred (some []))).alloc (.loop (rec .ready)) = W1 := ⟨_, rfl⟩
    have hK1 : Keeps none_ w W1 := by rw [← hW1]; exact (Keeps.alloc w _).trans (Keeps.alloc _ _) (fun _ _ h => h) (fun _ _ h => h)
    have hl1 : W1.heap[w.heap.size + 1]? = some (.loop (rec .ready)) := by
      rw [← hW1]; have := World.alloc_heap_new (w.alloc (.deferred (some []))) (.loop (rec .ready)); rwa [World.size_alloc] at this
    have hd1 : W1.heap[w.heap.size]? = some (.deferred (some [])) := by
      rw [← hW1]; exact ((Keeps.alloc (w.alloc (.deferred (some []))) (.loop (rec .ready))).blk _ (by simp) (fun h => h)).trans (World.alloc_heap_new w _)
    refine ⟨w.heap.size + 1, [{ target := .collected w.heap.size, args := #[] }], W1, { target := .fn (.func gf) ⟨lb⟩, args := #[.func (.yield (w.heap.size + 1)) #[] #[]] }, W1, gf,
      #[.func (.yield (w.heap.size + 1)) #[] #[]] ++ ⟨lb⟩, W1, ?_, ?_, fun f' hf' => True.intro, ?_, fun _ => h1, ?_⟩
    · rw [← hW1, hrec]; exact run_enterLoop_outer _ _ _ _ _
    · simp only [resolve, hev]
      simp [go_sem]
    · simp [invoke, go_sem, eg]
    · refine callsIn_wide.2 ?_
      have harr : (#[.func (.yield (w.heap.size + 1)) #[] #[]] ++ ⟨lb⟩ : Array Value) = ⟨.func (.yield (w.heap.size + 1)) #[] #[] :: lb⟩ := by simp
      rw [harr]
      refine (hseq (w.heap.size + 1) (fun k W => I k W ∧ W.heap[w.heap.size + 1]? = some (.loop (rec .ready)) ∧ W.heap[w.heap.size]? = some (.deferred (some []))) _
        (hw0.trans hK1 (fun _ _ h => h) (fun _ _ h => h.elim)) ?_ ?_ ⟨hI 0 _ _ h0 (.none hK1), hl1, hd1⟩).mono ?_
      · rintro k W W' ⟨hi, hl, hd⟩ hk
        exact ⟨hI _ _ _ hi (.none hk), (hk.blk _ (Array.getElem?_eq_some_iff.1 hl).1 (fun h => h)).trans hl, (hk.blk _ (Array.getElem?_eq_some_iff.1 hd).1 (fun h => h)).trans hd⟩
      · rintro k v W ⟨hi, hl, hd⟩ hkN hAv
        have hy := run_yield (P := P) (args := #[v]) hl (by rw [hrec]; rfl)
        refine ⟨_, _, _, _, hy, roundIn_of_wpIn trivial ?_⟩
        have hlt : w.heap.size + 1 < W.heap.size := (Array.getElem?_eq_some_iff.1 hl).1
        have hr : Rep n (a.put (some t) v) (La v) := ha.setL (hLa v)
        have ea : ({ tmps := ((rec .ready).params.zip #[v]).foldl (fun t (p, v) => t.setIfInBounds p v) (rec .ready).tmps, defers := [] } : Act) = wd [] (a.put (some t) v) := by rw [hrec]; simp [wd, Act.put]
        have easg : (rec .ready).assign = assign := by rw [hrec]
        have ebdy : (rec .ready).body = body := by rw [hrec]
        rw [easg, ebdy]
        refine (congrArg (fun z => Code.wpIn _ _ P assign _ z W) ea).mpr ?_
        refine wpIn_mono (hassign _ v W _ hr) ?_
        rintro ex a' W' ⟨ds2, a2, L', rfl, r, rfl, rfl, rfl, rfl⟩
        have hp2 : Loose w.heap.size W' (W'.putObj (w.heap.size + 1) (.loop { rec .ready with state := .busy })) := .put _ (by omega) hl rfl
        have hl2 : (W'.putObj (w.heap.size + 1) (.loop { rec .ready with state := .busy })).heap[w.heap.size + 1]? = some (.loop { rec .ready with state := .busy }) := World.putObj_heap_same hlt
        have hd2 : (W'.putObj (w.heap.size + 1) (.loop { rec .ready with state := .busy })).heap[w.heap.size]? = some (.deferred (some [])) := (World.putObj_heap_other (by omega)).trans hd
        refine ⟨_, run_beginRound hl (by rw [hrec]), ?_⟩
        refine wpIn_mono (hbody _ k v _ (hI _ _ _ hi hp2) hkN (hA _ _ _ _ hAv hp2) _ r) ?_
        rintro ex3 a3 W3 ⟨_, _, _, _, _, rfl, hkf, hkT, hi3⟩
        have hl3 := hkf.same _ _ (by omega) hl2 rfl
        have hd3 := hkf.same _ _ (Nat.le_refl _) hd2 rfl
        have hlt3 : w.heap.size + 1 < W3.heap.size := (Array.getElem?_eq_some_iff.1 hl3).1
        refine ⟨_, _, run_endRound none hl3, rfl, ⟨hI _ _ _ hi3 (.put _ (by omega) hl3 rfl), ?_, (World.putObj_heap_other (by omega)).trans hd3⟩, ?_⟩
        · rw [World.putObj_heap_same hlt3, hrec]; rfl
        · have kT : ∀ {X : World} {o : Obj}, X.heap[w.heap.size + 1]? = some o → ∀ o', o.isCells = false → Keeps T X (X.putObj (w.heap.size + 1) o') := fun hx o' ho => (Loose.put (B := w.heap.size) o' (by omega) hx ho).keeps.mono fun i _ h => hT i h
          exact ((kT hl _ rfl).trans hkT (fun _ _ h => h) (fun _ _ h => h)).trans (kT hl3 _ rfl) (fun _ _ h => h) (fun _ _ h => h)
      · rintro ex W ⟨⟨v, rfl⟩, hi, hl, hd⟩
        have hel := run_endLoop (P := P) hl (by rw [hrec]; simp)
        rw [show (rec .ready).pending = none from by rw [hrec]] at hel
        refine ⟨none, _, hel, ?_⟩
        exact ⟨_, a, L, rfl, ha, hdone _ _ (Nat.le_refl _) (hI _ _ _ hi (.put _ (by omega) hl rfl)) ((World.putObj_heap_other (by omega)).trans hd)⟩
  | _ => rw [e] at hc; cases hc
/-- A function's end, nothing put off. -/
theorem retR_norm {P : Program} {m : Nat} {L : Loc} {w : World} {fn : Func} {R : Ending → World → Prop} {v : Value} (hv : retv P fn w v L) (hR : R (.returned v) w) : retR P fn m R [] .normal L w :=
  fun a ha => ⟨v, hv a.tmps ha.val, hR⟩
theorem cut_own {A : Option Addr} {n c k n2 c2 : Nat} {T : Nat → Prop} (h : ∀ b, (Value.slice A n c).ownBlock = some b → ¬ T b) : ∀ b, (Value.slice (if c = k then A else A.map (·.add (k * 1))) n2 c2).ownBlock = some b → ¬ T b := fun b hb => by
  cases A with
  | none => exact h b (by simp [Value.ownBlock] at hb)
  | some a =>
    refine h b ?_
    split at hb
    · exact hb
    · have hb2 : some ((a.add (k * 1)).block) = some b := hb
      have ha : (a.add (k * 1)).block = a.block := by unfold Addr.add; split <;> rfl
      rw [ha] at hb2
      exact hb2
end Go.Q
