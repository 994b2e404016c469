/- A range over a function: the rule, and the code behind it. -/
import Derived.Test.YtooginpgclcldaaDoorLM
import Derived.RangeFuncNested
set_option linter.unusedVariables false
namespace Go.Q
open Go.RowKit

def isRange : Code → Option (Operand × Array Tmp)
  | .rangeFunc g ps _ _ => some (g, ps)
  | _ => none
/-- A loop 'for x := range seq' with one variable. I: between two rounds; Ix: where a round has left by a jump; L1: what is known behind the loop variable's assignment. -/
theorem qr_range {α : Type} {P : Program} {m n : Nat} {Q : List Deferred → Exit → Loc → World → Prop} {L : Loc} {w : World} {f : Func} {p : List Nat} {ds : List Deferred} {g : Operand} {t : Tmp}
    (hc : isRange (cd f p) = some (g, #[t])) (h1 : 1 ≤ m) {gf : Nat} {lb : Array Value} (hg : evo L g = some (.func (.func gf) #[] lb)) (eg : ∀ args w, (callFunc gf args).run P w = .ok (.enter gf args) w)
    {enc : α → Value} {Kp : World → World → Prop} {S Sp : List α → Prop} {N : Nat} {w0 : World} (hseq : SeqStopsK Fence.wide (m - 1) P gf lb (fun x => #[enc x]) Kp S Sp N w0)
    (hKr : ∀ W, Kp W W) (hKt : ∀ {A B C : World}, Kp A B → Kp B C → Kp A C) (hKb : ∀ (W : World) (l : Nat) (o o' : Obj), w.heap.size ≤ l → W.heap[l]? = some o → o.isCells = false → o.isWalk = false → Kp W (W.putObj l o')) (hb0 : Below w0.heap.size w0 w)
    (I : List α → World → Prop) (Ix : Code → List α → World → Prop) (hI : OwnFrom w.heap.size I) (hIx : ∀ c, OwnFrom w.heap.size (Ix c)) (h0 : I [] w) (La L1 : α → Loc) (hLa : ∀ x, setL n (some t) (enc x) L = some (La x))
    (hassign : ∀ (l : Nat) (x : α) (W : World), wpR (Fence.wide.inRound l) P (m - 1 - 1) n (cd f (0 :: p)) (fun ds e L' W' => e = .normal ∧ ds = [] ∧ W' = W ∧ L' = L1 x) [] (La x) W)
    (hbody : ∀ (l : Nat) (pre : List α) (x : α) (W : World), I pre W → pre.length < N → wpR (Fence.wide.inRound l) P (m - 1 - 1) n (cd f (1 :: p)) (fun _ e _ W' => ∀ a', ownPostG w.heap.size Kp I Ix (pre ++ [x]) W e a' W') [] (L1 x) W)
    (hdone : ∀ (D : Nat) (xs : List α) (W : World), w.heap.size ≤ D → S xs → I xs W → W.heap[D]? = some (.deferred (some [])) → Q ({ target := .collected D, args := #[] } :: ds) .normal L W)
    (hstop : ∀ (D : Nat) (c : Code) (pre : List α) (W : World), w.heap.size ≤ D → Sp pre → Ix c pre W → W.heap[D]? = some (.deferred (some [])) → wpR Fence.wide P m n c Q ({ target := .collected D, args := #[] } :: ds) L W) :
    wpR Fence.wide P m n (cd f p) Q ds L w := by
  intro a ha
  simp only [cd] at hassign hbody
  cases e : cd f p with
  | rangeFunc g' ps assign body =>
    rw [e] at hc hassign hbody
    simp only [isRange, Option.some.injEq, Prod.mk.injEq] at hc
    obtain ⟨rfl, rfl⟩ := hc
    simp only [sub] at hassign hbody
    refine wpIn_rangeFunc_ownH rfl h1 (gf := gf) (lb := lb) (show (wd ds a).eval g' = _ from ha.ev hg) trivial eg hseq hKt hKb hb0 (fun x => rfl) I Ix hI hIx h0 (fun x a' _ => Rep n a' (L1 x)) (fun x a' s X Y row hs _ _ => hs) ?_ ?_ ?_ ?_
    · intro l pre x W K hi hK
      have hr : Rep n (a.put (some t) (enc x)) (La x) := ha.setL (hLa x)
      have ea : ({ tmps := (#[t].zip #[enc x]).foldl (fun t (p, v) => t.setIfInBounds p v) (wd ds a).tmps, defers := [] } : Act) = wd [] (a.put (some t) (enc x)) := by simp [wd, Act.put]
      refine (congrArg (fun z => Code.wpIn (Fence.wide.inRound l) (m - 1 - 1) P assign (Exit.then K fun _ _ _ => False) z W) ea).mpr ?_
      refine wpIn_mono (hassign l x W _ hr) ?_
      rintro ex a' W' ⟨ds2, a2, L', rfl, r, rfl, rfl, rfl, rfl⟩
      have h2 : wd [] a2 = a2 := by cases a2; have := r.defers; simp only at this; subst this; rfl
      rw [h2]
      exact hK _ _ (KeepsFrom.refl _ _) (hKr _) hi r
    · intro l pre x a' W hl _ hi hax hlen
      have h2 : wd [] a' = a' := by cases a'; have := hax.defers; simp only at this; subst this; rfl
      have h3 := hbody l pre x W hi hlen a' hax
      rw [h2] at h3
      exact wpIn_mono h3 fun ex a3 W3 ⟨_, _, _, _, _, q⟩ => q a3
    · intro D xs W hD hS hi hK
      exact ⟨_, a, L, rfl, ha, hdone D xs W hD hS hi hK⟩
    · intro D c pre W hD hSp hx hK
      exact hstop D c pre W hD hSp hx hK a ha
  | _ => rw [e] at hc; cases hc
end Go.Q
