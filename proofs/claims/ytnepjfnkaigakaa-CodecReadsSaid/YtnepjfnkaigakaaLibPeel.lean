/- A loop whose first round is another one than the later ones. -/
import Derived.Test.YtnepjfnkaigakaaLibDr
set_option linter.unusedVariables false
namespace Go.Q
open Go.RowKit

theorem q_peel {σ : Type} {P : Program} {n : Nat} {f : Func} {p : List Nat} {Q : Exit → Loc → World → Prop} {L : Loc} {w : World} (I : σ → Loc → World → Prop) (m : σ → Nat) (B : Nat) (hc : isLoop (cd f p) = true)
    (first : wp P n (cd f (0 :: p)) (thn (fun L' w' => ∃ s', I s' L' w' ∧ m s' < B) Q) L w)
    (round : ∀ s L w, I s L w → wp P n (cd f (0 :: p)) (thn (fun L' w' => ∃ s', I s' L' w' ∧ m s' < m s) Q) L w) : wp P n (cd f p) Q L w :=
  q_loop (fun (s : Option σ) L' w' => match s with | none => L' = L ∧ w' = w | some s => I s L' w') (fun s => match s with | none => B | some s => m s) none hc ⟨rfl, rfl⟩ fun s L' w' hI => by
    cases s with
    | none =>
      obtain ⟨rfl, rfl⟩ := hI
      refine q_mono first fun e L2 w2 hq => ?_
      cases e with
      | normal => obtain ⟨s', h1, h2⟩ := hq; exact ⟨some s', h1, h2⟩
      | _ => exact hq
    | some s =>
      refine q_mono (round s L' w' hI) fun e L2 w2 hq => ?_
      cases e with
      | normal => obtain ⟨s', h1, h2⟩ := hq; exact ⟨some s', h1, h2⟩
      | _ => exact hq

def ownl (s : Int) (k : Nat) : List Int := (List.range k).map fun i => 1 + ((i : Nat) : Int).tmod s
theorem ownl_length (s : Int) (k : Nat) : (ownl s k).length = k := by simp [ownl]
theorem ownl_succ (s : Int) (k : Nat) : ownl s k ++ [1 + ((k : Nat) : Int).tmod s] = ownl s (k + 1) := by simp [ownl, List.range_succ]
theorem zeros_succ (k : Nat) : List.replicate k (0 : Int) ++ [0] = List.replicate (k + 1) 0 := by rw [List.replicate_succ']
theorem zeros_length (k : Nat) : (List.replicate k (0 : Int)).length = k := by simp
end Go.Q
