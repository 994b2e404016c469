/- Lists of numbers as bytes; new blocks in a region that draws. -/
import Derived.Test.YtnepjfnkaigakaaLibBytes
set_option linter.unusedVariables false
namespace Go.Q
open Go.RowKit

abbrev ivs (l : List Int) : List UInt8 := l.flatMap iv
theorem ivs_nil : ivs [] = [] := rfl
theorem ivs_cons (a : Int) (l : List Int) : ivs (a :: l) = iv a ++ ivs l := by simp
theorem ivs_append (l m : List Int) : ivs (l ++ m) = ivs l ++ ivs m := by simp
theorem ivs_take_succ (l : List Int) (k : Nat) (hk : k < l.length) : ivs (l.take (k + 1)) = ivs (l.take k) ++ iv (l.getD k 0) := by
  rw [List.take_succ_eq_append_getElem hk, ivs_append, List.getD_eq_getElem?_getD, List.getElem?_eq_getElem hk]
  simp
theorem ivs_length_le {l : List Int} (h : ∀ x ∈ l, -9223372036854775808 ≤ x ∧ x ≤ 9223372036854775807) : (ivs l).length ≤ 10 * l.length := by
  induction l with
  | nil => simp
  | cons x l ih =>
    rw [ivs_cons, List.length_append, List.length_cons]
    have h1 := iv_length_10 (h x (by simp))
    have h2 := ih (fun y hy => h y (by simp [hy]))
    omega
theorem ivs_take_length {l : List Int} (h : ∀ x ∈ l, -9223372036854775808 ≤ x ∧ x ≤ 9223372036854775807) (k : Nat) (hk : k ≤ l.length) : (ivs (l.take k)).length ≤ 10 * k := by
  have := ivs_length_le (l := l.take k) (fun x hx => h x (List.mem_of_mem_take hx))
  rw [List.length_take, Nat.min_eq_left hk] at this
  exact this
theorem getD_range {l : List Int} (h : ∀ x ∈ l, -9223372036854775808 ≤ x ∧ x ≤ 9223372036854775807) (k : Nat) : -9223372036854775808 ≤ l.getD k 0 ∧ l.getD k 0 ≤ 9223372036854775807 := by
  rw [List.getD_eq_getElem?_getD]
  rcases Nat.lt_or_ge k l.length with hk | hk
  · rw [List.getElem?_eq_getElem hk]; exact h _ (List.getElem_mem hk)
  · rw [List.getElem?_eq_none hk]; simp
theorem zz_neg (n : Int) (h : n < 0) : ((zz n : Nat) : Int) = 2 * (0 - (n + 1)) + 1 := by unfold zz; rw [if_pos h]; omega
theorem zz_pos (n : Int) (h : ¬ n < 0) : ((zz n : Nat) : Int) = 2 * n := by unfold zz; rw [if_neg h]; omega

section
variable {P : Program} {n : Nat} {os : Array Oper} {K : Loc → World → Prop} {L L' : Loc} {w : World} {i : Nat} {d : Option Tmp} {S : World → Prop} {fuel : Nat} {is : List Nat}

theorem Dr.new {o : Obj} {V : Nat → Value} {Ln : Nat → Loc} (hr : Region.ready .any os (marks os.size is) = [i]) (h : newAt? P os L i = some (o, fun b => some (V b))) (hd : dst? os i = some d) (hs : ∀ b, setL n d (V b) L = some (Ln b))
    (hn : ∀ b w', b = w.heap.size → Has w' b o → Keeps none_ w w' → w'.heap.size = b + 1 → S w' ∧ Dr P n os S fuel (i :: is) K (Ln b) w') : Dr P n os S (fuel + 1) is K L w := by
  unfold newAt? at h
  cases h0 : at? os L i with
  | none => rw [h0] at h; cases h
  | some o' =>
    rw [h0] at h
    simp only at h
    have hopn : opn os i = o' := by have := (at?_spec h0).1; simp [opn, this]
    have hok : okAt os L i = true := by simp [okAt, h0]
    have hrun : Runs P L (opn os i) w (V w.heap.size) (w.alloc o) := by rw [hopn]; exact new?_run _ w h rfl
    obtain ⟨h1, h2⟩ := hn w.heap.size _ rfl (Has.new w o) (Keeps.alloc w o) (by simp)
    exact Dr.go hr hok hrun hd (hs _) h1 h2
end
end Go.Q
