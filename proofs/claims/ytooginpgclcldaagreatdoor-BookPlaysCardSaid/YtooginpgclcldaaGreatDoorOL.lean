/- Rows that are cut; what the reference's book counts, row by row. -/
import Derived.Test.YtooginpgclcldaaGreatDoorOK
import Derived.Test.YtooginpgclcldaaGreatDoorOI
import Derived.Test.YtooginpgclcldaaGreatDoorOG
set_option linter.unusedVariables false
namespace Go.Q
section
variable {α : Type} {f : α → List Value} {sz : Nat} {P : Program} {w : World} {t e : TypeId} {A : Option Addr} {c k : Nat} {l : List α}
theorem flat_take (hf : ∀ x, (f x).length = sz) : ∀ (l : List α) (k : Nat), (l.flatMap f).take (k * sz) = (l.take k).flatMap f
  | [], k => by simp
  | x :: l, 0 => by simp
  | x :: l, k + 1 => by
    rw [List.flatMap_cons, List.take_succ_cons, List.flatMap_cons, List.take_append, hf, List.take_of_length_le (by rw [hf, Nat.add_mul]; omega), show (k + 1) * sz - sz = k * sz from by rw [Nat.add_mul]; omega, flat_take hf l k]
theorem flat_drop (hf : ∀ x, (f x).length = sz) : ∀ (l : List α) (k : Nat), (l.flatMap f).drop (k * sz) = (l.drop k).flatMap f
  | [], k => by simp
  | x :: l, 0 => by simp
  | x :: l, k + 1 => by
    rw [List.flatMap_cons, List.drop_succ_cons, List.drop_append, hf, List.drop_of_length_le (by rw [hf, Nat.add_mul]; omega), List.nil_append, show (k + 1) * sz - sz = k * sz from by rw [Nat.add_mul]; omega, flat_drop hf l k]
theorem run_hi (hf : ∀ x, (f x).length = sz) (h0 : 0 < sz) (ht : P.underlying t = some (.slice e)) (hs : size? P e = some sz) (hR : RdT w sz f (.slice A l.length c) l) (hk : k ≤ l.length) :
    (Instr.sliceAt t (.slice A l.length c) none (some (i64 ((k : Nat) : Int))) none).run P w = .ok (.slice A k c) w ∧ RdT w sz f (.slice A k c) (l.take k) := by
  have hc := (RdT.len hf h0 hR).2
  have h := run_cut (sz := sz) (P := P) (w := w) (t := t) (A := A) (n := l.length) (c := c) 0 k c (lo := none) (hi := some (i64 ((k : Nat) : Int))) (mx := none) ht hs (.inl ⟨rfl, rfl⟩) (.inr ⟨_, rfl⟩) (.inl ⟨rfl, rfl⟩) (Nat.zero_le _) (by omega) (Nat.le_refl _)
  have hr := Rd.cut hR 0 k c (Nat.zero_le _) (by omega) (Nat.le_refl _) hk
  have hA0 : (if c = 0 then A else A.map (·.add (0 * sz))) = A := by cases A <;> simp [Addr.add]
  rw [hA0, Nat.sub_zero, Nat.sub_zero] at h hr
  refine ⟨h, ?_⟩
  rw [Nat.zero_mul, List.drop_zero, flat_take hf] at hr
  exact hr
theorem run_lo (hf : ∀ x, (f x).length = sz) (h0 : 0 < sz) (ht : P.underlying t = some (.slice e)) (hs : size? P e = some sz) (hR : RdT w sz f (.slice A l.length c) l) (hk : k ≤ l.length) :
    ∃ A2, (Instr.sliceAt t (.slice A l.length c) (some (i64 ((k : Nat) : Int))) none none).run P w = .ok (.slice A2 (l.length - k) (c - k)) w ∧ RdT w sz f (.slice A2 (l.length - k) (c - k)) (l.drop k) := by
  have hc := (RdT.len hf h0 hR).2
  have h := run_cut (sz := sz) (P := P) (w := w) (t := t) (A := A) (n := l.length) (c := c) k l.length c (lo := some (i64 ((k : Nat) : Int))) (hi := none) (mx := none) ht hs (.inr ⟨_, rfl⟩) (.inl ⟨rfl, rfl, rfl⟩) (.inl ⟨rfl, rfl⟩) hk hc.1 (Nat.le_refl _)
  have hr := Rd.cut hR k l.length c hk hc.1 (Nat.le_refl _) (Nat.le_refl _)
  refine ⟨_, h, ?_⟩
  rw [flat_drop hf, flat_take hf, List.take_of_length_le (by rw [List.length_drop]; omega)] at hr
  exact hr
end
theorem held_take {S : List AccM} {i : Nat} {a : AccM} (h : S[i]? = some a) : heldN (S.take (i + 1)) = heldN (S.take i) + heldB a.own := by
  have e : ∀ T : List AccM, heldN (T ++ [a]) = heldN T + heldB a.own := fun T => by rw [← heldL_accs, ← heldL_accs, List.map_append]; exact heldL_next _ _
  rw [List.take_add_one, h, Option.toList_some, e]
theorem heldB_t {O : List UInt8} (h : (O == ([] : List UInt8)) = true) : heldB O = 0 := by unfold heldB; rw [if_pos (by simpa using h)]
theorem heldB_f {O : List UInt8} (h : (O == ([] : List UInt8)) = false) : heldB O = 1 := by unfold heldB; rw [if_neg (by simpa using h)]
def keepS (S : List AccM) (k : Int) : List AccM := S.filter fun a => decide (((slotB a.name : Nat) : Int) ≠ k)
theorem keepS_eq (S : List AccM) (k : Int) : keepS S k = dropS S k := by
  unfold keepS dropS
  split
  · exact List.filter_eq_self.2 fun a _ => decide_eq_true (by omega)
  · refine List.filter_congr fun a _ => ?_
    unfold inSlot
    rw [← decide_not]
    exact decide_eq_decide.2 (by omega)
theorem keep_take {S : List AccM} {i : Nat} {a : AccM} (k : Int) (h : S[i]? = some a) : keepS (S.take (i + 1)) k = keepS (S.take i) k ++ if ((slotB a.name : Nat) : Int) ≠ k then [a] else [] := by
  unfold keepS
  rw [List.take_add_one, h, Option.toList_some, List.filter_append]
  congr 1
  by_cases e : ((slotB a.name : Nat) : Int) ≠ k <;> simp [e]
theorem drop_count (S : List AccM) (k : Int) : S.length - (dropS S k).length = dropN S k ∧ (dropS S k).length ≤ S.length := by
  unfold dropN rowsS dropS
  split
  · omega
  · rw [List.length_map]
    have : (S.filter (inSlot k)).length + (S.filter fun a => !inSlot k a).length = S.length := by
      induction S with
      | nil => rfl
      | cons a S ih => cases h : inSlot k a <;> simp [h] <;> omega
    omega
theorem lit2 {w : World} {b : Nat} {E : TypeId} {m0 m1 : Nat} (h0 : m0 < 256) (h1 : m1 < 256) (H : Has w b (rowL [Value.int IntKind.u8 ((m0 : Nat) : Int), Value.int IntKind.u8 ((m1 : Nat) : Int)] E)) :
    RdB w (.slice (some ⟨b, 0, none⟩) 2 2) [byte m0, byte m1] := by
  refine RdB.lit (xs := [byte m0, byte m1]) (E := E) ?_ (by simp [maxLen])
  have e : bv [byte m0, byte m1] = [Value.int IntKind.u8 ((m0 : Nat) : Int), Value.int IntKind.u8 ((m1 : Nat) : Int)] := by
    simp only [bv, List.map, byte_toNat _ h0, byte_toNat _ h1]
  rw [e]; exact H
end Go.Q
