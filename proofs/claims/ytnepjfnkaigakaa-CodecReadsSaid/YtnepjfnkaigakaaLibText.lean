/- A string's bytes behind bytes; bytes that are marked. -/
import Derived.Test.YtnepjfnkaigakaaLibStr
import Derived.Lib.AppendStr
set_option linter.unusedVariables false
namespace Go.Q
open Go.RowKit Go.Lib

theorem strCells_bv (xs : List UInt8) : strCells (str xs) = bv xs := by
  simp [strCells, str, bv]

def u8Ty? (P : Program) (t u : TypeId) : Option TypeId :=
  match P.underlying t, P.underlying u with
  | some (.slice e), some .string => match P.info? e with
    | some i => match i.zero with
      | some (.int .u8 0) => bif Nat.beq i.size 1 && Nat.beq i.bytes 1 then some e else none
      | _ => none
    | none => none
  | _, _ => none

theorem OwnB.appS {P : Program} {w : World} {t u ty e base : Nat} {v : Value} {xs ys : List UInt8} (T : u8Ty? P t u = some e) (h : OwnB w base e v xs) (hl : xs.length + ys.length ≤ 140737488355328) (hbase : base ≤ w.heap.size) :
    ∃ v' w', (Builtin.append_ #[t, u] ty #[v, .string (str ys)]).run P w = .ok v' w' ∧ OwnB w' base e v' (xs ++ ys) ∧ Keeps (fun i => base ≤ i) w w' := by
  unfold u8Ty? at T
  split at T
  · rename_i e' ht hu
    split at T
    · rename_i i hi
      split at T
      · rename_i hz
        cases hb : (Nat.beq i.size 1 && Nat.beq i.bytes 1) with
        | false => rw [hb] at T; cases T
        | true =>
          rw [hb] at T
          simp only [cond_true, Option.some.injEq] at T
          subst T
          simp only [Bool.and_eq_true] at hb
          have hm : xs.length + ys.length ≤ maxLen := by simp only [maxLen]; omega
          obtain ⟨v', w', hr, ho, hg, _⟩ := run_append_own_string (P := P) w base t u ty e' i ht hu hi hz (Nat.eq_of_beq_eq_true hb.1) (Nat.eq_of_beq_eq_true hb.2) v xs.length (bv xs) h (str ys) (by rw [str_size]; exact hm) (by rw [str_size]; exact hl) hbase
          refine ⟨v', w', hr, ?_, (Keeps.of_grown hg).mono fun j hj hS => (h.lt j hS.symm).1⟩
          rw [strCells_bv, str_size] at ho
          unfold OwnB
          rw [List.length_append, bv_append]
          exact ho
      · cases T
    · cases T
  · cases T
/-- How many, then they. -/
def tv (ss : List UInt8) : List UInt8 := uv ss.length ++ ss

/-- A fresh row of bytes is marked: it still reads as it did. -/
theorem run_mark {P : Program} {w : World} {t e : TypeId} {b n c : Nat} {xs : List Value} {E : TypeId} (ht : P.underlying t = some (.slice e)) (he : P.underlying e = some (.int .u8)) (H : Has w b (rowL xs E)) :
    ∃ w', (convert t t (.slice (some ⟨b, 0, none⟩) n c)).run P w = .ok (.slice (some ⟨b, 0, none⟩) n c) w' ∧ Keeps (fun i => i = b) w w' ∧ ∀ j, w'.cell? ⟨b, j, none⟩ = xs[j]? := by
  have hsh : w.shape? b = some (E, xs.length) := by
    unfold Has at H
    simp [World.shape?, H]
  refine ⟨w.freeze ⟨b, xs.length, none⟩ 1, ?_, ⟨rfl, rfl, rfl, by simp [World.freeze], fun i hi hn => ?_⟩, fun j => ?_⟩
  · simp [convert, run_underlying ht, run_underlying he, markStringish, Sem.run_bind, hsh]
  · simp only [World.freeze, Nat.one_ne_zero, if_false]
    rw [Array.getElem?_modify, if_neg (fun h => hn h.symm)]
  · unfold Has at H
    have e : (w.freeze ⟨b, xs.length, none⟩ 1).heap[b]? = some (.cells ⟨xs⟩ E (xs.length, xs.length + 1)) := by
      simp only [World.freeze, Nat.one_ne_zero, if_false]
      rw [Array.getElem?_modify, if_pos rfl, H]
      simp [rowL]
    unfold World.cell?
    rw [e]
    simp
theorem run_markB {P : Program} {w : World} {t e : TypeId} {b : Nat} {bs : List UInt8} {E : TypeId} (ht : sliceOf? P t = some e) (H : Has w b (rowL (bv bs) E)) (hm : bs.length ≤ maxLen) :
    ∃ w', (convert t t (.slice (some ⟨b, 0, none⟩) bs.length bs.length)).run P w = .ok (.slice (some ⟨b, 0, none⟩) bs.length bs.length) w' ∧ Keeps (fun i => i = b) w w' ∧ RdB w' (.slice (some ⟨b, 0, none⟩) bs.length bs.length) bs := by
  unfold sliceOf? at ht
  split at ht
  · rename_i e' h1
    split at ht
    · rename_i h2
      obtain ⟨w', hr, hk, hc⟩ := run_mark (n := bs.length) (c := bs.length) h1 h2 H
      exact ⟨w', hr, hk, _, _, _, rfl, by simp [bv_length], Nat.le_refl _, hm, fun _ => ⟨b, 0, rfl, fun j u hu => by rw [Nat.zero_add, hc]; exact hu⟩⟩
    · cases ht
  · cases ht
end Go.Q
