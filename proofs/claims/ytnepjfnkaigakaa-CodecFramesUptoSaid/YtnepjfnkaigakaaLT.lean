/- Entries that are spoiled. -/
import Derived.Test.YtnepjfnkaigakaaLI
set_option linter.unusedVariables false
namespace Go.Q
open Go.RowKit

def EntP.worn (x : EntP) : EntP := { x with term := 99 }
/-- The first i entries are spoiled. -/
def wornE (l : List EntP) (i : Nat) : List EntP := (l.take i).map EntP.worn ++ l.drop i
theorem wornE_zero (l : List EntP) : wornE l 0 = l := by simp [wornE]
theorem wornE_len {l : List EntP} {i : Nat} (h : i ≤ l.length) : (wornE l i).length = l.length := by unfold wornE; rw [List.length_append, List.length_map, List.length_take, List.length_drop]; omega
theorem wornE_at {l : List EntP} {i : Nat} {x : EntP} (h : l[i]? = some x) : (wornE l i)[i]? = some x := by
  obtain ⟨h1, h2⟩ := List.getElem?_eq_some_iff.1 h
  unfold wornE
  have hl : ((l.take i).map EntP.worn).length = i := by rw [List.length_map, List.length_take]; omega
  rw [List.getElem?_append_right (by omega), hl, Nat.sub_self, List.getElem?_drop, Nat.add_zero, h]
theorem wornE_next {l : List EntP} {i : Nat} {x : EntP} (h : l[i]? = some x) : (wornE l i).set i x.worn = wornE l (i + 1) := by
  obtain ⟨h1, h2⟩ := List.getElem?_eq_some_iff.1 h
  unfold wornE
  have hl : ((l.take i).map EntP.worn).length = i := by rw [List.length_map, List.length_take]; omega
  rw [List.set_append_right _ _ (by omega), hl, Nat.sub_self, List.drop_eq_getElem_cons h1, h2, List.set_cons_zero, List.take_succ_eq_append_getElem h1, h2, List.map_append, List.append_assoc]
  rfl
theorem flat_set : ∀ {l : List EntP} {i : Nat} {x : EntP}, l[i]? = some x → (l.flatMap EntP.cells).set (i * 2) (i64 99) = (l.set i x.worn).flatMap EntP.cells
  | [], i, x, h => by simp at h
  | y :: l, 0, x, h => by
    simp only [List.getElem?_cons_zero, Option.some.injEq] at h
    subst h
    rfl
  | y :: l, i + 1, x, h => by
    simp only [List.getElem?_cons_succ] at h
    have ih := flat_set h
    rw [List.set_cons_succ, List.flatMap_cons, List.flatMap_cons, ← ih, show (i + 1) * 2 = i * 2 + 2 from by omega]
    rfl
/-- A place in an own row of entries: what lies there may be stored anew. -/
theorem ents_put {w : World} {base e i ec : Nat} {E : Option Addr} {l : List EntP} {x : EntP} (hx : l[i]? = some x) (h : OwnE w base e (.slice E l.length ec) l) :
    ∃ g cur, E = some ⟨g, 0, none⟩ ∧ base ≤ g ∧ Has w g (rowL cur e) ∧ i * 2 < cur.length ∧ ∀ w', Has w' g (rowL (cur.set (i * 2) (i64 99)) e) → OwnE w' base e (.slice E l.length ec) (l.set i x.worn) := by
  obtain ⟨hl, h⟩ := h
  have hi := (List.getElem?_eq_some_iff.1 hx).1
  rcases h with ⟨_, h0⟩ | ⟨g, cap, cur, hv, hg, hh, h1, h2, h3, h4⟩
  · omega
  · simp only [Value.slice.injEq] at hv
    obtain ⟨rfl, _, rfl⟩ := hv
    have hcl : cur.toList.length = ec * 2 := by simpa using h3
    have hset : (l.set i x.worn).length = l.length := List.length_set
    refine ⟨g, cur.toList, rfl, hg, by unfold Has; rw [hh], by omega, fun w' H => ⟨?_, .inr ⟨g, ec, ⟨cur.toList.set (i * 2) (i64 99)⟩, by rw [hset], hg, H, by rw [hset]; exact h1, h2, ?_, ?_⟩⟩⟩
    · rw [flat_len EntP.two]
    · show (cur.toList.set (i * 2) (i64 99)).length = _
      rw [List.length_set]; exact hcl
    · show (cur.toList.set (i * 2) (i64 99)).take _ = _
      rw [hset, List.take_set, h4, flat_set hx]
/-- No two entries' bytes lie in one block. -/
def EntsApart (l : List EntP) : Prop := l.Pairwise fun x y => ∀ g o s g' o' s', x.A = some ⟨g, o, s⟩ → y.A = some ⟨g', o', s'⟩ → g ≠ g'
theorem EntsApart.nil : EntsApart [] := List.Pairwise.nil
theorem EntsApart.add {l : List EntP} {x : EntP} (h : EntsApart l) (hx : ∀ y ∈ l, ∀ g o s, y.A = some ⟨g, o, s⟩ → (Value.slice x.A x.cmd.length x.c).ownBlock = some g → False) : EntsApart (l ++ [x]) := by
  refine List.pairwise_append.2 ⟨h, List.pairwise_singleton _ _, fun y hy z hz g o s g' o' s' h1 h2 e => ?_⟩
  rw [List.mem_singleton] at hz
  subst hz
  exact hx y hy g o s h1 (by rw [h2]; subst e; rfl)
theorem EntsApart.at {l : List EntP} (h : EntsApart l) {i : Nat} {x : EntP} (hx : l[i]? = some x) : ∀ y ∈ l.drop (i + 1), ∀ g o s g' o' s', x.A = some ⟨g, o, s⟩ → y.A = some ⟨g', o', s'⟩ → g ≠ g' := by
  obtain ⟨h1, h2⟩ := List.getElem?_eq_some_iff.1 hx
  intro y hy
  have hd : (l.drop i).Pairwise _ := List.Pairwise.sublist (List.drop_sublist i l) h
  rw [List.drop_eq_getElem_cons h1, h2] at hd
  exact (List.pairwise_cons.1 hd).1 y hy
/-- The message's entries and bytes are short. -/
theorem Rdr.bytes_short (r : Rdr) : r.bytes.1.length ≤ 65536 := by
  have h := Rdr.sized_most r 65536
  unfold Rdr.bytes
  split
  · simp
  · simp only [List.length_take]; omega
theorem Rdr.ents_short : ∀ (n : Nat) (r : Rdr), ∀ x ∈ (Rdr.ents n r).1, x.2.length ≤ 65536
  | 0, r, x, hx => by cases hx
  | n + 1, r, x, hx => by
    unfold Rdr.ents at hx
    split at hx
    · cases hx
    · rcases List.mem_cons.1 hx with rfl | hx
      · exact Rdr.bytes_short _
      · exact Rdr.ents_short n _ x hx
theorem unmsg_short (bs : List UInt8) : (∀ x ∈ (unmsgB bs).1.ents, x.2.length ≤ 65536) ∧ (unmsgB bs).1.data.length ≤ 65536 := by
  unfold unmsgB
  split
  · exact ⟨fun x hx => (by cases hx), by simp [MsgC.zero]⟩
  · split
    · exact ⟨fun x hx => (by cases hx), by simp [MsgC.zero]⟩
    · split
      · exact ⟨Rdr.ents_short _ _, Rdr.bytes_short _⟩
      · exact ⟨fun x hx => (by cases hx), by simp [MsgC.zero]⟩
theorem msg_short {m : MsgP} {er : Int} {bs : List UInt8} (h : (m.core, er) = unmsgB bs) : (∀ x ∈ m.entries, x.cmd.length ≤ 65536) ∧ m.data.length ≤ 65536 := by
  have hs := unmsg_short bs
  rw [← h] at hs
  exact ⟨fun x hx => hs.1 x.key (List.mem_map_of_mem hx), hs.2⟩
end Go.Q
