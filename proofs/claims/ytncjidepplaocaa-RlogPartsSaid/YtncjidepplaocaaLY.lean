/- Entries that are read, where they stand; logs of entries. -/
import Derived.Test.YtncjidepplaocaaLI
import Derived.Test.YtncjidepplaocaaLX
set_option linter.unusedVariables false
namespace Go.Q
open Go.RowKit

/-- The slice v reads as the entries l; what is read of them stands in blocks of T. -/
structure Ents (w : World) (T : Nat → Prop) (v : Value) (l : List EntP) : Prop where
  rd : RdE w v l
  ins : EntsIn w l
  own : l ≠ [] → ∀ i, v.ownBlock = some i → T i
  inn : ∀ x ∈ l, x.cmd ≠ [] → ∀ i, (Value.slice x.A x.cmd.length x.c).ownBlock = some i → T i
  lt : ∀ i, T i → i < w.heap.size
theorem Rd.keep_nil {w w' : World} {sz : Nat} {v : Value} {xs : List Value} (hsz : 0 < sz) (h : Rd w sz v xs) (h0 : xs = []) : Rd w' sz v xs := by
  obtain ⟨A, n, c, rfl, hl, hc, hm, hx⟩ := h
  subst h0
  have hn : n = 0 := by
    rcases Nat.mul_eq_zero.1 (show n * sz = 0 by simpa using hl.symm) with h | h
    · exact h
    · omega
  exact ⟨A, n, c, rfl, hl, hc, hm, fun h => by omega⟩
theorem Ents.keep {S T : Nat → Prop} {w w' : World} {v : Value} {l : List EntP} (h : Ents w T v l) (K : Keeps S w w') (hS : ∀ i, T i → ¬ S i) : Ents w' T v l where
  rd := by
    by_cases hl : l = []
    · exact Rd.keep_nil (by decide) h.rd (by rw [hl]; rfl)
    · exact Rd.keep (by decide) h.rd K fun b hb => hS b (h.own hl b hb)
  ins x hx := by
    by_cases hl : x.cmd = []
    · exact Rd.keep_nil (by decide) (h.ins x hx) (by rw [hl]; rfl)
    · exact Rd.keep (by decide) (h.ins x hx) K fun b hb => hS b (h.inn x hx hl b hb)
  own := h.own
  inn := h.inn
  lt i hi := Nat.lt_of_lt_of_le (h.lt i hi) K.size
theorem Ents.keep0 {T : Nat → Prop} {w w' : World} {v : Value} {l : List EntP} (h : Ents w T v l) (K : Keeps none_ w w') : Ents w' T v l := h.keep K fun _ _ h => h
theorem Ents.mono {T U : Nat → Prop} {w : World} {v : Value} {l : List EntP} (h : Ents w T v l) (hT : ∀ i, T i → U i) (hU : ∀ i, U i → i < w.heap.size) : Ents w U v l :=
  ⟨h.rd, h.ins, fun hl i hi => hT i (h.own hl i hi), fun x hx hc i hi => hT i (h.inn x hx hc i hi), hU⟩
theorem Ents.nil (w : World) : Ents w none_ (.slice none 0 0) [] := ⟨Rd.nil _ _, fun x hx => (by cases hx), fun h => absurd rfl h, fun x hx => (by cases hx), fun i hi => hi.elim⟩
/-- The block of what is read is one of the world's. -/
theorem Rd.lt {w : World} {sz : Nat} {v : Value} {xs : List Value} (h : Rd w sz v xs) (h0 : xs ≠ []) : ∀ i, v.ownBlock = some i → i < w.heap.size := by
  intro i hi
  obtain ⟨A, n, c, rfl, hl, hc, hm, hx⟩ := h
  have hn : 0 < n := by
    rcases Nat.eq_zero_or_pos n with h | h
    · subst h; exact absurd (List.eq_nil_of_length_eq_zero (by simpa using hl)) h0
    · exact h
  obtain ⟨b, off, rfl, hcell⟩ := hx hn
  have hi : b = i := by simpa [Value.ownBlock] using hi
  subst hi
  obtain ⟨u, hu⟩ : ∃ u, xs[0]? = some u := ⟨xs[0]'(List.length_pos_iff.2 h0), List.getElem?_eq_getElem _⟩
  exact World.block_lt_of_cell? w _ (hcell 0 u hu)
theorem ents_ne {l : List EntP} (h : l ≠ []) : l.flatMap EntP.cells ≠ [] := by
  cases l with
  | nil => exact absurd rfl h
  | cons x l => simp [EntP.cells]
/-- Entries that came in. -/
theorem Ents.given {w : World} {v : Value} {l : List EntP} (h : RdE w v l) (hi : EntsIn w l) : Ents w (fun i => i < w.heap.size) v l :=
  ⟨h, hi, fun hl i hb => Rd.lt h (ents_ne hl) i hb, fun x hx hc i hb => Rd.lt (hi x hx) (by intro q; exact hc (by simpa [bv] using q)) i hb, fun _ h => h⟩
theorem Ents.len {T : Nat → Prop} {w : World} {A : Option Addr} {n c : Nat} {l : List EntP} (h : Ents w T (.slice A n c) l) : l.length = n ∧ n ≤ c ∧ c ≤ maxLen := RdT.len EntP.two (by decide) h.rd
theorem Ents.form {T : Nat → Prop} {w : World} {v : Value} {l : List EntP} (h : Ents w T v l) : ∃ A c, v = .slice A l.length c := RdT.form EntP.two (by decide) h.rd
theorem flat_drop {α : Type} {f : α → List Value} {sz : Nat} (hf : ∀ x, (f x).length = sz) : ∀ (l : List α) (k : Nat), (l.flatMap f).drop (k * sz) = (l.drop k).flatMap f
  | l, 0 => by simp
  | [], k + 1 => by simp
  | x :: l, k + 1 => by
    rw [List.flatMap_cons, List.drop_succ_cons, Nat.add_mul, Nat.one_mul, Nat.add_comm, ← List.drop_drop, show sz = (f x).length from (hf x).symm, List.drop_left, hf x]
    exact flat_drop hf l k
theorem flat_take {α : Type} {f : α → List Value} {sz : Nat} (hf : ∀ x, (f x).length = sz) : ∀ (l : List α) (k : Nat), (l.flatMap f).take (k * sz) = (l.take k).flatMap f
  | l, 0 => by simp
  | [], k + 1 => by simp
  | x :: l, k + 1 => by
    rw [List.flatMap_cons, List.take_succ_cons, List.flatMap_cons, Nat.add_mul, Nat.one_mul, Nat.add_comm, show sz + k * sz = (f x).length + k * sz by rw [hf], List.take_append, List.take_of_length_le (by omega), Nat.add_sub_cancel_left]
    rw [flat_take hf l k]
theorem Ents.cut {T : Nat → Prop} {w : World} {A : Option Addr} {n c : Nat} {l : List EntP} (h : Ents w T (.slice A n c) l) (k e m : Nat) (h1 : k ≤ e) (h2 : e ≤ m) (h3 : m ≤ c) (h4 : e ≤ n) :
    Ents w T (.slice (if m = k then A else Option.map (fun q => Addr.add q (k * 2)) A) (e - k) (m - k)) ((l.drop k).take (e - k)) where
  rd := by
    have := Rd.cut h.rd k e m h1 h2 h3 h4
    rw [flat_drop EntP.two, flat_take EntP.two] at this
    exact this
  ins x hx := h.ins x (List.mem_of_mem_drop (List.mem_of_mem_take hx))
  own hl i hi := by
    have hl0 : l ≠ [] := fun q => by subst q; simp at hl
    cases A with
    | none => simp [Value.ownBlock] at hi
    | some a =>
      refine h.own hl0 i ?_
      split at hi
      · exact hi
      · have ha : (Addr.add a (k * 2)).block = a.block := by unfold Addr.add; split <;> rfl
        simpa [Value.ownBlock, ha] using hi
  inn x hx := h.inn x (List.mem_of_mem_drop (List.mem_of_mem_take hx))
  lt := h.lt
theorem Ents.head {T : Nat → Prop} {w : World} {A : Option Addr} {n c : Nat} {l : List EntP} (h : Ents w T (.slice A n c) l) (e m : Nat) (h2 : e ≤ m) (h3 : m ≤ c) (h4 : e ≤ n) : Ents w T (.slice A e m) (l.take e) := by
  have := h.cut 0 e m (Nat.zero_le _) h2 h3 h4
  rw [List.drop_zero, Nat.sub_zero, Nat.sub_zero] at this
  have hA : (if m = 0 then A else Option.map (fun q => Addr.add q (0 * 2)) A) = A := by cases A <;> simp [Addr.add]
  rwa [hA] at this
theorem append_none {P : Program} {t e ty bytes sz n c : Nat} (E : ElemTy P t e sz bytes) {w : World} {A B : Option Addr} {xs : List Value} (h : Rd w sz (.slice A n n) xs) : (Builtin.append_ #[t, t] ty #[.slice A n n, .slice B 0 c]).run P w = .ok (.slice A n n) w := by
  obtain ⟨i, z, hi, _, hs, _⟩ := E.info
  have hf : ∀ w, (Builtin.firstCells i.size 0 (.slice B 0 c)).run P w = .ok #[] w := by
    intro w
    cases B with
    | none => simp [Builtin.firstCells]
    | some a => simp [Builtin.firstCells, loadCells, loadCellsFrom]
  cases A with
  | none => simp [Builtin.append_, run_underlying E.slice, sizeOf, typeInfo, hi, Builtin.lenOf, hf]
  | some a => simp [Builtin.append_, run_underlying E.slice, sizeOf, typeInfo, hi, Builtin.lenOf, storeCells, hf]
/-- Entries are appended to a slice that has no room. -/
theorem Ents.app {P : Program} {t e ty bytes : Nat} (E : ElemTy P t e 2 bytes) {T U : Nat → Prop} {w : World} {A : Option Addr} {x : Value} {l ys : List EntP} (h : Ents w T (.slice A l.length l.length) l) (hx : Ents w U x ys)
    (hb : (l.length + ys.length) * bytes ≤ 140737488355328) (hl : l.length + ys.length ≤ 140737488355328) :
    ∃ A' c' w', (Builtin.append_ #[t, t] ty #[.slice A l.length l.length, x]).run P w = .ok (.slice A' (l ++ ys).length c') w' ∧ Keeps none_ w w' ∧ Ents w' (fun i => (T i ∨ U i ∨ w.heap.size ≤ i) ∧ i < w'.heap.size) (.slice A' (l ++ ys).length c') (l ++ ys) := by
  have hm : l.length + ys.length ≤ maxLen := by simp only [maxLen]; omega
  rcases Nat.eq_zero_or_pos ys.length with h0 | h0
  · have e0 : ys = [] := List.eq_nil_of_length_eq_zero h0
    subst e0
    obtain ⟨B, d, rfl⟩ := hx.form
    refine ⟨A, l.length, w, ?_, Keeps.refl w, ?_⟩
    · rw [List.append_nil]
      exact append_none E h.rd
    · rw [List.append_nil]
      exact h.mono (fun i hi => ⟨.inl hi, h.lt i hi⟩) fun i hi => hi.2
  · obtain ⟨v', w', hr, ho, hk⟩ := app_clip (ty := ty) E h.rd hx.rd (m := ys.length) (flat_len EntP.two ys) h0 hb hm
    have ho2 : OwnE w' w.heap.size e v' (l ++ ys) := by unfold OwnE OwnT; rw [List.length_append, List.flatMap_append]; exact ho
    obtain ⟨A', c', rfl⟩ := RdT.form EntP.two (by decide) (OwnT.rd ho2)
    refine ⟨A', c', w', hr, hk, ⟨OwnT.rd ho2, fun y hy => ?_, fun _ i hi => ?_, fun y hy hc i hi => ?_, fun i hi => hi.2⟩⟩
    · rcases List.mem_append.1 hy with hy | hy
      · exact (h.keep0 hk).ins y hy
      · exact (hx.keep0 hk).ins y hy
    · have := World.ownsRow.lt ho2 i hi
      exact ⟨.inr (.inr this.1), this.2⟩
    · rcases List.mem_append.1 hy with hy | hy
      · exact ⟨.inl (h.inn y hy hc i hi), Nat.lt_of_lt_of_le (h.lt i (h.inn y hy hc i hi)) hk.size⟩
      · exact ⟨.inr (.inl (hx.inn y hy hc i hi)), Nat.lt_of_lt_of_le (hx.lt i (hx.inn y hy hc i hi)) hk.size⟩
end Go.Q
namespace Go.Q
open Go.RowKit
theorem own_empty2 {w : World} {base e sz b : Nat} {α : Type} {f : α → List Value} (H : Has w b (rowL [] e)) (hb : base ≤ b) : OwnT w base e sz f (.slice (some ⟨b, 0, none⟩) 0 0) [] :=
  ⟨by simp, .inr ⟨b, 0, #[], rfl, hb, H, Nat.le_refl _, Nat.zero_le _, by simp, by simp⟩⟩
/-- An own row of entries: nothing, or a block with room behind. -/
theorem own_casesE {w : World} {base e : Nat} {v : Value} {l : List EntP} (h : OwnE w base e v l) :
    v = .slice none 0 0 ∧ l = [] ∨ ∃ G cap rest, v = .slice (some ⟨G, 0, none⟩) l.length cap ∧ base ≤ G ∧ Has w G (rowL (l.flatMap EntP.cells ++ rest) e) ∧ l.length ≤ cap ∧ cap ≤ maxLen ∧ (l.flatMap EntP.cells ++ rest).length = cap * 2 := by
  obtain ⟨hl, h⟩ := h
  rcases h with ⟨hv, hn⟩ | ⟨g, cap, cur, rfl, hb, hg, h1, h2, h3, h4⟩
  · exact .inl ⟨hv, List.eq_nil_of_length_eq_zero hn⟩
  · refine .inr ⟨g, cap, cur.toList.drop (l.length * 2), rfl, hb, ?_, h1, h2, ?_⟩
    · rw [← h4, List.take_append_drop]; exact hg
    · rw [← h4, List.take_append_drop]; simpa using h3
theorem own_casesE_mk {w : World} {base e G cap : Nat} {l : List EntP} {rest : List Value} (hb : base ≤ G) (H : Has w G (rowL (l.flatMap EntP.cells ++ rest) e)) (h1 : l.length ≤ cap) (h2 : cap ≤ maxLen) (h3 : (l.flatMap EntP.cells ++ rest).length = cap * 2) :
    OwnE w base e (.slice (some ⟨G, 0, none⟩) l.length cap) l :=
  ⟨flat_len EntP.two l, .inr ⟨G, cap, ⟨l.flatMap EntP.cells ++ rest⟩, rfl, hb, H, h1, h2, by simpa using h3, by simp only; rw [← flat_len EntP.two l, List.take_left]⟩⟩
theorem flat_at2 {l : List EntP} {rest : List Value} {k : Nat} {x : EntP} (hx : l[k]? = some x) : (l.flatMap EntP.cells ++ rest)[k * 2]? = some (i64 x.term) ∧ (l.flatMap EntP.cells ++ rest)[k * 2 + 1]? = some (.slice x.A x.cmd.length x.c) := by
  have h0 := flat_at EntP.two hx 0 (i64 x.term) rfl
  rw [Nat.add_zero] at h0
  have h1 := flat_at EntP.two hx 1 (.slice x.A x.cmd.length x.c) rfl
  exact ⟨by rw [List.getElem?_append_left (List.getElem?_eq_some_iff.1 h0).1]; exact h0, by rw [List.getElem?_append_left (List.getElem?_eq_some_iff.1 h1).1]; exact h1⟩
theorem flat_set2 : ∀ {l : List EntP} {rest : List Value} {k : Nat} {x : EntP} (A : Option Addr) (c : Nat), l[k]? = some x → (l.flatMap EntP.cells ++ rest).set (k * 2 + 1) (.slice A x.cmd.length c) = (l.set k ⟨x.term, A, c, x.cmd⟩).flatMap EntP.cells ++ rest
  | [], rest, k, x, A, c, h => by simp at h
  | y :: l, rest, 0, x, A, c, h => by
    simp only [List.getElem?_cons_zero, Option.some.injEq] at h
    subst h
    simp [EntP.cells]
  | y :: l, rest, k + 1, x, A, c, h => by
    simp only [List.getElem?_cons_succ] at h
    have := flat_set2 (rest := rest) A c h
    rw [List.set_cons_succ, List.flatMap_cons, List.flatMap_cons, List.append_assoc, List.append_assoc, ← this, show (k + 1) * 2 + 1 = y.cells.length + (k * 2 + 1) by rw [EntP.two]; omega]
    rw [List.set_append_right _ _ (by omega), Nat.add_sub_cancel_left]
theorem key_set {l : List EntP} {k : Nat} {x : EntP} (A : Option Addr) (c : Nat) (h : l[k]? = some x) : (l.set k ⟨x.term, A, c, x.cmd⟩).map EntP.key = l.map EntP.key := by
  rw [List.map_set]
  have : (l.map EntP.key)[k]? = some (x.term, x.cmd) := by rw [List.getElem?_map, h]; rfl
  show (l.map EntP.key).set k (x.term, x.cmd) = _
  obtain ⟨h1, h2⟩ := List.getElem?_eq_some_iff.1 this
  rw [← h2, List.set_getElem_self]
theorem take_set_succ {l : List EntP} {k : Nat} {x y : EntP} (h : l[k]? = some x) : (l.set k y).take (k + 1) = l.take k ++ [y] := by
  obtain ⟨h1, h2⟩ := List.getElem?_eq_some_iff.1 h
  rw [List.take_succ_eq_append_getElem (by rw [List.length_set]; exact h1), List.getElem_set_self, List.take_set_of_le (Nat.le_refl _)]
theorem drop_set_succ {l : List EntP} {k : Nat} {y : EntP} : (l.set k y).drop (k + 1) = l.drop (k + 1) := by
  rw [List.drop_set_of_lt (by omega)]
/-- The copies' bytes are one's own: so it stands. -/
theorem Ents.mine {w : World} {base e e2 G cap : Nat} {l : List EntP} {rest : List Value} (hb : base ≤ G) (H : Has w G (rowL (l.flatMap EntP.cells ++ rest) e)) (h1 : l.length ≤ cap) (h2 : cap ≤ maxLen) (h3 : (l.flatMap EntP.cells ++ rest).length = cap * 2)
    (hM : EntsMine e2 w base (.slice (some ⟨G, 0, none⟩) l.length cap) l) : Ents w (fun i => base ≤ i ∧ i < w.heap.size) (.slice (some ⟨G, 0, none⟩) l.length cap) l := by
  have hO := own_casesE_mk hb H h1 h2 h3
  refine ⟨OwnT.rd hO, hM.ins, fun _ i hi => World.ownsRow.lt hO i hi, fun x hx _ i hi => World.ownsRow.lt (hM x hx).1 i hi, fun i hi => hi.2⟩
theorem run_max {P : Program} {w : World} {ts : Array TypeId} {ty : TypeId} {k k' : IntKind} {x y : Int} : (Builtin.max_ ts ty ⟨[.int k x, .int k' y]⟩).run P w = .ok (.int k (max x y)) w := by
  show Result.ok (Value.int k (if y > x then y else x)) w = _
  congr 2
  rw [Int.max_def]
  split <;> split <;> omega
end Go.Q
namespace Go.Q
theorem Rd.none_nil2 {w : World} {sz n c : Nat} {xs : List Value} (h : Rd w sz (.slice none n c) xs) : xs = [] := by
  obtain ⟨A, n', c', he, hl, _, _, hx⟩ := h
  injection he with e1 e2 e3
  subst e1; subst e2
  rcases Nat.eq_zero_or_pos n with h0 | h0
  · subst h0; exact List.eq_nil_of_length_eq_zero (by simpa using hl)
  · obtain ⟨b, off, hA, _⟩ := hx h0
    cases hA
end Go.Q
namespace Go.Q
open Go.RowKit
section
variable {P : Program} {t e : TypeId} {T : Nat → Prop} {w : World} {A : Option Addr} {c : Nat} {l : List EntP}
/-- A part of entries from k on, as it is cut. -/
theorem Ents.cutRun (ht : P.underlying t = some (.slice e)) (hs : size? P e = some 2) (h : Ents w T (.slice A l.length c) l) (k h2 : Nat) {kl : IntKind} {hi : Option Value} (hhi : hi = none ∧ h2 = l.length ∨ ∃ kk, hi = some (.int kk ((h2 : Nat) : Int))) (h1 : k ≤ h2) (h3 : h2 ≤ l.length) :
    ∃ A2 c2, (∀ w', (Instr.sliceAt t (.slice A l.length c) (some (.int kl ((k : Nat) : Int))) hi none).run P w' = .ok (.slice A2 ((l.drop k).take (h2 - k)).length c2) w') ∧ Ents w T (.slice A2 ((l.drop k).take (h2 - k)).length c2) ((l.drop k).take (h2 - k)) := by
  have hc := h.len
  have e : ((l.drop k).take (h2 - k)).length = h2 - k := by rw [List.length_take, List.length_drop]; omega
  rw [e]
  refine ⟨_, _, fun w' => ?_, h.cut k h2 c h1 (by omega) (Nat.le_refl _) h3⟩
  rcases hhi with ⟨rfl, rfl⟩ | ⟨kk, rfl⟩
  · exact run_cut (sz := 2) k l.length c ht hs (.inr ⟨_, rfl⟩) (.inl ⟨rfl, rfl, rfl⟩) (.inl ⟨rfl, rfl⟩) h1 (by omega) (Nat.le_refl _)
  · exact run_cut (sz := 2) k h2 c ht hs (.inr ⟨_, rfl⟩) (.inr ⟨_, rfl⟩) (.inl ⟨rfl, rfl⟩) h1 (by omega) (Nat.le_refl _)
/-- The first entries, as they are cut. -/
theorem Ents.headRun (ht : P.underlying t = some (.slice e)) (hs : size? P e = some 2) (h : Ents w T (.slice A l.length c) l) (h2 m : Nat) {kh : IntKind} {mx : Option Value} (hmx : mx = none ∧ m = c ∨ ∃ kk, mx = some (.int kk ((m : Nat) : Int))) (h3 : h2 ≤ l.length) (h4 : h2 ≤ m) (h5 : m ≤ c) :
    (∀ w', (Instr.sliceAt t (.slice A l.length c) none (some (.int kh ((h2 : Nat) : Int))) mx).run P w' = .ok (.slice A (l.take h2).length m) w') ∧ Ents w T (.slice A (l.take h2).length m) (l.take h2) := by
  have e : (l.take h2).length = h2 := by rw [List.length_take]; omega
  rw [e]
  refine ⟨fun w' => ?_, h.head h2 m h4 h5 h3⟩
  have := run_cut (P := P) (w := w') (sz := 2) (n := l.length) (c := c) (A := A) 0 h2 m ht hs (lo := none) (hi := some (.int kh ((h2 : Nat) : Int))) (mx := mx) (.inl ⟨rfl, rfl⟩) (.inr ⟨_, rfl⟩) hmx (Nat.zero_le _) h4 h5
  rw [this, Nat.sub_zero, Nat.sub_zero]
  congr 2
  cases A <;> simp [Addr.add]
end
theorem Ents.clip {T : Nat → Prop} {w : World} {A : Option Addr} {c : Nat} {l : List EntP} (h : Ents w T (.slice A l.length c) l) : Ents w T (.slice A l.length l.length) l := by
  have hc := h.len
  have := h.head l.length l.length (Nat.le_refl _) (by omega) (Nat.le_refl _)
  rwa [List.take_length] at this
end Go.Q
