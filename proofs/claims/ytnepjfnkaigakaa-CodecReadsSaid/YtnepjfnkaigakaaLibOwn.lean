/- Own rows: appending that tells which block may have changed; bytes of a cut; readers' laws. -/
import Derived.Test.YtnepjfnkaigakaaLibRead3
import Derived.Test.YtnepjfnkaigakaaLibText
import Derived.Test.YtnepjfnkaigakaaLibRow
set_option linter.unusedVariables false
namespace Go.Q
open Go.RowKit

section
variable {P : Program} {w : World} {t ty e sz bytes n base : Nat} {xs ys : List Value} {v : Value}

theorem own_app2 (T : ElemTy P t e sz bytes) (hown : w.ownsRow base e sz v n xs) {x : Value} {m : Nat} (hx : Rd w sz x ys) (hm : ys.length = m * sz) (h1 : oneCells ys = true)
    (hb : (n + m) * bytes ≤ 140737488355328) (hl : n + m ≤ maxLen) (hbase : base ≤ w.heap.size) :
    ∃ v' w', (Builtin.append_ #[t, t] ty #[v, x]).run P w = .ok v' w' ∧ w'.ownsRow base e sz v' (n + m) (xs ++ ys) ∧ Keeps (fun i => v.ownBlock = some i) w w' ∧
      ∀ i, v'.ownBlock = some i → v.ownBlock = some i ∨ w.heap.size ≤ i := by
  rcases Nat.eq_zero_or_pos m with h0 | h0
  · subst h0
    have e0 : ys = [] := List.eq_nil_of_length_eq_zero (by omega)
    subst e0
    obtain ⟨A, k, c, rfl, hk, _⟩ := hx
    have hk0 : k = 0 := by
      have : 0 = k * sz := by simpa using hk
      rcases Nat.mul_eq_zero.1 this.symm with h | h
      · exact h
      · have := T.pos; omega
    subst hk0
    refine ⟨v, w, app_nil_src T hown c A, by simpa using hown, (Keeps.refl w).mono fun _ _ h => h.elim, fun i hi => .inl hi⟩
  · have hc := hown
    obtain ⟨hlen, hc⟩ := hc
    rcases hc with ⟨rfl, rfl⟩ | ⟨g, cap, cur, rfl, hg, hcell, hnc, hcm, hsize, htake⟩
    · have e0 : xs = [] := List.eq_nil_of_length_eq_zero (by omega)
      subst e0
      obtain ⟨g', cap', rest', w', hr, H, f1, f2, f3, K, hgg⟩ := app_row0 (ty := ty) T hx hm h0 (by simpa using hb) (by omega)
      refine ⟨_, w', hr, ⟨by simpa using hm, .inr ⟨g', cap', _, by simp, by omega, H, by omega, f3, by simpa using f1, ?_⟩⟩, K.mono fun _ _ h => h.elim, fun i hi => .inr ?_⟩
      · simp only [Nat.zero_add, List.nil_append]
        show (ys ++ rest').take (m * sz) = ys
        rw [← hm, List.take_left]
      · simp only [Value.ownBlock, Option.some.injEq] at hi
        omega
    · have hsz : cur.toList.length = cap * sz := by simpa using hsize
      have hle : n * sz ≤ cap * sz := Nat.mul_le_mul_right _ hnc
      have hH : Has w g (rowL (xs ++ cur.toList.drop (n * sz)) e) := by
        unfold Has rowL
        rw [← htake, List.take_append_drop]
        exact hcell
      obtain ⟨g', cap', rest', w', hr, H, f1, f2, f3, K, hgg⟩ := app_row (ty := ty) (n := n) (cap := cap) T hH (by rw [← htake, List.length_take]; omega) (by rw [hlen, List.length_drop]; omega) hnc hcm hx hm h0 h1 hb hl
      refine ⟨_, w', hr, ⟨by rw [List.length_append, hlen, hm, Nat.add_mul], .inr ⟨g', cap', _, rfl, ?_, H, f2, f3, by simpa [Nat.add_assoc] using f1, ?_⟩⟩, K.mono fun i _ h => by subst h; rfl, fun i hi => ?_⟩
      · rcases hgg with h | h <;> omega
      · have e : (xs ++ ys).length = (n + m) * sz := by rw [List.length_append, hlen, hm, Nat.add_mul]
        show ((xs ++ ys) ++ rest').take ((n + m) * sz) = xs ++ ys
        rw [← e, List.take_left]
      · simp only [Value.ownBlock, Option.some.injEq] at hi ⊢
        rcases hgg with h | h
        · exact .inl (by omega)
        · exact .inr (by omega)
end

theorem OwnB.app2 {P : Program} {w : World} {t ty e base : Nat} {v x : Value} {xs ys : List UInt8} (T : ElemTy P t e 1 1) (h : OwnB w base e v xs) (hx : RdB w x ys) (hl : xs.length + ys.length ≤ 140737488355328) (hbase : base ≤ w.heap.size) :
    ∃ v' w', (Builtin.append_ #[t, t] ty #[v, x]).run P w = .ok v' w' ∧ OwnB w' base e v' (xs ++ ys) ∧ Keeps (fun i => v.ownBlock = some i) w w' ∧ ∀ i, v'.ownBlock = some i → v.ownBlock = some i ∨ w.heap.size ≤ i := by
  have hm : xs.length + ys.length ≤ maxLen := by simp only [maxLen]; omega
  obtain ⟨v', w', hr, ho, hk, hg⟩ := own_app2 (ty := ty) T h hx (m := ys.length) (by simp [bv_length]) (bv_one ys) (by omega) hm hbase
  refine ⟨v', w', hr, ?_, hk, hg⟩
  unfold OwnB
  rw [List.length_append, bv_append]
  exact ho

theorem left_ne {A A2 : Option Addr} {n c b : Nat} (h : ∀ g o s, A2 = some ⟨g, o, s⟩ → ∃ o2 s2, A = some ⟨g, o2, s2⟩) (ne : ∀ g o s, A = some ⟨g, o, s⟩ → g ≠ b) :
    ∀ i, (Value.slice A2 n c).ownBlock = some i → i ≠ b := by
  intro i hi
  cases A2 with
  | none => cases hi
  | some a =>
    simp only [Value.ownBlock, Option.some.injEq] at hi
    obtain ⟨o2, s2, hA⟩ := h a.block a.off a.spot rfl
    have := ne _ _ _ hA
    omega
theorem own_lt_ne {w : World} {base e b : Nat} {v : Value} {xs : List UInt8} (h : OwnB w base e v xs) (hb : b < base) : ∀ i, v.ownBlock = some i → i ≠ b := fun i hi => by
  have := (World.ownsRow.lt h i hi).1; omega
theorem cut_ne {A : Option Addr} {n c n2 c2 b : Nat} (h : ∀ i, (Value.slice A n c).ownBlock = some i → i ≠ b) : ∀ i, (Value.slice A n2 c2).ownBlock = some i → i ≠ b := fun i hi => h i (by cases A <;> exact hi)

theorem RdB.addr {w : World} {A : Option Addr} {n c : Nat} {bs : List UInt8} (h : RdB w (.slice A n c) bs) (h0 : 0 < bs.length) : ∃ b o, A = some ⟨b, o, none⟩ := by
  obtain ⟨A', n', c', he, hl, hc, hm, hx⟩ := h
  injection he with e1 e2 e3
  subst e1; subst e2; subst e3
  have hn : bs.length = n := by simpa [bv_length] using hl
  obtain ⟨b, off, rfl, _⟩ := hx (by omega)
  exact ⟨b, off, rfl⟩
theorem RdB.ld {P : Program} {t : TypeId} {w : World} {A : Option Addr} {n c k b off : Nat} {bs : List UInt8} {x : UInt8} (h : RdB w (.slice A n c) bs) (ht : isAgg? P t = some false) (hA : A = some ⟨b, off, none⟩) (hx : bs[k]? = some x) :
    Loads P w t ⟨b, off + k, none⟩ (.int .u8 ((x.toNat : Nat) : Int)) := by
  have hk := (List.getElem?_eq_some_iff.1 hx).1
  obtain ⟨y, b', off', hd, hA', hL⟩ := RdB.at (P := P) (t := t) h ht hk
  rw [hA] at hA'
  injection hA' with e
  injection e with e1 e2 e3
  subst e1; subst e2
  have : y = x := by
    have h1 : (bs.drop k)[0]? = some y := by rw [hd]; rfl
    rw [List.getElem?_drop, Nat.add_zero, hx] at h1
    exact (Option.some.inj h1).symm
  subst this
  exact hL none_ w (Keeps.refl w) fun h => h

/-! ### readers -/
theorem Rdr.Ok.sized {r : Rdr} (h : r.Ok) (m : Int) : (r.sized m).2.Ok := by
  have h1 := h.pos
  have h2 := h.len
  have h3 := h.uint
  unfold Rdr.sized
  (repeat' split) <;> first | exact h | exact h3 | exact ⟨h1, h2⟩
theorem Rdr.sized_le {r : Rdr} (h : r.Ok) (m : Int) (hw : (r.sized m).2.why = 0) : (r.sized m).2.pos + (r.sized m).1 ≤ r.bs.length := by
  have h3 := h.uint.pos
  rw [r.uint_bs] at h3
  unfold Rdr.sized at hw ⊢
  split
  · rw [if_pos ‹_›] at hw; exact absurd hw ‹_›
  · rw [if_neg ‹_›] at hw
    split
    · rw [if_pos ‹_›] at hw; exact absurd hw ‹_›
    · rw [if_neg ‹_›] at hw
      split
      · rw [if_pos ‹_›] at hw; simp at hw
      · rw [if_neg ‹_›] at hw
        split
        · rw [if_pos ‹_›] at hw; simp at hw
        · omega
theorem Rdr.sized_lt (r : Rdr) (m : Int) : (r.sized m).1 < 18446744073709551616 := by
  have h := r.uint_lt
  unfold Rdr.sized
  (repeat' split) <;> first | exact h | (show (0 : Nat) < _; omega)
theorem Rdr.Ok.bytes {r : Rdr} (h : r.Ok) : r.bytes.2.Ok := by
  have h1 := h.sized 65536
  have h2 := h.len
  unfold Rdr.bytes
  split
  · exact h1
  · refine ⟨?_, h2⟩
    have h3 := Rdr.sized_le h 65536 (by omega)
    exact h3
theorem Rdr.Ok.bool_ {r : Rdr} (h : r.Ok) : r.bool_.2.Ok := by
  have h1 := h.pos
  have h2 := h.len
  unfold Rdr.bool_
  split
  · exact h
  · split
    · exact ⟨h1, h2⟩
    · split
      · exact ⟨h1, h2⟩
      · refine ⟨?_, h2⟩
        have := congrArg List.length ‹r.bs.drop r.pos = _›
        simp only [List.length_drop, List.length_cons] at this
        show r.pos + 1 ≤ r.bs.length
        omega
theorem Rdr.bytes_le {r : Rdr} (h : r.Ok) : r.bytes.1.length ≤ 140737488351232 := by
  have := h.len
  unfold Rdr.bytes
  split
  · simp
  · simp only [List.length_take, List.length_drop]; omega
end Go.Q
