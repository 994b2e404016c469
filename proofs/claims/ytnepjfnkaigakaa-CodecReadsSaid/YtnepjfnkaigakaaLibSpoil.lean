/- Own rows that are written over; lent bytes; rows compared. -/
import Derived.Test.YtnepjfnkaigakaaLibRows
set_option linter.unusedVariables false
namespace Go.Q
open Go.RowKit

theorem app_any {P : Program} {w : World} {t ty e bytes n cap g m : Nat} {cs ys : List Value} {x : Value} (T : ElemTy P t e 1 bytes) (h : Has w g (rowL cs e)) (hl : cs.length = cap) (hnc : n ≤ cap) (hcm : cap ≤ maxLen) (hr : Rd w 1 x ys) (hm : ys.length = m) (h0 : 0 < m)
    (h1 : oneCells ys = true) (hb : (n + m) * bytes ≤ 140737488355328) (hm2 : n + m ≤ maxLen) :
    ∃ g' cap' cs' w', (Builtin.append_ #[t, t] ty #[.slice (some ⟨g, 0, none⟩) n cap, x]).run P w = .ok (.slice (some ⟨g', 0, none⟩) (n + m) cap') w' ∧ Has w' g' (rowL cs' e) ∧ cs'.length = cap' ∧ n + m ≤ cap' ∧ cap' ≤ maxLen ∧ Keeps (fun i => i = g) w w' ∧ (g' = g ∨ g' = w.heap.size) := by
  obtain ⟨g', cap', rest', w', hrun, H, f1, f2, f3, K, hg⟩ := app_row (ty := ty) T (xs := cs.take n) (rest := cs.drop n) (cap := cap) (n := n) (by rw [List.take_append_drop]; exact h) (by simp; omega) (by simp; omega) hnc hcm hr (m := m) (by omega) h0 h1 hb hm2
  exact ⟨g', cap', _, w', hrun, H, by rw [List.length_append]; omega, f2, f3, K, hg⟩
theorem own_cases {w : World} {base e : Nat} {v : Value} {xs : List UInt8} (h : OwnB w base e v xs) :
    v = .slice none 0 0 ∨ ∃ g cap cs, v = .slice (some ⟨g, 0, none⟩) xs.length cap ∧ base ≤ g ∧ Has w g (rowL cs e) ∧ xs.length ≤ cap ∧ cap ≤ maxLen ∧ cs.length = cap := by
  rcases h.2 with ⟨hv, hn⟩ | ⟨g, cap, cur, rfl, hb, hg, h1, h2, h3, _⟩
  · exact .inl hv
  · exact .inr ⟨g, cap, cur.toList, rfl, hb, by unfold Has; rw [hg], h1, h2, by simpa using h3⟩
/-- The first ones of an own row, the others standing behind them as room. -/
theorem OwnB.cut {w : World} {base e n c : Nat} {A : Option Addr} {xs ys : List UInt8} (h : OwnB w base e (.slice A n c) (xs ++ ys)) (h0 : 0 < ys.length) : OwnB w base e (.slice A xs.length c) xs := by
  obtain ⟨hl, h⟩ := h
  refine ⟨by simp [bv_length], ?_⟩
  rcases h with ⟨_, hn⟩ | ⟨g, cap, cur, hv, hb, hg, h1, h2, h3, h4⟩
  · rw [List.length_append] at hn; omega
  · injection hv with e1 e2 e3
    subst e1; subst e3
    have hle : xs.length ≤ (xs ++ ys).length := by rw [List.length_append]; omega
    refine .inr ⟨g, c, cur, rfl, hb, hg, by omega, h2, h3, ?_⟩
    have : cur.toList.take (xs.length * 1) = (cur.toList.take ((xs ++ ys).length * 1)).take (xs.length * 1) := by rw [List.take_take, Nat.min_eq_left (by omega)]
    rw [this, h4, bv_append, Nat.mul_one, ← bv_length xs, List.take_left]
theorem OwnB.cut_len {w : World} {base e n c : Nat} {A : Option Addr} {xs : List UInt8} (h : OwnB w base e (.slice A n c) xs) : n = xs.length := (OwnB.rd h).slice.1.symm

theorem cellB_str_iff (a b : List UInt8) : cellB (.string (str a)) (.string (str b)) = true ↔ a = b := by
  show ((str a).toList == (str b).toList) = true ↔ _
  rw [str_toList, str_toList, beq_iff_eq]
theorem cellB_int_iff (k : IntKind) (a b : Int) : cellB (.int k a) (.int k b) = true ↔ a = b := by
  show (a == b) = true ↔ _
  rw [beq_iff_eq]
theorem aggB_row (x y : RowM) : aggB [.string (str x.name), i64 x.amount] [.string (str y.name), i64 y.amount] = true ↔ x = y := by
  cases x; cases y
  simp only [aggB, Bool.and_eq_true, cellB_str_iff, cellB_int_iff, RowM.mk.injEq, and_true]
theorem aggB_row_f {x y : RowM} (h : aggB [.string (str x.name), i64 x.amount] [.string (str y.name), i64 y.amount] = false) : x ≠ y := fun e => by
  rw [(aggB_row x y).2 e] at h; cases h
theorem take_eq_succ {α : Type} {a b : List α} {i : Nat} {x : α} (h : a.take i = b.take i) (ha : a[i]? = some x) (hb : b[i]? = some x) : a.take (i + 1) = b.take (i + 1) := by
  have la := (List.getElem?_eq_some_iff.1 ha)
  have lb := (List.getElem?_eq_some_iff.1 hb)
  obtain ⟨ha1, ha2⟩ := la
  obtain ⟨hb1, hb2⟩ := lb
  rw [List.take_succ_eq_append_getElem ha1, List.take_succ_eq_append_getElem hb1, h, ha2, hb2]
theorem take_all_eq {α : Type} {a b : List α} {i : Nat} (h : a.take i = b.take i) (ha : a.length = i) (hb : b.length = i) : a = b := by
  rw [List.take_of_length_le (by omega), List.take_of_length_le (by omega)] at h; exact h
theorem getElem_ne {α : Type} {a b : List α} {i : Nat} {x y : α} (ha : a[i]? = some x) (hb : b[i]? = some y) (h : x ≠ y) : a ≠ b := fun e => by
  subst e; rw [ha] at hb; exact h (Option.some.inj hb)
theorem RdT.open {α : Type} {f : α → List Value} {w : World} {sz n c k : Nat} {A : Option Addr} {l : List α} (h : RdT w sz f (.slice A n c) l) (hl : l.length = n) (hk : k < n) : ∃ b o x, A = some ⟨b, o, none⟩ ∧ l[k]? = some x := by
  obtain ⟨b, o, hA⟩ := Rd.addr h (by omega)
  exact ⟨b, o, l[k], hA, List.getElem?_eq_getElem (by omega)⟩
end Go.Q
namespace Go.Q
/-- A read of CodecReads. -/
def Rdr.step (r : Rdr) (kind most : Int) : Rdr :=
  if kind.tmod 8 = 0 then r.uint.2 else if kind.tmod 8 = 1 then r.int.2 else if kind.tmod 8 = 2 then r.bytes.2 else if kind.tmod 8 = 3 then r.bytes.2
  else if kind.tmod 8 = 4 then r.bool_.2 else if kind.tmod 8 = 5 then (r.sized most).2 else if kind.tmod 8 = 6 then r.op.2 else r.reply.2
theorem Rdr.step_bs (r : Rdr) (k m : Int) : (r.step k m).bs = r.bs := by
  unfold Rdr.step
  (repeat' split) <;> first | exact r.uint_bs | exact r.int_bs | exact r.bytes_bs | exact r.bool_bs | exact r.sized_bs m | exact r.op_bs | exact r.reply_bs
theorem Rdr.Ok.step {r : Rdr} (h : r.Ok) (k m : Int) : (r.step k m).Ok := by
  unfold Rdr.step
  (repeat' split) <;> first | exact h.uint | exact h.bytes | exact h.bool_ | exact h.sized m | exact h.op | exact h.reply
end Go.Q
