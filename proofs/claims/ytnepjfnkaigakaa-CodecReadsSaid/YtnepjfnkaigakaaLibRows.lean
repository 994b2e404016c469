/- Rows of anything: read, one's own, appended to; answers as they are read. -/
import Derived.Test.YtnepjfnkaigakaaLibArgs
set_option linter.unusedVariables false
namespace Go.Q
open Go.RowKit

section
variable {α : Type} {f : α → List Value} {P : Program} {w : World} {t ty e sz bytes base : Nat} {v : Value} {l : List α}

abbrev OwnT (w : World) (base e sz : Nat) (f : α → List Value) (v : Value) (l : List α) : Prop := w.ownsRow base e sz v l.length (l.flatMap f)
abbrev RdT (w : World) (sz : Nat) (f : α → List Value) (v : Value) (l : List α) : Prop := Rd w sz v (l.flatMap f)
theorem flat_len (hf : ∀ x, (f x).length = sz) : ∀ l : List α, (l.flatMap f).length = l.length * sz
  | [] => by simp
  | x :: l => by rw [List.flatMap_cons, List.length_append, hf, flat_len hf l, List.length_cons, Nat.add_mul, Nat.one_mul, Nat.add_comm]
theorem one_append : ∀ {xs ys : List Value}, oneCells xs = true → oneCells ys = true → oneCells (xs ++ ys) = true
  | [], ys, _, h => h
  | x :: xs, ys, h, k => by
    simp only [oneCells, Bool.and_eq_true] at h
    simp only [List.cons_append, oneCells, Bool.and_eq_true]
    exact ⟨h.1, one_append h.2 k⟩
theorem flat_one (h1 : ∀ x, oneCells (f x) = true) : ∀ l : List α, oneCells (l.flatMap f) = true
  | [] => rfl
  | x :: l => by rw [List.flatMap_cons]; exact one_append (h1 x) (flat_one h1 l)
theorem flat_at (hf : ∀ x, (f x).length = sz) : ∀ {l : List α} {k : Nat} {x : α}, l[k]? = some x → ∀ j u, (f x)[j]? = some u → (l.flatMap f)[k * sz + j]? = some u
  | [], k, x, h, _, _, _ => by simp at h
  | y :: l, 0, x, h, j, u, hu => by
    simp only [List.getElem?_cons_zero, Option.some.injEq] at h
    subst h
    rw [List.flatMap_cons, Nat.zero_mul, Nat.zero_add, List.getElem?_append_left (List.getElem?_eq_some_iff.1 hu).1]
    exact hu
  | y :: l, k + 1, x, h, j, u, hu => by
    simp only [List.getElem?_cons_succ] at h
    rw [List.flatMap_cons, List.getElem?_append_right (by rw [hf, Nat.add_mul]; omega), hf, show (k + 1) * sz + j - sz = k * sz + j from by rw [Nat.add_mul]; omega]
    exact flat_at hf h j u hu
theorem OwnT.nil (w : World) (base e sz : Nat) (f : α → List Value) : OwnT w base e sz f (.slice none 0 0) [] := World.ownsRow_nil _ _ _ _
theorem OwnT.rd (h : OwnT w base e sz f v l) : RdT w sz f v l := Rd.of_own h
theorem OwnT.app (hf : ∀ x, (f x).length = sz) (h1 : ∀ x, oneCells (f x) = true) (T : ElemTy P t e sz bytes) (h : OwnT w base e sz f v l) {x : Value} {ys : List α} (hx : RdT w sz f x ys)
    (hb : (l.length + ys.length) * bytes ≤ 140737488355328) (hl : l.length + ys.length ≤ 140737488355328) (hbase : base ≤ w.heap.size) :
    ∃ v' w', (Builtin.append_ #[t, t] ty #[v, x]).run P w = .ok v' w' ∧ OwnT w' base e sz f v' (l ++ ys) ∧ Keeps (fun i => v.ownBlock = some i) w w' ∧ ∀ i, v'.ownBlock = some i → v.ownBlock = some i ∨ w.heap.size ≤ i := by
  have hm : l.length + ys.length ≤ maxLen := by simp only [maxLen]; omega
  obtain ⟨v', w', hr, ho, hk, hg⟩ := own_app2 (ty := ty) T h hx (m := ys.length) (flat_len hf ys) (flat_one h1 ys) hb hm hbase
  refine ⟨v', w', hr, ?_, hk, hg⟩
  unfold OwnT
  rw [List.length_append, List.flatMap_append]
  exact ho
theorem RdT.len {n c : Nat} {A : Option Addr} (hf : ∀ x, (f x).length = sz) (h0 : 0 < sz) (h : RdT w sz f (.slice A n c) l) : l.length = n ∧ n ≤ c ∧ c ≤ maxLen := by
  obtain ⟨h1, h2, h3⟩ := Rd.len h
  rw [flat_len hf] at h1
  exact ⟨Nat.eq_of_mul_eq_mul_right h0 h1, h2, h3⟩
theorem RdT.form (hf : ∀ x, (f x).length = sz) (h0 : 0 < sz) (h : RdT w sz f v l) : ∃ A c, v = .slice A l.length c := by
  have h' := h
  obtain ⟨A, n, c, rfl, _⟩ := h
  exact ⟨A, c, by rw [(RdT.len hf h0 h').1]⟩
theorem RdT.ld {A : Option Addr} {n c k b off : Nat} {x : α} (hf : ∀ x, (f x).length = sz) (h : RdT w sz f (.slice A n c) l) (ht : isAgg? P t = some true) (hs : size? P t = some sz) (hA : A = some ⟨b, off, none⟩) (hx : l[k]? = some x) :
    Loads P w t ⟨b, off + k * sz, none⟩ (agg (f x)) := by
  rw [← hf x] at hs
  exact Rd.ldN h ht hs hA fun j u hu => flat_at hf hx j u hu
theorem RdT.ldf {A : Option Addr} {n c k b off o : Nat} {x : α} {u : Value} (hf : ∀ x, (f x).length = sz) (h : RdT w sz f (.slice A n c) l) (ht : isAgg? P t = some false) (hA : A = some ⟨b, off, none⟩) (hx : l[k]? = some x) (hu : (f x)[o]? = some u) :
    Loads P w t ⟨b, off + k * sz + o, none⟩ u := by
  rw [Nat.add_assoc]
  exact Rd.ld1 h ht hA (flat_at hf hx o u hu)
end

/-! ### rows of accounts -/
structure RowM where
  name : List UInt8
  amount : Int
def RowM.cells (x : RowM) : List Value := [.string (str x.name), i64 x.amount]
theorem RowM.two (x : RowM) : x.cells.length = 2 := rfl
theorem RowM.one (x : RowM) : oneCells x.cells = true := rfl
abbrev OwnR (w : World) (base e : Nat) (v : Value) (l : List RowM) : Prop := OwnT w base e 2 RowM.cells v l
abbrev RdR (w : World) (v : Value) (l : List RowM) : Prop := RdT w 2 RowM.cells v l

/-- An answer. -/
structure ReplyM where
  why : Int
  amount : Int
  rows : List RowM
def Rdr.rows : Nat → Rdr → List RowM × Rdr
  | 0, r => ([], r)
  | n + 1, r => (⟨r.bytes.1, r.bytes.2.int.1⟩ :: (Rdr.rows n r.bytes.2.int.2).1, (Rdr.rows n r.bytes.2.int.2).2)
def Rdr.rhead (r : Rdr) : Nat × Rdr := r.int.2.int.2.sized 600
def Rdr.reply (r : Rdr) : ReplyM × Rdr := (⟨r.int.1, r.int.2.int.1, (Rdr.rows r.rhead.1 r.rhead.2).1⟩, (Rdr.rows r.rhead.1 r.rhead.2).2)
theorem Rdr.rows_bs : ∀ (n : Nat) (r : Rdr), (Rdr.rows n r).2.bs = r.bs
  | 0, r => rfl
  | n + 1, r => by show (Rdr.rows n r.bytes.2.int.2).2.bs = r.bs; rw [Rdr.rows_bs n, Rdr.int_bs, Rdr.bytes_bs]
theorem Rdr.Ok.rows : ∀ (n : Nat) {r : Rdr}, r.Ok → (Rdr.rows n r).2.Ok
  | 0, r, h => h
  | n + 1, r, h => Rdr.Ok.rows n h.bytes.int
theorem Rdr.reply_bs (r : Rdr) : r.reply.2.bs = r.bs := by
  show (Rdr.rows r.rhead.1 r.rhead.2).2.bs = r.bs
  rw [Rdr.rows_bs]; show (r.int.2.int.2.sized 600).2.bs = r.bs; rw [Rdr.sized_bs, Rdr.int_bs, Rdr.int_bs]
theorem Rdr.Ok.reply {r : Rdr} (h : r.Ok) : r.reply.2.Ok := Rdr.Ok.rows _ (h.int.int.sized 600)
theorem Rdr.rows_len : ∀ (n : Nat) (r : Rdr), (Rdr.rows n r).1.length = n
  | 0, r => rfl
  | n + 1, r => by show ((Rdr.rows n r.bytes.2.int.2).1).length + 1 = n + 1; rw [Rdr.rows_len n]
theorem Rdr.sized_most (r : Rdr) (m : Int) : (r.sized m).1 = 0 ∨ (((r.sized m).1 : Nat) : Int) ≤ m := by
  unfold Rdr.sized
  split
  · exact .inl rfl
  · split
    · exact .inl rfl
    · split
      · exact .inl rfl
      · split
        · exact .inl rfl
        · right; omega
theorem Rdr.rhead_le (r : Rdr) : r.rhead.1 ≤ 600 := by
  have := Rdr.sized_most r.int.2.int.2 600
  show (r.int.2.int.2.sized 600).1 ≤ 600
  omega
theorem Rdr.rows_err : ∀ (n : Nat) {r : Rdr}, r.why ≠ 0 → (Rdr.rows n r).2 = r
  | 0, r, _ => rfl
  | n + 1, r, h => by
    show (Rdr.rows n r.bytes.2.int.2).2 = r
    rw [Rdr.bytes_err h]
    show (Rdr.rows n r.int.2).2 = r
    rw [Rdr.int_err h]
    exact Rdr.rows_err n h
theorem Rdr.reply_err {r : Rdr} (h : r.why ≠ 0) : r.reply.2 = r := by
  show (Rdr.rows (r.int.2.int.2.sized 600).1 (r.int.2.int.2.sized 600).2).2 = r
  rw [Rdr.int_err h, Rdr.int_err h, Rdr.sized_err h]
  exact Rdr.rows_err _ h
theorem Rdr.rows_next {N i : Nat} {R R0 : Rdr} {l : List RowM} (hE : l ++ (Rdr.rows (N - i) R).1 = (Rdr.rows N R0).1) (hF : (Rdr.rows (N - i) R).2 = (Rdr.rows N R0).2) (hi : i < N) :
    (l ++ [⟨R.bytes.1, R.bytes.2.int.1⟩]) ++ (Rdr.rows (N - (i + 1)) R.bytes.2.int.2).1 = (Rdr.rows N R0).1 ∧ (Rdr.rows (N - (i + 1)) R.bytes.2.int.2).2 = (Rdr.rows N R0).2 := by
  have e : N - i = (N - (i + 1)) + 1 := by omega
  rw [e] at hE hF
  refine ⟨?_, hF⟩
  rw [← hE, List.append_assoc]
  rfl
theorem Rdr.rows_done {N i : Nat} {R R0 : Rdr} {l : List RowM} (hE : l ++ (Rdr.rows (N - i) R).1 = (Rdr.rows N R0).1) (hF : (Rdr.rows (N - i) R).2 = (Rdr.rows N R0).2) (hi : ¬ i < N) : (Rdr.rows N R0).1 = l ∧ (Rdr.rows N R0).2 = R := by
  have e : N - i = 0 := by omega
  rw [e] at hE hF
  exact ⟨by rw [← hE]; exact List.append_nil l, hF.symm⟩
end Go.Q
