/- Operations and answers as they are written, and read again; texts as bytes. -/
import Derived.Test.YtooginpgclcldaaGreatDoorLC
import Derived.Lib.ConvBytes
set_option linter.unusedVariables false
namespace Go.Q
open Go.RowKit

/-- A text turned into bytes. -/
theorem run_s2b {P : Program} {w : World} {src dst e : TypeId} {ss : List UInt8} (hs : isStr? P src = true) (hd : sliceOf? P dst = some e) (hl : ss.length ≤ 140737488351232) :
    ∃ A c w', (convert src dst (.string (str ss))).run P w = .ok (.slice A ss.length c) w' ∧ Keeps none_ w w' ∧ RdB w' (.slice A ss.length c) ss ∧ ∀ b o s, A = some ⟨b, o, s⟩ → w.heap.size ≤ b := by
  unfold isStr? at hs
  unfold sliceOf? at hd
  cases hu : P.underlying src with
  | none => rw [hu] at hs; cases hs
  | some u =>
    cases hv : P.underlying dst with
    | none => rw [hv] at hd; cases hd
    | some d =>
      rw [hv] at hd
      cases d with
      | slice e' =>
        simp only at hd
        cases he : P.underlying e' with
        | none => rw [he] at hd; cases hd
        | some x =>
          rw [he] at hd
          cases x with
          | int k =>
            cases k with
            | u8 =>
              simp only [Option.some.injEq] at hd
              subst hd
              have hr := Lib.run_convert_string_bytes (P := P) w src dst e' (str ss) hu hv he
              rw [str_size] at hr
              have hmx : ss.length ≤ maxLen := by unfold maxLen; omega
              refine ⟨_, _, _, hr, ⟨rfl, rfl, rfl, by rw [Lib.bytesWorld_size]; omega, fun i hi _ => Lib.bytesWorld_at_old w e' _ i hi⟩, ?_, fun b o s h => by injection h with h; injection h with h; omega⟩
              refine ⟨_, _, _, rfl, by simp [bv_length], grownCap_ge w _ 0 e', grownCap_le_maxLen w _ 0 e' hmx, fun h0 => ⟨_, 0, rfl, fun j u hj => ?_⟩⟩
              have hj' : j < ss.length := by have := (List.getElem?_eq_some_iff.1 hj).1; rwa [bv_length] at this
              rw [Nat.zero_add, Lib.bytesWorld_cell w e' (str ss) j (by rw [str_size]; exact hj')]
              have e1 : (str ss).data.toList = ss := by simp [str]
              rw [e1]
              simp only [bv, List.getElem?_map] at hj
              rw [List.getElem?_eq_getElem hj'] at hj
              simp only [Option.map_some, Option.some.injEq] at hj
              rw [← hj, List.getD_eq_getElem?_getD, List.getElem?_eq_getElem hj']
              rfl
            | _ => cases hd
          | _ => cases hd
      | _ => cases hd
/-! ### operations and answers as bytes -/
structure Opm.Ok (o : Opm) : Prop where
  kind : -9223372036854775808 ≤ o.kind ∧ o.kind ≤ 9223372036854775807
  amount : -9223372036854775808 ≤ o.amount ∧ o.amount ≤ 9223372036854775807
  slot : -9223372036854775808 ≤ o.slot ∧ o.slot ≤ 9223372036854775807
  shard : -9223372036854775808 ≤ o.shard ∧ o.shard ≤ 9223372036854775807
def opv (o : Opm) : List UInt8 := iv o.kind ++ (tv o.frm ++ (tv o.to ++ (iv o.amount ++ (tv o.key ++ (iv o.slot ++ iv o.shard)))))
def rowsv : List RowM → List UInt8
  | [] => []
  | x :: l => tv x.name ++ (iv x.amount ++ rowsv l)
structure ReplyM.Ok (p : ReplyM) : Prop where
  why : -9223372036854775808 ≤ p.why ∧ p.why ≤ 9223372036854775807
  amount : -9223372036854775808 ≤ p.amount ∧ p.amount ≤ 9223372036854775807
  rows : ∀ x ∈ p.rows, -9223372036854775808 ≤ x.amount ∧ x.amount ≤ 9223372036854775807
def rpv (p : ReplyM) : List UInt8 := iv p.why ++ (iv p.amount ++ (uv p.rows.length ++ rowsv p.rows))
theorem tv_ge (s : List UInt8) : s.length ≤ (tv s).length := by unfold tv; rw [List.length_append]; omega
theorem tv_le {s : List UInt8} (h : s.length < 18446744073709551616) : (tv s).length ≤ s.length + 10 := by
  have := uv_length_10 h
  unfold tv; rw [List.length_append]; omega
theorem iv_pos (n : Int) : 0 < (iv n).length := uv_pos _
theorem opv_len (o : Opm) : (opv o).length = (iv o.kind).length + (tv o.frm).length + (tv o.to).length + (iv o.amount).length + (tv o.key).length + (iv o.slot).length + (iv o.shard).length := by
  unfold opv; simp only [List.length_append]; omega
theorem rpv_len (p : ReplyM) : (rpv p).length = (iv p.why).length + (iv p.amount).length + (uv p.rows.length).length + (rowsv p.rows).length := by
  unfold rpv; simp only [List.length_append]; omega
theorem rowsv_append : ∀ (l m : List RowM), rowsv (l ++ m) = rowsv l ++ rowsv m
  | [], m => rfl
  | x :: l, m => by simp [rowsv, rowsv_append l m, List.append_assoc]
theorem rowsv_take {l : List RowM} {i : Nat} {x : RowM} (h : l[i]? = some x) : rowsv (l.take (i + 1)) = rowsv (l.take i) ++ (tv x.name ++ iv x.amount) := by
  obtain ⟨h1, h2⟩ := List.getElem?_eq_some_iff.1 h
  rw [List.take_succ_eq_append_getElem h1, rowsv_append, h2]
  simp [rowsv]
theorem rowsv_take_le (l : List RowM) (i : Nat) : (rowsv (l.take i)).length ≤ (rowsv l).length := by
  have := congrArg List.length (rowsv_append (l.take i) (l.drop i))
  rw [List.take_append_drop, List.length_append] at this
  omega
theorem rowsv_len_le {B : Nat} : ∀ (l : List RowM), (∀ x ∈ l, x.name.length ≤ B) → (∀ x ∈ l, -9223372036854775808 ≤ x.amount ∧ x.amount ≤ 9223372036854775807) → B < 18446744073709551616 → (rowsv l).length ≤ l.length * (B + 20)
  | [], _, _, _ => by simp [rowsv]
  | x :: l, h, h2, hB => by
    have h3 := h x (by simp)
    have h4 := tv_le (s := x.name) (by omega)
    have h5 := iv_length_10 (h2 x (by simp))
    have h6 := rowsv_len_le l (fun y hy => h y (by simp [hy])) (fun y hy => h2 y (by simp [hy])) hB
    simp only [rowsv, List.length_append, List.length_cons, Nat.add_mul, Nat.one_mul]
    omega

/-! ### what is written is read -/
theorem drop_next {b x rest : List UInt8} {k : Nat} (h : b.drop k = x ++ rest) : b.drop (k + x.length) = rest := by
  rw [← List.drop_drop, h, List.drop_left]
theorem drop_len {b x rest : List UInt8} {k : Nat} (h : b.drop k = x ++ rest) (hx : 0 < x.length) : k + x.length + rest.length = b.length := by
  have := congrArg List.length h
  rw [List.length_drop, List.length_append] at this
  omega
theorem uint_at {b rest : List UInt8} {k n : Nat} (h : b.drop k = uv n ++ rest) (hn : n < 18446744073709551616) : (⟨b, k, 0⟩ : Rdr).uint = (n, ⟨b, k + (uv n).length, 0⟩) := by
  have hs : scanB ((⟨b, k, 0⟩ : Rdr).bs.drop (⟨b, k, 0⟩ : Rdr).pos) = (n, (uv n).length, 0) := by
    show scanB (b.drop k) = _
    rw [h]; exact scanB_uv rest hn
  exact uint_good rfl hs
theorem int_at {b rest : List UInt8} {k : Nat} {n : Int} (h : b.drop k = iv n ++ rest) (hn : -9223372036854775808 ≤ n ∧ n ≤ 9223372036854775807) : (⟨b, k, 0⟩ : Rdr).int = (n, ⟨b, k + (iv n).length, 0⟩) := by
  have hu := uint_at (n := zz n) h (zz_lt hn)
  unfold Rdr.int
  rw [hu]
  simp only [unzz_zz, iv]
theorem sized_at {b rest : List UInt8} {k n : Nat} {m : Int} (h : b.drop k = uv n ++ rest) (hn : n < 18446744073709551616) (hm : ((n : Nat) : Int) ≤ m) (hr : n ≤ rest.length) : (⟨b, k, 0⟩ : Rdr).sized m = (n, ⟨b, k + (uv n).length, 0⟩) := by
  have hu := uint_at h hn
  have hl := drop_len h (uv_pos n)
  unfold Rdr.sized
  rw [hu, if_neg (by simp), if_neg (by simp), if_neg (by simp only; omega), if_neg (by simp only; omega)]
theorem bytes_at {b s rest : List UInt8} {k : Nat} (h : b.drop k = tv s ++ rest) (hs : s.length ≤ 65536) : (⟨b, k, 0⟩ : Rdr).bytes = (s, ⟨b, k + (tv s).length, 0⟩) := by
  have h' : b.drop k = uv s.length ++ (s ++ rest) := by rw [h, tv, List.append_assoc]
  have hz := sized_at (m := 65536) h' (by omega) (by omega) (by rw [List.length_append]; omega)
  have hd := drop_next h'
  unfold Rdr.bytes
  rw [hz, if_neg (by simp)]
  simp only [hd]
  rw [List.take_left, tv, List.length_append, Nat.add_assoc]
theorem bool_at {b rest : List UInt8} {k : Nat} {t : Bool} (h : b.drop k = uv t.toNat ++ rest) : (⟨b, k, 0⟩ : Rdr).bool_ = (t, ⟨b, k + (uv t.toNat).length, 0⟩) := by
  have e : uv t.toNat = [byte t.toNat] := uv_lt (by cases t <;> decide)
  rw [e] at h ⊢
  unfold Rdr.bool_
  rw [if_neg (by simp)]
  show (match b.drop k with | [] => _ | c :: _ => _) = _
  rw [h]
  cases t <;> rfl
theorem op_at {b rest : List UInt8} {k : Nat} {o : Opm} (h : b.drop k = opv o ++ rest) (ho : o.Ok) (h1 : o.frm.length ≤ 65536) (h2 : o.to.length ≤ 65536) (h3 : o.key.length ≤ 65536) : (⟨b, k, 0⟩ : Rdr).op = (o, ⟨b, k + (opv o).length, 0⟩) := by
  have e : opv o ++ rest = iv o.kind ++ (tv o.frm ++ (tv o.to ++ (iv o.amount ++ (tv o.key ++ (iv o.slot ++ (iv o.shard ++ rest)))))) := by simp only [opv, List.append_assoc]
  rw [e] at h
  have a1 := int_at h ho.kind
  have d1 := drop_next h
  have a2 := bytes_at d1 h1
  have d2 := drop_next d1
  have a3 := bytes_at d2 h2
  have d3 := drop_next d2
  have a4 := int_at d3 ho.amount
  have d4 := drop_next d3
  have a5 := bytes_at d4 h3
  have d5 := drop_next d4
  have a6 := int_at d5 ho.slot
  have d6 := drop_next d5
  have a7 := int_at d6 ho.shard
  unfold Rdr.op
  rw [a1]; simp only
  rw [a2]; simp only
  rw [a3]; simp only
  rw [a4]; simp only
  rw [a5]; simp only
  rw [a6]; simp only
  rw [a7]
  rw [opv_len]
  cases o
  simp only [Prod.mk.injEq, Rdr.mk.injEq, true_and, and_true]
  omega
theorem rows_at : ∀ {l : List RowM} {b rest : List UInt8} {k : Nat}, b.drop k = rowsv l ++ rest → (∀ x ∈ l, -9223372036854775808 ≤ x.amount ∧ x.amount ≤ 9223372036854775807) → (∀ x ∈ l, x.name.length ≤ 65536) →
    Rdr.rows l.length ⟨b, k, 0⟩ = (l, ⟨b, k + (rowsv l).length, 0⟩)
  | [], b, rest, k, _, _, _ => rfl
  | x :: l, b, rest, k, h, hr, hn => by
    have e : rowsv (x :: l) ++ rest = tv x.name ++ (iv x.amount ++ (rowsv l ++ rest)) := by simp only [rowsv, List.append_assoc]
    rw [e] at h
    have a1 := bytes_at h (hn x (by simp))
    have d1 := drop_next h
    have a2 := int_at d1 (hr x (by simp))
    have d2 := drop_next d1
    have a3 := rows_at d2 (fun y hy => hr y (by simp [hy])) (fun y hy => hn y (by simp [hy]))
    show ((⟨(⟨b, k, 0⟩ : Rdr).bytes.1, (⟨b, k, 0⟩ : Rdr).bytes.2.int.1⟩ : RowM) :: (Rdr.rows l.length (⟨b, k, 0⟩ : Rdr).bytes.2.int.2).1, (Rdr.rows l.length (⟨b, k, 0⟩ : Rdr).bytes.2.int.2).2) = _
    rw [a1]; simp only
    rw [a2]; simp only
    rw [a3]
    simp only [rowsv, List.length_append, Prod.mk.injEq, Rdr.mk.injEq, true_and, and_true]
    omega
theorem rowsv_ge : ∀ (l : List RowM), l.length ≤ (rowsv l).length
  | [] => by simp
  | x :: l => by
    have h1 := rowsv_ge l
    have h2 := iv_pos x.amount
    simp only [rowsv, List.length_append, List.length_cons]
    omega
theorem reply_at {b rest : List UInt8} {k : Nat} {p : ReplyM} (h : b.drop k = rpv p ++ rest) (hp : p.Ok) (hl : p.rows.length ≤ 600) (hn : ∀ x ∈ p.rows, x.name.length ≤ 65536) : (⟨b, k, 0⟩ : Rdr).reply = (p, ⟨b, k + (rpv p).length, 0⟩) := by
  have e : rpv p ++ rest = iv p.why ++ (iv p.amount ++ (uv p.rows.length ++ (rowsv p.rows ++ rest))) := by simp only [rpv, List.append_assoc]
  rw [e] at h
  have a1 := int_at h hp.why
  have d1 := drop_next h
  have a2 := int_at d1 hp.amount
  have d2 := drop_next d1
  have hge := rowsv_ge p.rows
  have a3 := sized_at (m := 600) d2 (by omega) (by omega) (by rw [List.length_append]; omega)
  have d3 := drop_next d2
  have a4 := rows_at d3 hp.rows hn
  have hh : (⟨b, k, 0⟩ : Rdr).rhead = (p.rows.length, ⟨b, k + (iv p.why).length + (iv p.amount).length + (uv p.rows.length).length, 0⟩) := by
    unfold Rdr.rhead
    rw [a1]; simp only
    rw [a2]; simp only
    rw [a3]
  unfold Rdr.reply
  rw [hh]; simp only
  rw [a4, a1]; simp only
  rw [a2, rpv_len]
  cases p
  simp only [Prod.mk.injEq, Rdr.mk.injEq, true_and, and_true]
  omega
end Go.Q
namespace Go.Q
theorem new_ne {A : Option Addr} {n c m q : Nat} (h : ∀ b o s, A = some ⟨b, o, s⟩ → m ≤ b) (hq : q < m) : ∀ i, (Value.slice A n c).ownBlock = some i → i ≠ q := by
  intro i hi
  cases A with
  | none => cases hi
  | some a =>
    simp only [Value.ownBlock, Option.some.injEq] at hi
    have := h a.block a.off a.spot rfl
    omega
end Go.Q
namespace Go.Q
theorem calls_as {P : Program} {f : FuncId} {args : Array Value} {w : World} {R : Ending → World → Prop} (R' : Ending → World → Prop) (C : Calls P f args w R) (h : ∀ e w', R e w' → R' e w') : Calls P f args w R' := C.mono h
theorem end_at {b : List UInt8} {k : Nat} (h : k = b.length) : (⟨b, k, 0⟩ : Rdr).end_ = 0 := by unfold Rdr.end_; rw [if_neg (by simp only; omega)]
end Go.Q
namespace Go.Q
theorem uvb_len (t : Bool) : (uv t.toNat).length ≤ 10 := uv_length_10 (by cases t <;> decide)
end Go.Q
