/- messages are read -/
import Derived.Test.YtnepjfnkaigakaaProg
import Derived.Test.YtnepjfnkaigakaaLI
import Derived.Test.YtnepjfnkaigakaaKH
set_option linter.unusedVariables false
namespace Go.Proofs.Ytnepjfnkaigakaa
open Go.Q Go.RowKit
theorem tyE : ElemTy Try.prog 47 97 2 32 := elemTy (by kernel_rfl)

theorem in_calls (w : World) (n lo hi : Int)  : Calls Try.prog 77 ⟨[(i64 n), (i64 lo), (i64 hi)]⟩ w (fun e w' => ∃ t, e = .returned (.bool t) ∧ (t = true ↔ lo ≤ n ∧ n ≤ hi) ∧ w = w') := by
  refine q_calls Try.func77 (by kernel_rfl) (by kernel_rfl) ?_
  refine q_seq (by kernel_rfl) ?_
  refine q_region (by kernel_rfl) ?_
  refine Ops.regs 1 [(0, (i64 n)), (1, (i64 lo)), (2, (i64 hi)), (6, (Value.bool false))] (j := 1) (by kernel_rfl) (by kernel_rfl) ?_
  refine Ops.done (by kernel_rfl) ?_
  refine q_seq (by kernel_rfl) ?_
  refine q_region (by kernel_rfl) ?_
  refine Ops.regs 4 [(0, (i64 n)), (2, (i64 hi)), (6, (Value.bool false)), (10, (Value.bool (decide (n ≥ lo))))] (j := 4) (by kernel_rfl) (by kernel_rfl) ?_
  refine Ops.split (decide (n ≥ lo)) (fun h1 => ?_) (fun h1 => ?_)
  · rw [h1]
    have p2 : n ≥ lo := of_decide_eq_true h1
    refine Ops.regs 5 [(6, (Value.bool (decide (n ≤ hi))))] (j := 9) (by kernel_rfl) (by kernel_rfl) ?_
    refine Ops.done (by kernel_rfl) ?_
    refine q_ret (by kernel_rfl) ?_
    refine ⟨(Value.bool (decide (n ≤ hi))), retv_tmp rfl rfl, ?_⟩
    exact ⟨_, rfl, ⟨fun h => ⟨by omega, of_decide_eq_true h⟩, fun h => decide_eq_true h.2⟩, rfl⟩
  · rw [h1]
    have p3 : ¬ (n ≥ lo) := of_decide_eq_false h1
    refine Ops.regs 5 [(6, (Value.bool false))] (j := 9) (by kernel_rfl) (by kernel_rfl) ?_
    refine Ops.done (by kernel_rfl) ?_
    refine q_ret (by kernel_rfl) ?_
    refine ⟨(Value.bool false), retv_tmp rfl rfl, ?_⟩
    exact ⟨false, rfl, ⟨fun h => (by cases h), fun h => by exfalso; omega⟩, rfl⟩

set_option maxHeartbeats 4000000 in
theorem Unmsg_calls (w : World) (B : Option Addr) (bc : Nat) (bs : List UInt8) (hB : RdB w (.slice B bs.length bc) bs) (hbl : bs.length ≤ 140737488351232) : Calls Try.prog 51 ⟨[(Value.slice B bs.length bc)]⟩ w (fun e w' => ∃ (m : MsgP) (E D : Option Addr) (ec dc : Nat) (er : Int), e = .returned (.tuple #[agg [i64 m.kind, i64 m.group, i64 m.frm, i64 m.to, i64 m.term, i64 m.index, i64 m.logTerm, i64 m.commit, .bool m.ok, .slice E m.entries.length ec, .slice D m.data.length dc], i64 er]) ∧ Keeps none_ w w' ∧ m.Ok ∧ (m.core, er) = unmsgB bs ∧ RdE w' (.slice E m.entries.length ec) m.entries ∧ EntsIn w' m.entries ∧ RdB w' (.slice D m.data.length dc) m.data) := by
  have K0 : Keeps none_ w w := Keeps.refl w
  refine q_calls Try.func51 (by kernel_rfl) (by kernel_rfl) ?_
  refine q_seq (by kernel_rfl) ?_
  refine q_region (by kernel_rfl) ?_
  refine Ops.new (o := rowL [(i64 0), (i64 0), (i64 0), (i64 0), (i64 0), (i64 0), (i64 0), (i64 0), (Value.bool false), (Value.slice none 0 0), (Value.slice none 0 0)] 49) (V := fun b => (Value.pointer (some ⟨b, 0, none⟩))) (by kernel_rfl) (d := (some 2)) (by kernel_rfl) (fun b => rfl) (fun b1 w2 hb3 H4 K5 hs6 => ?_)
  have nb1 : w.heap.size ≤ b1 := by have := K0.size; omega
  have K7 := K0.trans K5 (U := none_) (fun i h1 h2 => h2) (fun i h1 h2 => by exact h2)
  clear K0
  clear K5 hs6
  refine Ops.regs 1 [(0, (Value.slice B bs.length bc)), (2, (Value.pointer (some ⟨b1, 0, none⟩))), (3, (i64 0))] (j := 2) (by kernel_rfl) (by kernel_rfl) ?_
  refine Ops.done (by kernel_rfl) ?_
  refine q_seq (by kernel_rfl) ?_
  refine q_seq (by kernel_rfl) ?_
  refine q_region (by kernel_rfl) ?_
  refine Ops.regs 3 [(0, (Value.slice B bs.length bc)), (2, (Value.pointer (some ⟨b1, 0, none⟩))), (3, (i64 0)), (13, (Value.bool (decide (((bs.length : Nat) : Int) > 1048576))))] (j := 3) (by kernel_rfl) (by kernel_rfl) ?_
  refine Ops.done (by kernel_rfl) ?_
  refine q_cond (o := .tmp 13) (b := (decide (((bs.length : Nat) : Int) > 1048576))) (by kernel_rfl) rfl (fun h8 => ?_) (fun h8 => ?_)
  · rw [h8]
    have p9 : ((bs.length : Nat) : Int) > 1048576 := of_decide_eq_true h8
    refine q_seq (by kernel_rfl) ?_
    refine q_region (by kernel_rfl) ?_
    refine Ops.regs 1 [(0, (Value.slice B bs.length bc)), (2, (Value.pointer (some ⟨b1, 0, none⟩))), (3, (i64 0)), (14, (agg [(i64 0), (i64 0), (i64 0), (i64 0), (i64 0), (i64 0), (i64 0), (i64 0), (Value.bool false), (Value.slice none 0 0), (Value.slice none 0 0)]))] (j := 1) (by kernel_rfl) (by kernel_rfl) ?_
    refine Ops.put (t := 49) (b := b1) (off := 0) (v := (agg [(i64 0), (i64 0), (i64 0), (i64 0), (i64 0), (i64 0), (i64 0), (i64 0), (Value.bool false), (Value.slice none 0 0), (Value.slice none 0 0)])) (ys := [(i64 0), (i64 0), (i64 0), (i64 0), (i64 0), (i64 0), (i64 0), (i64 0), (Value.bool false), (Value.slice none 0 0), (Value.slice none 0 0)]) (by kernel_rfl) (by kernel_rfl) H4 (by kernel_rfl) (d := none) (by kernel_rfl) rfl (fun w10 H11 K12 => ?_)
    clear H4
    have K13 := K7.trans K12 (U := none_) (fun i h1 h2 => h2) (fun i h1 h2 => by have h2 : i = b1 := h2; exfalso; omega)
    clear K7
    clear K12
    refine Ops.regs 1 [(0, (Value.slice B bs.length bc)), (2, (Value.pointer (some ⟨b1, 0, none⟩))), (3, (i64 3))] (j := 3) (by kernel_rfl) (by kernel_rfl) ?_
    refine Ops.done (by kernel_rfl) ?_
    refine q_ret (by kernel_rfl) ?_
    refine ⟨(Value.tuple #[(agg [(i64 0), (i64 0), (i64 0), (i64 0), (i64 0), (i64 0), (i64 0), (i64 0), (Value.bool false), (Value.slice none 0 0), (Value.slice none 0 0)]), (i64 3)]), retv_cell_tmp rfl rfl (H11.loads (by kernel_rfl)) rfl, ?_⟩
    exact ⟨(⟨0, 0, 0, 0, 0, 0, 0, 0, false, [], []⟩ : MsgP), none, none, 0, 0, 3, rfl, K13, ⟨by (try simp only); omega, by (try simp only); omega, by (try simp only); omega, by (try simp only); omega, by (try simp only); omega, by (try simp only); omega, by (try simp only); omega, by (try simp only); omega, fun x hx => by cases hx⟩, by unfold unmsgB; rw [if_pos (by omega)]; rfl, (Rd.nil _ _), (fun x hx => by cases hx), (Rd.nil _ _)⟩
  · rw [h8]
    have p14 : ¬ (((bs.length : Nat) : Int) > 1048576) := of_decide_eq_false h8
    refine q_skip (by kernel_rfl) ?_
    refine q_seq (by kernel_rfl) ?_
    refine q_region (by kernel_rfl) ?_
    refine Ops.regs 1 [(2, (Value.pointer (some ⟨b1, 0, none⟩))), (3, (i64 0)), (15, (Value.slice B bs.length bc))] (j := 1) (by kernel_rfl) (by kernel_rfl) ?_
    refine Ops.call (by kernel_rfl) (d := (some 16)) (by kernel_rfl) (NewReader_calls _ (Value.slice B bs.length bc) bs (hB.keep0 (by omega) K7) (by first | omega | decide)) ?_
    rintro _ w19 ⟨b15, A16, c17, rfl, q18, K20, H21, hr22, hne23, hge24⟩
    have nb15 : w.heap.size ≤ b15 := by have := K7.size; omega
    have lb15b1 : b1 < b15 := by have := H4.lt; omega
    have ob26 : ∀ i o s, A16 = some ⟨i, o, s⟩ → i ≠ b1 := fun i o s hi => by have := hge24 i o s hi; have := H4.lt; omega
    have hok25 : Rdr.Ok (⟨bs, 0, 0⟩ : Rdr) := ⟨Nat.zero_le _, by show bs.length ≤ _; first | omega | decide⟩
    clear q18 hge24
    refine ⟨_, _, rfl, rfl, ?_⟩
    have K27 := K7.trans K20 (U := none_) (fun i h1 h2 => h2) (fun i h1 h2 => by exact h2)
    clear K7
    have H28 := H4.keep K20 (fun h => h)
    clear H4
    clear K20
    refine Ops.regs 1 [(2, (Value.pointer (some ⟨b1, 0, none⟩))), (3, (i64 0)), (4, (Value.pointer (some ⟨b15, 0, none⟩)))] (j := 3) (by kernel_rfl) (by kernel_rfl) ?_
    refine Ops.done (by kernel_rfl) ?_
    refine q_seq (by kernel_rfl) ?_
    refine q_region (by kernel_rfl) ?_
    refine Ops.new (o := rowL [(i64 0), (i64 0), (i64 0), (i64 0), (i64 0), (i64 0), (i64 0), (i64 0)] 104) (V := fun b => (Value.pointer (some ⟨b, 0, none⟩))) (by kernel_rfl) (d := (some 5)) (by kernel_rfl) (fun b => rfl) (fun b29 w30 hb31 H32 K33 hs34 => ?_)
    have lb29b1 : b1 < b29 := by have := H28.lt; omega
    have lb29b15 : b15 < b29 := by have := H21.lt; omega
    have nb29 : w.heap.size ≤ b29 := by have := K27.size; omega
    have ob35 : ∀ i o s, A16 = some ⟨i, o, s⟩ → i ≠ b29 := fun i o s hi => by have := hr22.2 i o s hi; omega
    have K36 := K27.trans K33 (U := none_) (fun i h1 h2 => h2) (fun i h1 h2 => by exact h2)
    clear K27
    have H37 := H28.keep K33 (fun h => h)
    clear H28
    have H38 := H21.keep K33 (fun h => h)
    clear H21
    have F39 := RdO.keep0 hr22 K33
    clear hr22
    clear K33 hs34
    refine Ops.done (by kernel_rfl) ?_
    refine q_seq (by kernel_rfl) ?_
    refine q_seq (by kernel_rfl) ?_
    refine q_region (by kernel_rfl) ?_
    refine Ops.regs 1 [(2, (Value.pointer (some ⟨b1, 0, none⟩))), (3, (i64 0)), (4, (Value.pointer (some ⟨b15, 0, none⟩))), (5, (Value.pointer (some ⟨b29, 0, none⟩))), (17, (i64 0))] (j := 1) (by kernel_rfl) (by kernel_rfl) ?_
    refine Ops.done (by kernel_rfl) ?_
    refine q_block (id := 0) (by kernel_rfl) ?_
    refine q_roll 9 (by kernel_rfl) ?_
    refine roll_step ?_
    refine q_seq (by kernel_rfl) ?_
    refine q_region (by kernel_rfl) ?_
    refine Ops.regs 1 [(2, (Value.pointer (some ⟨b1, 0, none⟩))), (3, (i64 0)), (4, (Value.pointer (some ⟨b15, 0, none⟩))), (5, (Value.pointer (some ⟨b29, 0, none⟩))), (17, (i64 0)), (18, (Value.bool true))] (j := 1) (by kernel_rfl) (by kernel_rfl) ?_
    refine Ops.done (by kernel_rfl) ?_
    refine q_seq (by kernel_rfl) ?_
    refine q_then (o := .tmp 18) (by kernel_rfl) rfl ?_
    refine q_skip (by kernel_rfl) ?_
    refine q_seq (by kernel_rfl) ?_
    refine q_block (id := 1) (by kernel_rfl) ?_
    refine q_seq (by kernel_rfl) ?_
    refine q_region (by kernel_rfl) ?_
    refine Ops.regs 2 [(2, (Value.pointer (some ⟨b1, 0, none⟩))), (3, (i64 0)), (4, (Value.pointer (some ⟨b15, 0, none⟩))), (5, (Value.pointer (some ⟨b29, 0, none⟩))), (6, (i64 0)), (17, (i64 0)), (18, (Value.bool true))] (j := 2) (by kernel_rfl) (by kernel_rfl) ?_
    refine Ops.done (by kernel_rfl) ?_
    refine q_region (by kernel_rfl) ?_
    refine Ops.regs 2 [(2, (Value.pointer (some ⟨b1, 0, none⟩))), (3, (i64 0)), (4, (Value.pointer (some ⟨b15, 0, none⟩))), (5, (Value.pointer (some ⟨b29, 0, none⟩))), (6, (i64 0)), (17, (i64 0)), (18, (Value.bool true)), (20, (i64 0)), (21, (Value.pointer (some ⟨b15, 0, none⟩)))] (j := 2) (by kernel_rfl) (by kernel_rfl) ?_
    refine Ops.call (by kernel_rfl) (d := (some 22)) (by kernel_rfl) (RdInt_calls _ b15 A16 c17 (⟨bs, 0, 0⟩ : Rdr) hok25 H38 F39 hne23 ) ?_
    rintro _ w40 ⟨rfl, K41, H42⟩
    have hok43 : ((⟨bs, 0, 0⟩ : Rdr).int).2.Ok := Rdr.Ok.int hok25
    have hu44 := Rdr.int_range (⟨bs, 0, 0⟩ : Rdr)
    refine ⟨_, _, rfl, rfl, ?_⟩
    have K45 := K36.trans K41 (U := none_) (fun i h1 h2 => h2) (fun i h1 h2 => by have h2 : i = b15 := h2; exfalso; omega)
    clear K36
    have H46 := H37.keep K41 (by intro h; change b1 = b15 at h; omega)
    clear H37
    have H47 := H32.keep K41 (by intro h; change b29 = b15 at h; omega)
    clear H32
    have F48 := RdO.keep F39 K41 (fun i _ _ hi hs => by have hs : i = b15 := hs; have := hne23 i _ _ hi; omega)
    clear F39
    clear K41
    have F49 : RdO w40 A16 c17 ((⟨bs, 0, 0⟩ : Rdr).int).2.bs := by rw [Rdr.int_bs]; exact F48
    clear F48
    refine Ops.regs 1 [(2, (Value.pointer (some ⟨b1, 0, none⟩))), (3, (i64 0)), (4, (Value.pointer (some ⟨b15, 0, none⟩))), (5, (Value.pointer (some ⟨b29, 0, none⟩))), (6, (i64 0)), (17, (i64 0)), (18, (Value.bool true)), (22, (i64 (((⟨bs, 0, 0⟩ : Rdr).int).1))), (23, (Value.pointer (some ⟨b29, 0, none⟩)))] (j := 4) (by kernel_rfl) (by kernel_rfl) ?_
    refine Ops.put (t := 2) (b := b29) (off := 0) (v := (i64 (((⟨bs, 0, 0⟩ : Rdr).int).1))) (ys := [(i64 (((⟨bs, 0, 0⟩ : Rdr).int).1)), (i64 0), (i64 0), (i64 0), (i64 0), (i64 0), (i64 0), (i64 0)]) (by kernel_rfl) (by kernel_rfl) H47 (by kernel_rfl) (d := none) (by kernel_rfl) rfl (fun w50 H51 K52 => ?_)
    clear H47
    have K53 := K45.trans K52 (U := none_) (fun i h1 h2 => h2) (fun i h1 h2 => by have h2 : i = b29 := h2; exfalso; omega)
    clear K45
    have H54 := H46.keep K52 (by intro h; change b1 = b29 at h; omega)
    clear H46
    have H55 := H42.keep K52 (by intro h; change b15 = b29 at h; omega)
    clear H42
    have F56 := RdO.keep F49 K52 (fun i _ _ hi hs => by have hs : i = b29 := hs; have := ob35 i _ _ hi; omega)
    clear F49
    clear K52
    refine Ops.done (by kernel_rfl) ?_
    refine q_region (by kernel_rfl) ?_
    refine Ops.regs 2 [(2, (Value.pointer (some ⟨b1, 0, none⟩))), (3, (i64 0)), (4, (Value.pointer (some ⟨b15, 0, none⟩))), (5, (Value.pointer (some ⟨b29, 0, none⟩))), (6, (i64 0)), (17, (i64 1)), (18, (Value.bool true))] (j := 2) (by kernel_rfl) (by kernel_rfl) ?_
    refine Ops.done (by kernel_rfl) ?_
    refine roll_step ?_
    refine q_seq (by kernel_rfl) ?_
    refine q_region (by kernel_rfl) ?_
    refine Ops.regs 1 [(2, (Value.pointer (some ⟨b1, 0, none⟩))), (3, (i64 0)), (4, (Value.pointer (some ⟨b15, 0, none⟩))), (5, (Value.pointer (some ⟨b29, 0, none⟩))), (6, (i64 0)), (17, (i64 1)), (18, (Value.bool true))] (j := 1) (by kernel_rfl) (by kernel_rfl) ?_
    refine Ops.done (by kernel_rfl) ?_
    refine q_seq (by kernel_rfl) ?_
    refine q_then (o := .tmp 18) (by kernel_rfl) rfl ?_
    refine q_skip (by kernel_rfl) ?_
    refine q_seq (by kernel_rfl) ?_
    refine q_block (id := 1) (by kernel_rfl) ?_
    refine q_seq (by kernel_rfl) ?_
    refine q_region (by kernel_rfl) ?_
    refine Ops.regs 2 [(2, (Value.pointer (some ⟨b1, 0, none⟩))), (3, (i64 0)), (4, (Value.pointer (some ⟨b15, 0, none⟩))), (5, (Value.pointer (some ⟨b29, 0, none⟩))), (6, (i64 1)), (17, (i64 1)), (18, (Value.bool true))] (j := 2) (by kernel_rfl) (by kernel_rfl) ?_
    refine Ops.done (by kernel_rfl) ?_
    refine q_region (by kernel_rfl) ?_
    refine Ops.regs 2 [(2, (Value.pointer (some ⟨b1, 0, none⟩))), (3, (i64 0)), (4, (Value.pointer (some ⟨b15, 0, none⟩))), (5, (Value.pointer (some ⟨b29, 0, none⟩))), (6, (i64 1)), (17, (i64 1)), (18, (Value.bool true)), (20, (i64 1)), (21, (Value.pointer (some ⟨b15, 0, none⟩)))] (j := 2) (by kernel_rfl) (by kernel_rfl) ?_
    refine Ops.call (by kernel_rfl) (d := (some 22)) (by kernel_rfl) (RdInt_calls _ b15 A16 c17 (((⟨bs, 0, 0⟩ : Rdr).int).2) hok43 H55 F56 hne23 ) ?_
    rintro _ w57 ⟨rfl, K58, H59⟩
    have hok60 : ((((⟨bs, 0, 0⟩ : Rdr).int).2).int).2.Ok := Rdr.Ok.int hok43
    have hu61 := Rdr.int_range (((⟨bs, 0, 0⟩ : Rdr).int).2)
    refine ⟨_, _, rfl, rfl, ?_⟩
    have K62 := K53.trans K58 (U := none_) (fun i h1 h2 => h2) (fun i h1 h2 => by have h2 : i = b15 := h2; exfalso; omega)
    clear K53
    have H63 := H54.keep K58 (by intro h; change b1 = b15 at h; omega)
    clear H54
    have H64 := H51.keep K58 (by intro h; change b29 = b15 at h; omega)
    clear H51
    have F65 := RdO.keep F56 K58 (fun i _ _ hi hs => by have hs : i = b15 := hs; have := hne23 i _ _ hi; omega)
    clear F56
    clear K58
    have F66 : RdO w57 A16 c17 ((((⟨bs, 0, 0⟩ : Rdr).int).2).int).2.bs := by rw [Rdr.int_bs]; exact F65
    clear F65
    refine Ops.regs 1 [(2, (Value.pointer (some ⟨b1, 0, none⟩))), (3, (i64 0)), (4, (Value.pointer (some ⟨b15, 0, none⟩))), (5, (Value.pointer (some ⟨b29, 0, none⟩))), (6, (i64 1)), (17, (i64 1)), (18, (Value.bool true)), (22, (i64 (((((⟨bs, 0, 0⟩ : Rdr).int).2).int).1))), (23, (Value.pointer (some ⟨b29, 1, none⟩)))] (j := 4) (by kernel_rfl) (by kernel_rfl) ?_
    refine Ops.put (t := 2) (b := b29) (off := 1) (v := (i64 (((((⟨bs, 0, 0⟩ : Rdr).int).2).int).1))) (ys := [(i64 (((⟨bs, 0, 0⟩ : Rdr).int).1)), (i64 (((((⟨bs, 0, 0⟩ : Rdr).int).2).int).1)), (i64 0), (i64 0), (i64 0), (i64 0), (i64 0), (i64 0)]) (by kernel_rfl) (by kernel_rfl) H64 (by kernel_rfl) (d := none) (by kernel_rfl) rfl (fun w67 H68 K69 => ?_)
    clear H64
    have K70 := K62.trans K69 (U := none_) (fun i h1 h2 => h2) (fun i h1 h2 => by have h2 : i = b29 := h2; exfalso; omega)
    clear K62
    have H71 := H63.keep K69 (by intro h; change b1 = b29 at h; omega)
    clear H63
    have H72 := H59.keep K69 (by intro h; change b15 = b29 at h; omega)
    clear H59
    have F73 := RdO.keep F66 K69 (fun i _ _ hi hs => by have hs : i = b29 := hs; have := ob35 i _ _ hi; omega)
    clear F66
    clear K69
    refine Ops.done (by kernel_rfl) ?_
    refine q_region (by kernel_rfl) ?_
    refine Ops.regs 2 [(2, (Value.pointer (some ⟨b1, 0, none⟩))), (3, (i64 0)), (4, (Value.pointer (some ⟨b15, 0, none⟩))), (5, (Value.pointer (some ⟨b29, 0, none⟩))), (6, (i64 1)), (17, (i64 2)), (18, (Value.bool true))] (j := 2) (by kernel_rfl) (by kernel_rfl) ?_
    refine Ops.done (by kernel_rfl) ?_
    refine roll_step ?_
    refine q_seq (by kernel_rfl) ?_
    refine q_region (by kernel_rfl) ?_
    refine Ops.regs 1 [(2, (Value.pointer (some ⟨b1, 0, none⟩))), (3, (i64 0)), (4, (Value.pointer (some ⟨b15, 0, none⟩))), (5, (Value.pointer (some ⟨b29, 0, none⟩))), (6, (i64 1)), (17, (i64 2)), (18, (Value.bool true))] (j := 1) (by kernel_rfl) (by kernel_rfl) ?_
    refine Ops.done (by kernel_rfl) ?_
    refine q_seq (by kernel_rfl) ?_
    refine q_then (o := .tmp 18) (by kernel_rfl) rfl ?_
    refine q_skip (by kernel_rfl) ?_
    refine q_seq (by kernel_rfl) ?_
    refine q_block (id := 1) (by kernel_rfl) ?_
    refine q_seq (by kernel_rfl) ?_
    refine q_region (by kernel_rfl) ?_
    refine Ops.regs 2 [(2, (Value.pointer (some ⟨b1, 0, none⟩))), (3, (i64 0)), (4, (Value.pointer (some ⟨b15, 0, none⟩))), (5, (Value.pointer (some ⟨b29, 0, none⟩))), (6, (i64 2)), (17, (i64 2)), (18, (Value.bool true))] (j := 2) (by kernel_rfl) (by kernel_rfl) ?_
    refine Ops.done (by kernel_rfl) ?_
    refine q_region (by kernel_rfl) ?_
    refine Ops.regs 2 [(2, (Value.pointer (some ⟨b1, 0, none⟩))), (3, (i64 0)), (4, (Value.pointer (some ⟨b15, 0, none⟩))), (5, (Value.pointer (some ⟨b29, 0, none⟩))), (6, (i64 2)), (17, (i64 2)), (18, (Value.bool true)), (20, (i64 2)), (21, (Value.pointer (some ⟨b15, 0, none⟩)))] (j := 2) (by kernel_rfl) (by kernel_rfl) ?_
    refine Ops.call (by kernel_rfl) (d := (some 22)) (by kernel_rfl) (RdInt_calls _ b15 A16 c17 (((((⟨bs, 0, 0⟩ : Rdr).int).2).int).2) hok60 H72 F73 hne23 ) ?_
    rintro _ w74 ⟨rfl, K75, H76⟩
    have hok77 : ((((((⟨bs, 0, 0⟩ : Rdr).int).2).int).2).int).2.Ok := Rdr.Ok.int hok60
    have hu78 := Rdr.int_range (((((⟨bs, 0, 0⟩ : Rdr).int).2).int).2)
    refine ⟨_, _, rfl, rfl, ?_⟩
    have K79 := K70.trans K75 (U := none_) (fun i h1 h2 => h2) (fun i h1 h2 => by have h2 : i = b15 := h2; exfalso; omega)
    clear K70
    have H80 := H71.keep K75 (by intro h; change b1 = b15 at h; omega)
    clear H71
    have H81 := H68.keep K75 (by intro h; change b29 = b15 at h; omega)
    clear H68
    have F82 := RdO.keep F73 K75 (fun i _ _ hi hs => by have hs : i = b15 := hs; have := hne23 i _ _ hi; omega)
    clear F73
    clear K75
    have F83 : RdO w74 A16 c17 ((((((⟨bs, 0, 0⟩ : Rdr).int).2).int).2).int).2.bs := by rw [Rdr.int_bs]; exact F82
    clear F82
    refine Ops.regs 1 [(2, (Value.pointer (some ⟨b1, 0, none⟩))), (3, (i64 0)), (4, (Value.pointer (some ⟨b15, 0, none⟩))), (5, (Value.pointer (some ⟨b29, 0, none⟩))), (6, (i64 2)), (17, (i64 2)), (18, (Value.bool true)), (22, (i64 (((((((⟨bs, 0, 0⟩ : Rdr).int).2).int).2).int).1))), (23, (Value.pointer (some ⟨b29, 2, none⟩)))] (j := 4) (by kernel_rfl) (by kernel_rfl) ?_
    refine Ops.put (t := 2) (b := b29) (off := 2) (v := (i64 (((((((⟨bs, 0, 0⟩ : Rdr).int).2).int).2).int).1))) (ys := [(i64 (((⟨bs, 0, 0⟩ : Rdr).int).1)), (i64 (((((⟨bs, 0, 0⟩ : Rdr).int).2).int).1)), (i64 (((((((⟨bs, 0, 0⟩ : Rdr).int).2).int).2).int).1)), (i64 0), (i64 0), (i64 0), (i64 0), (i64 0)]) (by kernel_rfl) (by kernel_rfl) H81 (by kernel_rfl) (d := none) (by kernel_rfl) rfl (fun w84 H85 K86 => ?_)
    clear H81
    have K87 := K79.trans K86 (U := none_) (fun i h1 h2 => h2) (fun i h1 h2 => by have h2 : i = b29 := h2; exfalso; omega)
    clear K79
    have H88 := H80.keep K86 (by intro h; change b1 = b29 at h; omega)
    clear H80
    have H89 := H76.keep K86 (by intro h; change b15 = b29 at h; omega)
    clear H76
    have F90 := RdO.keep F83 K86 (fun i _ _ hi hs => by have hs : i = b29 := hs; have := ob35 i _ _ hi; omega)
    clear F83
    clear K86
    refine Ops.done (by kernel_rfl) ?_
    refine q_region (by kernel_rfl) ?_
    refine Ops.regs 2 [(2, (Value.pointer (some ⟨b1, 0, none⟩))), (3, (i64 0)), (4, (Value.pointer (some ⟨b15, 0, none⟩))), (5, (Value.pointer (some ⟨b29, 0, none⟩))), (6, (i64 2)), (17, (i64 3)), (18, (Value.bool true))] (j := 2) (by kernel_rfl) (by kernel_rfl) ?_
    refine Ops.done (by kernel_rfl) ?_
    refine roll_step ?_
    refine q_seq (by kernel_rfl) ?_
    refine q_region (by kernel_rfl) ?_
    refine Ops.regs 1 [(2, (Value.pointer (some ⟨b1, 0, none⟩))), (3, (i64 0)), (4, (Value.pointer (some ⟨b15, 0, none⟩))), (5, (Value.pointer (some ⟨b29, 0, none⟩))), (6, (i64 2)), (17, (i64 3)), (18, (Value.bool true))] (j := 1) (by kernel_rfl) (by kernel_rfl) ?_
    refine Ops.done (by kernel_rfl) ?_
    refine q_seq (by kernel_rfl) ?_
    refine q_then (o := .tmp 18) (by kernel_rfl) rfl ?_
    refine q_skip (by kernel_rfl) ?_
    refine q_seq (by kernel_rfl) ?_
    refine q_block (id := 1) (by kernel_rfl) ?_
    refine q_seq (by kernel_rfl) ?_
    refine q_region (by kernel_rfl) ?_
    refine Ops.regs 2 [(2, (Value.pointer (some ⟨b1, 0, none⟩))), (3, (i64 0)), (4, (Value.pointer (some ⟨b15, 0, none⟩))), (5, (Value.pointer (some ⟨b29, 0, none⟩))), (6, (i64 3)), (17, (i64 3)), (18, (Value.bool true))] (j := 2) (by kernel_rfl) (by kernel_rfl) ?_
    refine Ops.done (by kernel_rfl) ?_
    refine q_region (by kernel_rfl) ?_
    refine Ops.regs 2 [(2, (Value.pointer (some ⟨b1, 0, none⟩))), (3, (i64 0)), (4, (Value.pointer (some ⟨b15, 0, none⟩))), (5, (Value.pointer (some ⟨b29, 0, none⟩))), (6, (i64 3)), (17, (i64 3)), (18, (Value.bool true)), (20, (i64 3)), (21, (Value.pointer (some ⟨b15, 0, none⟩)))] (j := 2) (by kernel_rfl) (by kernel_rfl) ?_
    refine Ops.call (by kernel_rfl) (d := (some 22)) (by kernel_rfl) (RdInt_calls _ b15 A16 c17 (((((((⟨bs, 0, 0⟩ : Rdr).int).2).int).2).int).2) hok77 H89 F90 hne23 ) ?_
    rintro _ w91 ⟨rfl, K92, H93⟩
    have hok94 : ((((((((⟨bs, 0, 0⟩ : Rdr).int).2).int).2).int).2).int).2.Ok := Rdr.Ok.int hok77
    have hu95 := Rdr.int_range (((((((⟨bs, 0, 0⟩ : Rdr).int).2).int).2).int).2)
    refine ⟨_, _, rfl, rfl, ?_⟩
    have K96 := K87.trans K92 (U := none_) (fun i h1 h2 => h2) (fun i h1 h2 => by have h2 : i = b15 := h2; exfalso; omega)
    clear K87
    have H97 := H88.keep K92 (by intro h; change b1 = b15 at h; omega)
    clear H88
    have H98 := H85.keep K92 (by intro h; change b29 = b15 at h; omega)
    clear H85
    have F99 := RdO.keep F90 K92 (fun i _ _ hi hs => by have hs : i = b15 := hs; have := hne23 i _ _ hi; omega)
    clear F90
    clear K92
    have F100 : RdO w91 A16 c17 ((((((((⟨bs, 0, 0⟩ : Rdr).int).2).int).2).int).2).int).2.bs := by rw [Rdr.int_bs]; exact F99
    clear F99
    refine Ops.regs 1 [(2, (Value.pointer (some ⟨b1, 0, none⟩))), (3, (i64 0)), (4, (Value.pointer (some ⟨b15, 0, none⟩))), (5, (Value.pointer (some ⟨b29, 0, none⟩))), (6, (i64 3)), (17, (i64 3)), (18, (Value.bool true)), (22, (i64 (((((((((⟨bs, 0, 0⟩ : Rdr).int).2).int).2).int).2).int).1))), (23, (Value.pointer (some ⟨b29, 3, none⟩)))] (j := 4) (by kernel_rfl) (by kernel_rfl) ?_
    refine Ops.put (t := 2) (b := b29) (off := 3) (v := (i64 (((((((((⟨bs, 0, 0⟩ : Rdr).int).2).int).2).int).2).int).1))) (ys := [(i64 (((⟨bs, 0, 0⟩ : Rdr).int).1)), (i64 (((((⟨bs, 0, 0⟩ : Rdr).int).2).int).1)), (i64 (((((((⟨bs, 0, 0⟩ : Rdr).int).2).int).2).int).1)), (i64 (((((((((⟨bs, 0, 0⟩ : Rdr).int).2).int).2).int).2).int).1)), (i64 0), (i64 0), (i64 0), (i64 0)]) (by kernel_rfl) (by kernel_rfl) H98 (by kernel_rfl) (d := none) (by kernel_rfl) rfl (fun w101 H102 K103 => ?_)
    clear H98
    have K104 := K96.trans K103 (U := none_) (fun i h1 h2 => h2) (fun i h1 h2 => by have h2 : i = b29 := h2; exfalso; omega)
    clear K96
    have H105 := H97.keep K103 (by intro h; change b1 = b29 at h; omega)
    clear H97
    have H106 := H93.keep K103 (by intro h; change b15 = b29 at h; omega)
    clear H93
    have F107 := RdO.keep F100 K103 (fun i _ _ hi hs => by have hs : i = b29 := hs; have := ob35 i _ _ hi; omega)
    clear F100
    clear K103
    refine Ops.done (by kernel_rfl) ?_
    refine q_region (by kernel_rfl) ?_
    refine Ops.regs 2 [(2, (Value.pointer (some ⟨b1, 0, none⟩))), (3, (i64 0)), (4, (Value.pointer (some ⟨b15, 0, none⟩))), (5, (Value.pointer (some ⟨b29, 0, none⟩))), (6, (i64 3)), (17, (i64 4)), (18, (Value.bool true))] (j := 2) (by kernel_rfl) (by kernel_rfl) ?_
    refine Ops.done (by kernel_rfl) ?_
    refine roll_step ?_
    refine q_seq (by kernel_rfl) ?_
    refine q_region (by kernel_rfl) ?_
    refine Ops.regs 1 [(2, (Value.pointer (some ⟨b1, 0, none⟩))), (3, (i64 0)), (4, (Value.pointer (some ⟨b15, 0, none⟩))), (5, (Value.pointer (some ⟨b29, 0, none⟩))), (6, (i64 3)), (17, (i64 4)), (18, (Value.bool true))] (j := 1) (by kernel_rfl) (by kernel_rfl) ?_
    refine Ops.done (by kernel_rfl) ?_
    refine q_seq (by kernel_rfl) ?_
    refine q_then (o := .tmp 18) (by kernel_rfl) rfl ?_
    refine q_skip (by kernel_rfl) ?_
    refine q_seq (by kernel_rfl) ?_
    refine q_block (id := 1) (by kernel_rfl) ?_
    refine q_seq (by kernel_rfl) ?_
    refine q_region (by kernel_rfl) ?_
    refine Ops.regs 2 [(2, (Value.pointer (some ⟨b1, 0, none⟩))), (3, (i64 0)), (4, (Value.pointer (some ⟨b15, 0, none⟩))), (5, (Value.pointer (some ⟨b29, 0, none⟩))), (6, (i64 4)), (17, (i64 4)), (18, (Value.bool true))] (j := 2) (by kernel_rfl) (by kernel_rfl) ?_
    refine Ops.done (by kernel_rfl) ?_
    refine q_region (by kernel_rfl) ?_
    refine Ops.regs 2 [(2, (Value.pointer (some ⟨b1, 0, none⟩))), (3, (i64 0)), (4, (Value.pointer (some ⟨b15, 0, none⟩))), (5, (Value.pointer (some ⟨b29, 0, none⟩))), (6, (i64 4)), (17, (i64 4)), (18, (Value.bool true)), (20, (i64 4)), (21, (Value.pointer (some ⟨b15, 0, none⟩)))] (j := 2) (by kernel_rfl) (by kernel_rfl) ?_
    refine Ops.call (by kernel_rfl) (d := (some 22)) (by kernel_rfl) (RdInt_calls _ b15 A16 c17 (((((((((⟨bs, 0, 0⟩ : Rdr).int).2).int).2).int).2).int).2) hok94 H106 F107 hne23 ) ?_
    rintro _ w108 ⟨rfl, K109, H110⟩
    have hok111 : ((((((((((⟨bs, 0, 0⟩ : Rdr).int).2).int).2).int).2).int).2).int).2.Ok := Rdr.Ok.int hok94
    have hu112 := Rdr.int_range (((((((((⟨bs, 0, 0⟩ : Rdr).int).2).int).2).int).2).int).2)
    refine ⟨_, _, rfl, rfl, ?_⟩
    have K113 := K104.trans K109 (U := none_) (fun i h1 h2 => h2) (fun i h1 h2 => by have h2 : i = b15 := h2; exfalso; omega)
    clear K104
    have H114 := H105.keep K109 (by intro h; change b1 = b15 at h; omega)
    clear H105
    have H115 := H102.keep K109 (by intro h; change b29 = b15 at h; omega)
    clear H102
    have F116 := RdO.keep F107 K109 (fun i _ _ hi hs => by have hs : i = b15 := hs; have := hne23 i _ _ hi; omega)
    clear F107
    clear K109
    have F117 : RdO w108 A16 c17 ((((((((((⟨bs, 0, 0⟩ : Rdr).int).2).int).2).int).2).int).2).int).2.bs := by rw [Rdr.int_bs]; exact F116
    clear F116
    refine Ops.regs 1 [(2, (Value.pointer (some ⟨b1, 0, none⟩))), (3, (i64 0)), (4, (Value.pointer (some ⟨b15, 0, none⟩))), (5, (Value.pointer (some ⟨b29, 0, none⟩))), (6, (i64 4)), (17, (i64 4)), (18, (Value.bool true)), (22, (i64 (((((((((((⟨bs, 0, 0⟩ : Rdr).int).2).int).2).int).2).int).2).int).1))), (23, (Value.pointer (some ⟨b29, 4, none⟩)))] (j := 4) (by kernel_rfl) (by kernel_rfl) ?_
    refine Ops.put (t := 2) (b := b29) (off := 4) (v := (i64 (((((((((((⟨bs, 0, 0⟩ : Rdr).int).2).int).2).int).2).int).2).int).1))) (ys := [(i64 (((⟨bs, 0, 0⟩ : Rdr).int).1)), (i64 (((((⟨bs, 0, 0⟩ : Rdr).int).2).int).1)), (i64 (((((((⟨bs, 0, 0⟩ : Rdr).int).2).int).2).int).1)), (i64 (((((((((⟨bs, 0, 0⟩ : Rdr).int).2).int).2).int).2).int).1)), (i64 (((((((((((⟨bs, 0, 0⟩ : Rdr).int).2).int).2).int).2).int).2).int).1)), (i64 0), (i64 0), (i64 0)]) (by kernel_rfl) (by kernel_rfl) H115 (by kernel_rfl) (d := none) (by kernel_rfl) rfl (fun w118 H119 K120 => ?_)
    clear H115
    have K121 := K113.trans K120 (U := none_) (fun i h1 h2 => h2) (fun i h1 h2 => by have h2 : i = b29 := h2; exfalso; omega)
    clear K113
    have H122 := H114.keep K120 (by intro h; change b1 = b29 at h; omega)
    clear H114
    have H123 := H110.keep K120 (by intro h; change b15 = b29 at h; omega)
    clear H110
    have F124 := RdO.keep F117 K120 (fun i _ _ hi hs => by have hs : i = b29 := hs; have := ob35 i _ _ hi; omega)
    clear F117
    clear K120
    refine Ops.done (by kernel_rfl) ?_
    refine q_region (by kernel_rfl) ?_
    refine Ops.regs 2 [(2, (Value.pointer (some ⟨b1, 0, none⟩))), (3, (i64 0)), (4, (Value.pointer (some ⟨b15, 0, none⟩))), (5, (Value.pointer (some ⟨b29, 0, none⟩))), (6, (i64 4)), (17, (i64 5)), (18, (Value.bool true))] (j := 2) (by kernel_rfl) (by kernel_rfl) ?_
    refine Ops.done (by kernel_rfl) ?_
    refine roll_step ?_
    refine q_seq (by kernel_rfl) ?_
    refine q_region (by kernel_rfl) ?_
    refine Ops.regs 1 [(2, (Value.pointer (some ⟨b1, 0, none⟩))), (3, (i64 0)), (4, (Value.pointer (some ⟨b15, 0, none⟩))), (5, (Value.pointer (some ⟨b29, 0, none⟩))), (6, (i64 4)), (17, (i64 5)), (18, (Value.bool true))] (j := 1) (by kernel_rfl) (by kernel_rfl) ?_
    refine Ops.done (by kernel_rfl) ?_
    refine q_seq (by kernel_rfl) ?_
    refine q_then (o := .tmp 18) (by kernel_rfl) rfl ?_
    refine q_skip (by kernel_rfl) ?_
    refine q_seq (by kernel_rfl) ?_
    refine q_block (id := 1) (by kernel_rfl) ?_
    refine q_seq (by kernel_rfl) ?_
    refine q_region (by kernel_rfl) ?_
    refine Ops.regs 2 [(2, (Value.pointer (some ⟨b1, 0, none⟩))), (3, (i64 0)), (4, (Value.pointer (some ⟨b15, 0, none⟩))), (5, (Value.pointer (some ⟨b29, 0, none⟩))), (6, (i64 5)), (17, (i64 5)), (18, (Value.bool true))] (j := 2) (by kernel_rfl) (by kernel_rfl) ?_
    refine Ops.done (by kernel_rfl) ?_
    refine q_region (by kernel_rfl) ?_
    refine Ops.regs 2 [(2, (Value.pointer (some ⟨b1, 0, none⟩))), (3, (i64 0)), (4, (Value.pointer (some ⟨b15, 0, none⟩))), (5, (Value.pointer (some ⟨b29, 0, none⟩))), (6, (i64 5)), (17, (i64 5)), (18, (Value.bool true)), (20, (i64 5)), (21, (Value.pointer (some ⟨b15, 0, none⟩)))] (j := 2) (by kernel_rfl) (by kernel_rfl) ?_
    refine Ops.call (by kernel_rfl) (d := (some 22)) (by kernel_rfl) (RdInt_calls _ b15 A16 c17 (((((((((((⟨bs, 0, 0⟩ : Rdr).int).2).int).2).int).2).int).2).int).2) hok111 H123 F124 hne23 ) ?_
    rintro _ w125 ⟨rfl, K126, H127⟩
    have hok128 : ((((((((((((⟨bs, 0, 0⟩ : Rdr).int).2).int).2).int).2).int).2).int).2).int).2.Ok := Rdr.Ok.int hok111
    have hu129 := Rdr.int_range (((((((((((⟨bs, 0, 0⟩ : Rdr).int).2).int).2).int).2).int).2).int).2)
    refine ⟨_, _, rfl, rfl, ?_⟩
    have K130 := K121.trans K126 (U := none_) (fun i h1 h2 => h2) (fun i h1 h2 => by have h2 : i = b15 := h2; exfalso; omega)
    clear K121
    have H131 := H122.keep K126 (by intro h; change b1 = b15 at h; omega)
    clear H122
    have H132 := H119.keep K126 (by intro h; change b29 = b15 at h; omega)
    clear H119
    have F133 := RdO.keep F124 K126 (fun i _ _ hi hs => by have hs : i = b15 := hs; have := hne23 i _ _ hi; omega)
    clear F124
    clear K126
    have F134 : RdO w125 A16 c17 ((((((((((((⟨bs, 0, 0⟩ : Rdr).int).2).int).2).int).2).int).2).int).2).int).2.bs := by rw [Rdr.int_bs]; exact F133
    clear F133
    refine Ops.regs 1 [(2, (Value.pointer (some ⟨b1, 0, none⟩))), (3, (i64 0)), (4, (Value.pointer (some ⟨b15, 0, none⟩))), (5, (Value.pointer (some ⟨b29, 0, none⟩))), (6, (i64 5)), (17, (i64 5)), (18, (Value.bool true)), (22, (i64 (((((((((((((⟨bs, 0, 0⟩ : Rdr).int).2).int).2).int).2).int).2).int).2).int).1))), (23, (Value.pointer (some ⟨b29, 5, none⟩)))] (j := 4) (by kernel_rfl) (by kernel_rfl) ?_
    refine Ops.put (t := 2) (b := b29) (off := 5) (v := (i64 (((((((((((((⟨bs, 0, 0⟩ : Rdr).int).2).int).2).int).2).int).2).int).2).int).1))) (ys := [(i64 (((⟨bs, 0, 0⟩ : Rdr).int).1)), (i64 (((((⟨bs, 0, 0⟩ : Rdr).int).2).int).1)), (i64 (((((((⟨bs, 0, 0⟩ : Rdr).int).2).int).2).int).1)), (i64 (((((((((⟨bs, 0, 0⟩ : Rdr).int).2).int).2).int).2).int).1)), (i64 (((((((((((⟨bs, 0, 0⟩ : Rdr).int).2).int).2).int).2).int).2).int).1)), (i64 (((((((((((((⟨bs, 0, 0⟩ : Rdr).int).2).int).2).int).2).int).2).int).2).int).1)), (i64 0), (i64 0)]) (by kernel_rfl) (by kernel_rfl) H132 (by kernel_rfl) (d := none) (by kernel_rfl) rfl (fun w135 H136 K137 => ?_)
    clear H132
    have K138 := K130.trans K137 (U := none_) (fun i h1 h2 => h2) (fun i h1 h2 => by have h2 : i = b29 := h2; exfalso; omega)
    clear K130
    have H139 := H131.keep K137 (by intro h; change b1 = b29 at h; omega)
    clear H131
    have H140 := H127.keep K137 (by intro h; change b15 = b29 at h; omega)
    clear H127
    have F141 := RdO.keep F134 K137 (fun i _ _ hi hs => by have hs : i = b29 := hs; have := ob35 i _ _ hi; omega)
    clear F134
    clear K137
    refine Ops.done (by kernel_rfl) ?_
    refine q_region (by kernel_rfl) ?_
    refine Ops.regs 2 [(2, (Value.pointer (some ⟨b1, 0, none⟩))), (3, (i64 0)), (4, (Value.pointer (some ⟨b15, 0, none⟩))), (5, (Value.pointer (some ⟨b29, 0, none⟩))), (6, (i64 5)), (17, (i64 6)), (18, (Value.bool true))] (j := 2) (by kernel_rfl) (by kernel_rfl) ?_
    refine Ops.done (by kernel_rfl) ?_
    refine roll_step ?_
    refine q_seq (by kernel_rfl) ?_
    refine q_region (by kernel_rfl) ?_
    refine Ops.regs 1 [(2, (Value.pointer (some ⟨b1, 0, none⟩))), (3, (i64 0)), (4, (Value.pointer (some ⟨b15, 0, none⟩))), (5, (Value.pointer (some ⟨b29, 0, none⟩))), (6, (i64 5)), (17, (i64 6)), (18, (Value.bool true))] (j := 1) (by kernel_rfl) (by kernel_rfl) ?_
    refine Ops.done (by kernel_rfl) ?_
    refine q_seq (by kernel_rfl) ?_
    refine q_then (o := .tmp 18) (by kernel_rfl) rfl ?_
    refine q_skip (by kernel_rfl) ?_
    refine q_seq (by kernel_rfl) ?_
    refine q_block (id := 1) (by kernel_rfl) ?_
    refine q_seq (by kernel_rfl) ?_
    refine q_region (by kernel_rfl) ?_
    refine Ops.regs 2 [(2, (Value.pointer (some ⟨b1, 0, none⟩))), (3, (i64 0)), (4, (Value.pointer (some ⟨b15, 0, none⟩))), (5, (Value.pointer (some ⟨b29, 0, none⟩))), (6, (i64 6)), (17, (i64 6)), (18, (Value.bool true))] (j := 2) (by kernel_rfl) (by kernel_rfl) ?_
    refine Ops.done (by kernel_rfl) ?_
    refine q_region (by kernel_rfl) ?_
    refine Ops.regs 2 [(2, (Value.pointer (some ⟨b1, 0, none⟩))), (3, (i64 0)), (4, (Value.pointer (some ⟨b15, 0, none⟩))), (5, (Value.pointer (some ⟨b29, 0, none⟩))), (6, (i64 6)), (17, (i64 6)), (18, (Value.bool true)), (20, (i64 6)), (21, (Value.pointer (some ⟨b15, 0, none⟩)))] (j := 2) (by kernel_rfl) (by kernel_rfl) ?_
    refine Ops.call (by kernel_rfl) (d := (some 22)) (by kernel_rfl) (RdInt_calls _ b15 A16 c17 (((((((((((((⟨bs, 0, 0⟩ : Rdr).int).2).int).2).int).2).int).2).int).2).int).2) hok128 H140 F141 hne23 ) ?_
    rintro _ w142 ⟨rfl, K143, H144⟩
    have hok145 : ((((((((((((((⟨bs, 0, 0⟩ : Rdr).int).2).int).2).int).2).int).2).int).2).int).2).int).2.Ok := Rdr.Ok.int hok128
    have hu146 := Rdr.int_range (((((((((((((⟨bs, 0, 0⟩ : Rdr).int).2).int).2).int).2).int).2).int).2).int).2)
    refine ⟨_, _, rfl, rfl, ?_⟩
    have K147 := K138.trans K143 (U := none_) (fun i h1 h2 => h2) (fun i h1 h2 => by have h2 : i = b15 := h2; exfalso; omega)
    clear K138
    have H148 := H139.keep K143 (by intro h; change b1 = b15 at h; omega)
    clear H139
    have H149 := H136.keep K143 (by intro h; change b29 = b15 at h; omega)
    clear H136
    have F150 := RdO.keep F141 K143 (fun i _ _ hi hs => by have hs : i = b15 := hs; have := hne23 i _ _ hi; omega)
    clear F141
    clear K143
    have F151 : RdO w142 A16 c17 ((((((((((((((⟨bs, 0, 0⟩ : Rdr).int).2).int).2).int).2).int).2).int).2).int).2).int).2.bs := by rw [Rdr.int_bs]; exact F150
    clear F150
    refine Ops.regs 1 [(2, (Value.pointer (some ⟨b1, 0, none⟩))), (3, (i64 0)), (4, (Value.pointer (some ⟨b15, 0, none⟩))), (5, (Value.pointer (some ⟨b29, 0, none⟩))), (6, (i64 6)), (17, (i64 6)), (18, (Value.bool true)), (22, (i64 (((((((((((((((⟨bs, 0, 0⟩ : Rdr).int).2).int).2).int).2).int).2).int).2).int).2).int).1))), (23, (Value.pointer (some ⟨b29, 6, none⟩)))] (j := 4) (by kernel_rfl) (by kernel_rfl) ?_
    refine Ops.put (t := 2) (b := b29) (off := 6) (v := (i64 (((((((((((((((⟨bs, 0, 0⟩ : Rdr).int).2).int).2).int).2).int).2).int).2).int).2).int).1))) (ys := [(i64 (((⟨bs, 0, 0⟩ : Rdr).int).1)), (i64 (((((⟨bs, 0, 0⟩ : Rdr).int).2).int).1)), (i64 (((((((⟨bs, 0, 0⟩ : Rdr).int).2).int).2).int).1)), (i64 (((((((((⟨bs, 0, 0⟩ : Rdr).int).2).int).2).int).2).int).1)), (i64 (((((((((((⟨bs, 0, 0⟩ : Rdr).int).2).int).2).int).2).int).2).int).1)), (i64 (((((((((((((⟨bs, 0, 0⟩ : Rdr).int).2).int).2).int).2).int).2).int).2).int).1)), (i64 (((((((((((((((⟨bs, 0, 0⟩ : Rdr).int).2).int).2).int).2).int).2).int).2).int).2).int).1)), (i64 0)]) (by kernel_rfl) (by kernel_rfl) H149 (by kernel_rfl) (d := none) (by kernel_rfl) rfl (fun w152 H153 K154 => ?_)
    clear H149
    have K155 := K147.trans K154 (U := none_) (fun i h1 h2 => h2) (fun i h1 h2 => by have h2 : i = b29 := h2; exfalso; omega)
    clear K147
    have H156 := H148.keep K154 (by intro h; change b1 = b29 at h; omega)
    clear H148
    have H157 := H144.keep K154 (by intro h; change b15 = b29 at h; omega)
    clear H144
    have F158 := RdO.keep F151 K154 (fun i _ _ hi hs => by have hs : i = b29 := hs; have := ob35 i _ _ hi; omega)
    clear F151
    clear K154
    refine Ops.done (by kernel_rfl) ?_
    refine q_region (by kernel_rfl) ?_
    refine Ops.regs 2 [(2, (Value.pointer (some ⟨b1, 0, none⟩))), (3, (i64 0)), (4, (Value.pointer (some ⟨b15, 0, none⟩))), (5, (Value.pointer (some ⟨b29, 0, none⟩))), (6, (i64 6)), (17, (i64 7)), (18, (Value.bool true))] (j := 2) (by kernel_rfl) (by kernel_rfl) ?_
    refine Ops.done (by kernel_rfl) ?_
    refine roll_step ?_
    refine q_seq (by kernel_rfl) ?_
    refine q_region (by kernel_rfl) ?_
    refine Ops.regs 1 [(2, (Value.pointer (some ⟨b1, 0, none⟩))), (3, (i64 0)), (4, (Value.pointer (some ⟨b15, 0, none⟩))), (5, (Value.pointer (some ⟨b29, 0, none⟩))), (6, (i64 6)), (17, (i64 7)), (18, (Value.bool true))] (j := 1) (by kernel_rfl) (by kernel_rfl) ?_
    refine Ops.done (by kernel_rfl) ?_
    refine q_seq (by kernel_rfl) ?_
    refine q_then (o := .tmp 18) (by kernel_rfl) rfl ?_
    refine q_skip (by kernel_rfl) ?_
    refine q_seq (by kernel_rfl) ?_
    refine q_block (id := 1) (by kernel_rfl) ?_
    refine q_seq (by kernel_rfl) ?_
    refine q_region (by kernel_rfl) ?_
    refine Ops.regs 2 [(2, (Value.pointer (some ⟨b1, 0, none⟩))), (3, (i64 0)), (4, (Value.pointer (some ⟨b15, 0, none⟩))), (5, (Value.pointer (some ⟨b29, 0, none⟩))), (6, (i64 7)), (17, (i64 7)), (18, (Value.bool true))] (j := 2) (by kernel_rfl) (by kernel_rfl) ?_
    refine Ops.done (by kernel_rfl) ?_
    refine q_region (by kernel_rfl) ?_
    refine Ops.regs 2 [(2, (Value.pointer (some ⟨b1, 0, none⟩))), (3, (i64 0)), (4, (Value.pointer (some ⟨b15, 0, none⟩))), (5, (Value.pointer (some ⟨b29, 0, none⟩))), (6, (i64 7)), (17, (i64 7)), (18, (Value.bool true)), (20, (i64 7)), (21, (Value.pointer (some ⟨b15, 0, none⟩)))] (j := 2) (by kernel_rfl) (by kernel_rfl) ?_
    refine Ops.call (by kernel_rfl) (d := (some 22)) (by kernel_rfl) (RdInt_calls _ b15 A16 c17 (((((((((((((((⟨bs, 0, 0⟩ : Rdr).int).2).int).2).int).2).int).2).int).2).int).2).int).2) hok145 H157 F158 hne23 ) ?_
    rintro _ w159 ⟨rfl, K160, H161⟩
    have hok162 : ((((((((((((((((⟨bs, 0, 0⟩ : Rdr).int).2).int).2).int).2).int).2).int).2).int).2).int).2).int).2.Ok := Rdr.Ok.int hok145
    have hu163 := Rdr.int_range (((((((((((((((⟨bs, 0, 0⟩ : Rdr).int).2).int).2).int).2).int).2).int).2).int).2).int).2)
    refine ⟨_, _, rfl, rfl, ?_⟩
    have K164 := K155.trans K160 (U := none_) (fun i h1 h2 => h2) (fun i h1 h2 => by have h2 : i = b15 := h2; exfalso; omega)
    clear K155
    have H165 := H156.keep K160 (by intro h; change b1 = b15 at h; omega)
    clear H156
    have H166 := H153.keep K160 (by intro h; change b29 = b15 at h; omega)
    clear H153
    have F167 := RdO.keep F158 K160 (fun i _ _ hi hs => by have hs : i = b15 := hs; have := hne23 i _ _ hi; omega)
    clear F158
    clear K160
    have F168 : RdO w159 A16 c17 ((((((((((((((((⟨bs, 0, 0⟩ : Rdr).int).2).int).2).int).2).int).2).int).2).int).2).int).2).int).2.bs := by rw [Rdr.int_bs]; exact F167
    clear F167
    refine Ops.regs 1 [(2, (Value.pointer (some ⟨b1, 0, none⟩))), (3, (i64 0)), (4, (Value.pointer (some ⟨b15, 0, none⟩))), (5, (Value.pointer (some ⟨b29, 0, none⟩))), (6, (i64 7)), (17, (i64 7)), (18, (Value.bool true)), (22, (i64 (((((((((((((((((⟨bs, 0, 0⟩ : Rdr).int).2).int).2).int).2).int).2).int).2).int).2).int).2).int).1))), (23, (Value.pointer (some ⟨b29, 7, none⟩)))] (j := 4) (by kernel_rfl) (by kernel_rfl) ?_
    refine Ops.put (t := 2) (b := b29) (off := 7) (v := (i64 (((((((((((((((((⟨bs, 0, 0⟩ : Rdr).int).2).int).2).int).2).int).2).int).2).int).2).int).2).int).1))) (ys := [(i64 (((⟨bs, 0, 0⟩ : Rdr).int).1)), (i64 (((((⟨bs, 0, 0⟩ : Rdr).int).2).int).1)), (i64 (((((((⟨bs, 0, 0⟩ : Rdr).int).2).int).2).int).1)), (i64 (((((((((⟨bs, 0, 0⟩ : Rdr).int).2).int).2).int).2).int).1)), (i64 (((((((((((⟨bs, 0, 0⟩ : Rdr).int).2).int).2).int).2).int).2).int).1)), (i64 (((((((((((((⟨bs, 0, 0⟩ : Rdr).int).2).int).2).int).2).int).2).int).2).int).1)), (i64 (((((((((((((((⟨bs, 0, 0⟩ : Rdr).int).2).int).2).int).2).int).2).int).2).int).2).int).1)), (i64 (((((((((((((((((⟨bs, 0, 0⟩ : Rdr).int).2).int).2).int).2).int).2).int).2).int).2).int).2).int).1))]) (by kernel_rfl) (by kernel_rfl) H166 (by kernel_rfl) (d := none) (by kernel_rfl) rfl (fun w169 H170 K171 => ?_)
    clear H166
    have K172 := K164.trans K171 (U := none_) (fun i h1 h2 => h2) (fun i h1 h2 => by have h2 : i = b29 := h2; exfalso; omega)
    clear K164
    have H173 := H165.keep K171 (by intro h; change b1 = b29 at h; omega)
    clear H165
    have H174 := H161.keep K171 (by intro h; change b15 = b29 at h; omega)
    clear H161
    have F175 := RdO.keep F168 K171 (fun i _ _ hi hs => by have hs : i = b29 := hs; have := ob35 i _ _ hi; omega)
    clear F168
    clear K171
    refine Ops.done (by kernel_rfl) ?_
    refine q_region (by kernel_rfl) ?_
    refine Ops.regs 2 [(2, (Value.pointer (some ⟨b1, 0, none⟩))), (3, (i64 0)), (4, (Value.pointer (some ⟨b15, 0, none⟩))), (5, (Value.pointer (some ⟨b29, 0, none⟩))), (6, (i64 7)), (17, (i64 8)), (18, (Value.bool true))] (j := 2) (by kernel_rfl) (by kernel_rfl) ?_
    refine Ops.done (by kernel_rfl) ?_
    refine roll_step ?_
    refine q_seq (by kernel_rfl) ?_
    refine q_region (by kernel_rfl) ?_
    refine Ops.regs 1 [(2, (Value.pointer (some ⟨b1, 0, none⟩))), (3, (i64 0)), (4, (Value.pointer (some ⟨b15, 0, none⟩))), (5, (Value.pointer (some ⟨b29, 0, none⟩))), (6, (i64 7)), (17, (i64 8)), (18, (Value.bool false))] (j := 1) (by kernel_rfl) (by kernel_rfl) ?_
    refine Ops.done (by kernel_rfl) ?_
    refine q_seq (by kernel_rfl) ?_
    refine q_else (o := .tmp 18) (by kernel_rfl) rfl ?_
    refine q_exit (id := 0) (by kernel_rfl) ?_
    refine q_seq (by kernel_rfl) ?_
    refine q_draw (fun wz => Keeps (fun i => i = b15) w169 wz) 13 (by kernel_rfl) (by kernel_rfl) (by kernel_rfl) (fun w176 K177 _ _ => ⟨(K177.mono (fun _ _ h => h.elim)), ?_⟩)
    have K178 := K172.trans K177 (U := none_) (fun i h1 h2 => h2) (fun i h1 h2 => by exact h2)
    clear K172
    have H179 := H173.keep K177 (fun h => h)
    clear H173
    have H180 := H174.keep K177 (fun h => h)
    clear H174
    have H181 := H170.keep K177 (fun h => h)
    clear H170
    have F182 := RdO.keep0 F175 K177
    clear F175
    refine Dr.strong (S' := (fun wz => Keeps (fun i => i = b15) w176 wz)) ((Keeps.refl w176).mono (fun _ _ h => h.elim)) (fun wz hx => K177.trans hx (fun i _ h => h.elim) (fun _ _ h => h)) ?_
    clear K177
    refine Dr.takes (fuel' := 12) (is' := [0]) [0] [(2, (Value.pointer (some ⟨b1, 0, none⟩))), (3, (i64 0)), (4, (Value.pointer (some ⟨b15, 0, none⟩))), (5, (Value.pointer (some ⟨b29, 0, none⟩))), (25, (Value.pointer (some ⟨b29, 4, none⟩)))] (by kernel_rfl) rfl (by kernel_rfl) ?_
    refine Dr.take (i := 1) (v := (i64 (((((((((((⟨bs, 0, 0⟩ : Rdr).int).2).int).2).int).2).int).2).int).1))) (by kernel_rfl) (by kernel_rfl) (fun wz hS => Runs.load (t := 2) (a := ⟨b29, 4, none⟩) (by kernel_rfl) ((H181.keep hS (by intro h; change b29 = b15 at h; omega)).loads (by kernel_rfl))) (d := (some 26)) (by kernel_rfl) rfl ?_
    refine Dr.takes (fuel' := 10) (is' := [2, 1, 0]) [2] [(2, (Value.pointer (some ⟨b1, 0, none⟩))), (3, (i64 0)), (4, (Value.pointer (some ⟨b15, 0, none⟩))), (5, (Value.pointer (some ⟨b29, 0, none⟩))), (26, (i64 (((((((((((⟨bs, 0, 0⟩ : Rdr).int).2).int).2).int).2).int).2).int).1))), (27, (Value.pointer (some ⟨b29, 5, none⟩)))] (by kernel_rfl) rfl (by kernel_rfl) ?_
    refine Dr.take (i := 3) (v := (i64 (((((((((((((⟨bs, 0, 0⟩ : Rdr).int).2).int).2).int).2).int).2).int).2).int).1))) (by kernel_rfl) (by kernel_rfl) (fun wz hS => Runs.load (t := 2) (a := ⟨b29, 5, none⟩) (by kernel_rfl) ((H181.keep hS (by intro h; change b29 = b15 at h; omega)).loads (by kernel_rfl))) (d := (some 28)) (by kernel_rfl) rfl ?_
    refine Dr.takes (fuel' := 8) (is' := [4, 3, 2, 1, 0]) [4] [(2, (Value.pointer (some ⟨b1, 0, none⟩))), (3, (i64 0)), (4, (Value.pointer (some ⟨b15, 0, none⟩))), (5, (Value.pointer (some ⟨b29, 0, none⟩))), (26, (i64 (((((((((((⟨bs, 0, 0⟩ : Rdr).int).2).int).2).int).2).int).2).int).1))), (28, (i64 (((((((((((((⟨bs, 0, 0⟩ : Rdr).int).2).int).2).int).2).int).2).int).2).int).1))), (29, (Value.pointer (some ⟨b29, 6, none⟩)))] (by kernel_rfl) rfl (by kernel_rfl) ?_
    refine Dr.take (i := 5) (v := (i64 (((((((((((((((⟨bs, 0, 0⟩ : Rdr).int).2).int).2).int).2).int).2).int).2).int).2).int).1))) (by kernel_rfl) (by kernel_rfl) (fun wz hS => Runs.load (t := 2) (a := ⟨b29, 6, none⟩) (by kernel_rfl) ((H181.keep hS (by intro h; change b29 = b15 at h; omega)).loads (by kernel_rfl))) (d := (some 30)) (by kernel_rfl) rfl ?_
    refine Dr.takes (fuel' := 6) (is' := [6, 5, 4, 3, 2, 1, 0]) [6] [(2, (Value.pointer (some ⟨b1, 0, none⟩))), (3, (i64 0)), (4, (Value.pointer (some ⟨b15, 0, none⟩))), (5, (Value.pointer (some ⟨b29, 0, none⟩))), (26, (i64 (((((((((((⟨bs, 0, 0⟩ : Rdr).int).2).int).2).int).2).int).2).int).1))), (28, (i64 (((((((((((((⟨bs, 0, 0⟩ : Rdr).int).2).int).2).int).2).int).2).int).2).int).1))), (30, (i64 (((((((((((((((⟨bs, 0, 0⟩ : Rdr).int).2).int).2).int).2).int).2).int).2).int).2).int).1))), (31, (Value.pointer (some ⟨b29, 7, none⟩)))] (by kernel_rfl) rfl (by kernel_rfl) ?_
    refine Dr.take (i := 7) (v := (i64 (((((((((((((((((⟨bs, 0, 0⟩ : Rdr).int).2).int).2).int).2).int).2).int).2).int).2).int).2).int).1))) (by kernel_rfl) (by kernel_rfl) (fun wz hS => Runs.load (t := 2) (a := ⟨b29, 7, none⟩) (by kernel_rfl) ((H181.keep hS (by intro h; change b29 = b15 at h; omega)).loads (by kernel_rfl))) (d := (some 32)) (by kernel_rfl) rfl ?_
    refine Dr.takes (fuel' := 4) (is' := [8, 7, 6, 5, 4, 3, 2, 1, 0]) [8] [(2, (Value.pointer (some ⟨b1, 0, none⟩))), (3, (i64 0)), (4, (Value.pointer (some ⟨b15, 0, none⟩))), (5, (Value.pointer (some ⟨b29, 0, none⟩))), (26, (i64 (((((((((((⟨bs, 0, 0⟩ : Rdr).int).2).int).2).int).2).int).2).int).1))), (28, (i64 (((((((((((((⟨bs, 0, 0⟩ : Rdr).int).2).int).2).int).2).int).2).int).2).int).1))), (30, (i64 (((((((((((((((⟨bs, 0, 0⟩ : Rdr).int).2).int).2).int).2).int).2).int).2).int).2).int).1))), (32, (i64 (((((((((((((((((⟨bs, 0, 0⟩ : Rdr).int).2).int).2).int).2).int).2).int).2).int).2).int).2).int).1))), (33, (Value.pointer (some ⟨b15, 0, none⟩)))] (by kernel_rfl) rfl (by kernel_rfl) ?_
    refine Dr.call_new (fuel := 1) (i := 9) (j := 11) (rb := b15) (new := rowL (rdrL A16 c17 (((((((((((((((((((⟨bs, 0, 0⟩ : Rdr).int).2).int).2).int).2).int).2).int).2).int).2).int).2).int).2).bool_).2)) 88) (val := (Value.bool (((((((((((((((((((⟨bs, 0, 0⟩ : Rdr).int).2).int).2).int).2).int).2).int).2).int).2).int).2).int).2).bool_).1))) (o := rowL [(i64 0), (i64 0), (i64 0), (i64 0), (i64 0), (i64 0), (i64 0), (i64 0), (Value.bool false), (Value.slice none 0 0), (Value.slice none 0 0)] 49) (V := fun b => (Value.pointer (some ⟨b, 0, none⟩))) (La := [(2, (Value.pointer (some ⟨b1, 0, none⟩))), (3, (i64 0)), (4, (Value.pointer (some ⟨b15, 0, none⟩))), (5, (Value.pointer (some ⟨b29, 0, none⟩))), (35, (agg [(i64 0), (i64 0), (i64 0), (i64 0), (i64 (((((((((((⟨bs, 0, 0⟩ : Rdr).int).2).int).2).int).2).int).2).int).1)), (i64 (((((((((((((⟨bs, 0, 0⟩ : Rdr).int).2).int).2).int).2).int).2).int).2).int).1)), (i64 (((((((((((((((⟨bs, 0, 0⟩ : Rdr).int).2).int).2).int).2).int).2).int).2).int).2).int).1)), (i64 (((((((((((((((((⟨bs, 0, 0⟩ : Rdr).int).2).int).2).int).2).int).2).int).2).int).2).int).2).int).1)), (Value.bool (((((((((((((((((((⟨bs, 0, 0⟩ : Rdr).int).2).int).2).int).2).int).2).int).2).int).2).int).2).int).2).bool_).1)), (Value.slice none 0 0), (Value.slice none 0 0)]))]) (Rl := fun b => [(2, (Value.pointer (some ⟨b1, 0, none⟩))), (3, (i64 0)), (4, (Value.pointer (some ⟨b15, 0, none⟩))), (5, (Value.pointer (some ⟨b29, 0, none⟩))), (7, (Value.pointer (some ⟨b, 0, none⟩))), (35, (agg [(i64 0), (i64 0), (i64 0), (i64 0), (i64 (((((((((((⟨bs, 0, 0⟩ : Rdr).int).2).int).2).int).2).int).2).int).1)), (i64 (((((((((((((⟨bs, 0, 0⟩ : Rdr).int).2).int).2).int).2).int).2).int).2).int).1)), (i64 (((((((((((((((⟨bs, 0, 0⟩ : Rdr).int).2).int).2).int).2).int).2).int).2).int).2).int).1)), (i64 (((((((((((((((((⟨bs, 0, 0⟩ : Rdr).int).2).int).2).int).2).int).2).int).2).int).2).int).2).int).1)), (Value.bool (((((((((((((((((((⟨bs, 0, 0⟩ : Rdr).int).2).int).2).int).2).int).2).int).2).int).2).int).2).int).2).bool_).1)), (Value.slice none 0 0), (Value.slice none 0 0)]))]) [10] (by kernel_rfl) (.inl rfl) (by kernel_rfl) (di := (some 34)) (by kernel_rfl) rfl (by kernel_rfl) (by kernel_rfl) (by kernel_rfl) (dj := (some 7)) (by kernel_rfl) (fun b => rfl) (by kernel_rfl) (fun b => rfl) (by kernel_rfl) (fun b => by kernel_rfl) (fun b => rfl) (fun b => by kernel_rfl) (by kernel_rfl) H180 (fun w1 kz => RdBool_calls _ b15 A16 c17 (((((((((((((((((⟨bs, 0, 0⟩ : Rdr).int).2).int).2).int).2).int).2).int).2).int).2).int).2).int).2) hok162 (H180.keep kz (fun h => h)) (RdO.keep0 F182 kz) hne23 ) (fun w1 kz => kz) ?_
    intro b191 w192 K193 H194 H195 q196
    have hok186 : ((((((((((((((((((⟨bs, 0, 0⟩ : Rdr).int).2).int).2).int).2).int).2).int).2).int).2).int).2).int).2).bool_).2.Ok := Rdr.Ok.bool_ hok162
    have lb191b1 : b1 < b191 := by have := H179.lt; omega
    have lb191b15 : b15 < b191 := by have := H180.lt; omega
    have lb191b29 : b29 < b191 := by have := H181.lt; omega
    have nb191 : w.heap.size ≤ b191 := by have := K178.size; omega
    have ob198 : ∀ i o s, A16 = some ⟨i, o, s⟩ → i ≠ b191 := fun i o s hi => by have := F182.2 i o s hi; omega
    have K199 := K178.trans K193 (U := none_) (fun i h1 h2 => h2) (fun i h1 h2 => by have h2 : i = b15 := h2; exfalso; omega)
    clear K178
    have H200 := H179.keep K193 (by intro h; change b1 = b15 at h; omega)
    clear H179
    have H201 := H181.keep K193 (by intro h; change b29 = b15 at h; omega)
    clear H181
    have F202 := RdO.keep F182 K193 (fun i _ _ hi hs => by have hs : i = b15 := hs; have := hne23 i _ _ hi; omega)
    clear F182
    have F203 : RdO w192 A16 c17 ((((((((((((((((((⟨bs, 0, 0⟩ : Rdr).int).2).int).2).int).2).int).2).int).2).int).2).int).2).int).2).bool_).2.bs := by rw [Rdr.bool_bs]; exact F202
    clear F202
    refine Dr.strong (S' := (fun wz => Keeps (fun i => i = b15 ∨ i = b191) w192 wz)) ((Keeps.refl w192).mono (fun _ _ h => h.elim)) (fun wz hx => K193.trans hx (U := (fun i => i = b15)) (fun i _ h => by have h : i = b15 := h; show i = b15; omega) (fun i hi h => by have h : i = b15 ∨ i = b191 := h; show i = b15; omega)) ?_
    refine Dr.put (i := 12) (t := 49) (b := b191) (off := 0) (v := (agg [(i64 0), (i64 0), (i64 0), (i64 0), (i64 (((((((((((⟨bs, 0, 0⟩ : Rdr).int).2).int).2).int).2).int).2).int).1)), (i64 (((((((((((((⟨bs, 0, 0⟩ : Rdr).int).2).int).2).int).2).int).2).int).2).int).1)), (i64 (((((((((((((((⟨bs, 0, 0⟩ : Rdr).int).2).int).2).int).2).int).2).int).2).int).2).int).1)), (i64 (((((((((((((((((⟨bs, 0, 0⟩ : Rdr).int).2).int).2).int).2).int).2).int).2).int).2).int).2).int).1)), (Value.bool (((((((((((((((((((⟨bs, 0, 0⟩ : Rdr).int).2).int).2).int).2).int).2).int).2).int).2).int).2).int).2).bool_).1)), (Value.slice none 0 0), (Value.slice none 0 0)])) (ys := [(i64 0), (i64 0), (i64 0), (i64 0), (i64 (((((((((((⟨bs, 0, 0⟩ : Rdr).int).2).int).2).int).2).int).2).int).1)), (i64 (((((((((((((⟨bs, 0, 0⟩ : Rdr).int).2).int).2).int).2).int).2).int).2).int).1)), (i64 (((((((((((((((⟨bs, 0, 0⟩ : Rdr).int).2).int).2).int).2).int).2).int).2).int).2).int).1)), (i64 (((((((((((((((((⟨bs, 0, 0⟩ : Rdr).int).2).int).2).int).2).int).2).int).2).int).2).int).2).int).1)), (Value.bool (((((((((((((((((((⟨bs, 0, 0⟩ : Rdr).int).2).int).2).int).2).int).2).int).2).int).2).int).2).int).2).bool_).1)), (Value.slice none 0 0), (Value.slice none 0 0)]) (by kernel_rfl) (by kernel_rfl) (by kernel_rfl) H195 (by kernel_rfl) (d := none) (by kernel_rfl) rfl (fun w204 H205 K206 => ?_)
    clear H195
    have K207 := K199.trans K206 (U := none_) (fun i h1 h2 => h2) (fun i h1 h2 => by have h2 : i = b191 := h2; exfalso; omega)
    clear K199
    have H208 := H200.keep K206 (by intro h; change b1 = b191 at h; omega)
    clear H200
    have H209 := H194.keep K206 (by intro h; change b15 = b191 at h; omega)
    clear H194
    have H210 := H201.keep K206 (by intro h; change b29 = b191 at h; omega)
    clear H201
    have F211 := RdO.keep F203 K206 (fun i _ _ hi hs => by have hs : i = b191 := hs; have := ob198 i _ _ hi; omega)
    clear F203
    refine ⟨(K206.mono (fun i _ h => by have h : i = b191 := h; show i = b15 ∨ i = b191; omega)), ?_⟩
    refine Dr.strong (S' := (fun wz => Keeps (fun i => i = b15 ∨ i = b191) w204 wz)) ((Keeps.refl w204).mono (fun _ _ h => h.elim)) (fun wz hx => K206.trans hx (fun i _ h => by have h : i = b191 := h; show i = b15 ∨ i = b191; omega) (fun _ _ h => h)) ?_
    clear K206
    refine Dr.done (by kernel_rfl) ?_
    refine q_seq (by kernel_rfl) ?_
    refine q_seq (by kernel_rfl) ?_
    refine q_region (by kernel_rfl) ?_
    refine Ops.regs 1 [(2, (Value.pointer (some ⟨b1, 0, none⟩))), (3, (i64 0)), (4, (Value.pointer (some ⟨b15, 0, none⟩))), (5, (Value.pointer (some ⟨b29, 0, none⟩))), (7, (Value.pointer (some ⟨b191, 0, none⟩))), (36, (Value.pointer (some ⟨b15, 0, none⟩)))] (j := 1) (by kernel_rfl) (by kernel_rfl) ?_
    refine Ops.call (by kernel_rfl) (d := (some 37)) (by kernel_rfl) (Count_calls _ b15 A16 c17 (((((((((((((((((((⟨bs, 0, 0⟩ : Rdr).int).2).int).2).int).2).int).2).int).2).int).2).int).2).int).2).bool_).2) hok186 H209 F211 hne23 4096 (by omega)) ?_
    rintro _ w212 ⟨rfl, K213, H214⟩
    have hok215 : ((((((((((((((((((((⟨bs, 0, 0⟩ : Rdr).int).2).int).2).int).2).int).2).int).2).int).2).int).2).int).2).bool_).2).sized 4096).2.Ok := Rdr.Ok.sized hok186 4096
    have hu216 := Rdr.sized_le hok186 4096
    have hu217 := Rdr.sized_lt (((((((((((((((((((⟨bs, 0, 0⟩ : Rdr).int).2).int).2).int).2).int).2).int).2).int).2).int).2).int).2).bool_).2) 4096
    refine ⟨_, _, rfl, rfl, ?_⟩
    have K218 := K207.trans K213 (U := none_) (fun i h1 h2 => h2) (fun i h1 h2 => by have h2 : i = b15 := h2; exfalso; omega)
    clear K207
    have H219 := H208.keep K213 (by intro h; change b1 = b15 at h; omega)
    clear H208
    have H220 := H210.keep K213 (by intro h; change b29 = b15 at h; omega)
    clear H210
    have H221 := H205.keep K213 (by intro h; change b191 = b15 at h; omega)
    clear H205
    have F222 := RdO.keep F211 K213 (fun i _ _ hi hs => by have hs : i = b15 := hs; have := hne23 i _ _ hi; omega)
    clear F211
    clear K213
    have F223 : RdO w212 A16 c17 ((((((((((((((((((((⟨bs, 0, 0⟩ : Rdr).int).2).int).2).int).2).int).2).int).2).int).2).int).2).int).2).bool_).2).sized 4096).2.bs := by rw [Rdr.sized_bs]; exact F222
    clear F222
    refine Ops.regs 1 [(2, (Value.pointer (some ⟨b1, 0, none⟩))), (3, (i64 0)), (4, (Value.pointer (some ⟨b15, 0, none⟩))), (5, (Value.pointer (some ⟨b29, 0, none⟩))), (7, (Value.pointer (some ⟨b191, 0, none⟩))), (37, (i64 ((((((((((((((((((((((⟨bs, 0, 0⟩ : Rdr).int).2).int).2).int).2).int).2).int).2).int).2).int).2).int).2).bool_).2).sized 4096).1 : Nat) : Int))), (38, (i64 0))] (j := 3) (by kernel_rfl) (by kernel_rfl) ?_
    refine Ops.done (by kernel_rfl) ?_
    refine q_block (id := 2) (by kernel_rfl) ?_
    have hN : (⟨bs, 0, 0⟩ : Rdr).mcnt.1 = ((((((((((((((((((((⟨bs, 0, 0⟩ : Rdr).int).2).int).2).int).2).int).2).int).2).int).2).int).2).int).2).bool_).2).sized 4096).1 := rfl
    have hNle : (⟨bs, 0, 0⟩ : Rdr).mcnt.1 ≤ 4096 := by have := Rdr.sized_most (⟨bs, 0, 0⟩ : Rdr).mok.2 4096; show ((⟨bs, 0, 0⟩ : Rdr).mok.2.sized 4096).1 ≤ 4096; omega
    refine q_keep (R := [(2, (Value.pointer (some ⟨b1, 0, none⟩))), (3, (i64 0)), (4, (Value.pointer (some ⟨b15, 0, none⟩))), (5, (Value.pointer (some ⟨b29, 0, none⟩))), (7, (Value.pointer (some ⟨b191, 0, none⟩))), (37, (i64 ((((((((((((((((((((((⟨bs, 0, 0⟩ : Rdr).int).2).int).2).int).2).int).2).int).2).int).2).int).2).int).2).bool_).2).sized 4096).1 : Nat) : Int))), (38, (i64 0))]) (by kernel_rfl) ?_
    refine q_loop (fun (gs : (Option Addr) × Nat × Nat × (List EntP) × Rdr) L (wx : World) => match gs with | (VA, vc, i, l, R) => L = [(2, (Value.pointer (some ⟨b1, 0, none⟩))), (3, (i64 0)), (4, (Value.pointer (some ⟨b15, 0, none⟩))), (5, (Value.pointer (some ⟨b29, 0, none⟩))), (7, (Value.pointer (some ⟨b191, 0, none⟩))), (37, (i64 ((((((((((((((((((((((⟨bs, 0, 0⟩ : Rdr).int).2).int).2).int).2).int).2).int).2).int).2).int).2).int).2).bool_).2).sized 4096).1 : Nat) : Int))), (38, (i64 ((i : Nat) : Int)))] ∧ RdO wx A16 c17 R.bs ∧ OwnE wx w.heap.size 97 (Value.slice VA l.length vc) l ∧ (∀ i, ((Value.slice VA l.length vc)).ownBlock = some i → i ≠ b1) ∧ (∀ i, ((Value.slice VA l.length vc)).ownBlock = some i → i ≠ b15) ∧ (∀ i, ((Value.slice VA l.length vc)).ownBlock = some i → i ≠ b29) ∧ (∀ i, ((Value.slice VA l.length vc)).ownBlock = some i → i ≠ b191) ∧ (∀ i o s, A16 = some ⟨i, o, s⟩ → ((Value.slice VA l.length vc)).ownBlock = some i → False) ∧ EntsMine wx w.heap.size (.slice VA l.length vc) l ∧ (∀ x ∈ l, ∀ g o s, x.A = some ⟨g, o, s⟩ → g ≠ b1) ∧ (∀ x ∈ l, ∀ g o s, x.A = some ⟨g, o, s⟩ → g ≠ b15) ∧ (∀ x ∈ l, ∀ g o s, x.A = some ⟨g, o, s⟩ → g ≠ b29) ∧ (∀ x ∈ l, ∀ g o s, x.A = some ⟨g, o, s⟩ → g ≠ b191) ∧ R.Ok ∧ l.map EntP.key ++ (Rdr.ents ((⟨bs, 0, 0⟩ : Rdr).mcnt.1 - i) R).1 = (Rdr.ents (⟨bs, 0, 0⟩ : Rdr).mcnt.1 (⟨bs, 0, 0⟩ : Rdr).mcnt.2).1 ∧ (Rdr.ents ((⟨bs, 0, 0⟩ : Rdr).mcnt.1 - i) R).2 = (Rdr.ents (⟨bs, 0, 0⟩ : Rdr).mcnt.1 (⟨bs, 0, 0⟩ : Rdr).mcnt.2).2 ∧ i ≤ (⟨bs, 0, 0⟩ : Rdr).mcnt.1 ∧ l.length ≤ i ∧ EntsOk l ∧ Keeps none_ w wx ∧ Has wx b1 (rowL [(i64 0), (i64 0), (i64 0), (i64 0), (i64 0), (i64 0), (i64 0), (i64 0), (Value.bool false), (Value.slice none 0 0), (Value.slice none 0 0)] 49) ∧ Has wx b15 (rowL (rdrL A16 c17 R) 88) ∧ Has wx b29 (rowL [(i64 (((⟨bs, 0, 0⟩ : Rdr).int).1)), (i64 (((((⟨bs, 0, 0⟩ : Rdr).int).2).int).1)), (i64 (((((((⟨bs, 0, 0⟩ : Rdr).int).2).int).2).int).1)), (i64 (((((((((⟨bs, 0, 0⟩ : Rdr).int).2).int).2).int).2).int).1)), (i64 (((((((((((⟨bs, 0, 0⟩ : Rdr).int).2).int).2).int).2).int).2).int).1)), (i64 (((((((((((((⟨bs, 0, 0⟩ : Rdr).int).2).int).2).int).2).int).2).int).2).int).1)), (i64 (((((((((((((((⟨bs, 0, 0⟩ : Rdr).int).2).int).2).int).2).int).2).int).2).int).2).int).1)), (i64 (((((((((((((((((⟨bs, 0, 0⟩ : Rdr).int).2).int).2).int).2).int).2).int).2).int).2).int).2).int).1))] 104) ∧ Has wx b191 (rowL [(i64 0), (i64 0), (i64 0), (i64 0), (i64 (((((((((((⟨bs, 0, 0⟩ : Rdr).int).2).int).2).int).2).int).2).int).1)), (i64 (((((((((((((⟨bs, 0, 0⟩ : Rdr).int).2).int).2).int).2).int).2).int).2).int).1)), (i64 (((((((((((((((⟨bs, 0, 0⟩ : Rdr).int).2).int).2).int).2).int).2).int).2).int).2).int).1)), (i64 (((((((((((((((((⟨bs, 0, 0⟩ : Rdr).int).2).int).2).int).2).int).2).int).2).int).2).int).2).int).1)), (Value.bool (((((((((((((((((((⟨bs, 0, 0⟩ : Rdr).int).2).int).2).int).2).int).2).int).2).int).2).int).2).int).2).bool_).1)), (Value.slice VA l.length vc), (Value.slice none 0 0)] 49)) (fun (gs : (Option Addr) × Nat × Nat × (List EntP) × Rdr) => match gs with | (VA, vc, i, l, R) => (⟨bs, 0, 0⟩ : Rdr).mcnt.1 - i) (none, 0, 0, [], ((((((((((((((((((((⟨bs, 0, 0⟩ : Rdr).int).2).int).2).int).2).int).2).int).2).int).2).int).2).int).2).bool_).2).sized 4096).2) (by kernel_rfl) ⟨rfl, F223, (OwnT.nil _ _ _ _ _), (fun i hi => by cases hi), (fun i hi => by cases hi), (fun i hi => by cases hi), (fun i hi => by cases hi), (fun _ _ _ _ h => by cases h), (EntsMine.nil _ _ _), (fun y hy => by cases hy), (fun y hy => by cases hy), (fun y hy => by cases hy), (fun y hy => by cases hy), hok215, rfl, rfl, Nat.zero_le _, Nat.le_refl _, (fun y hy => by cases hy), K218, H219, H214, H220, H221⟩ ?_
    clear H219 H214 H220 H221 F223 K218
    rintro ⟨VA, vc, i, l, R⟩ _ w224 ⟨rfl, hRdA16, hOV, obVb1, obVb15, obVb29, obVb191, ooVA16, hM, oeb1, oeb15, oeb29, oeb191, hokR, hE, hF, hi, hll, hlo, K225, H226, H227, H228, H229⟩
    have hMo := hM.own
    have hNle2 := hNle
    refine q_seq (by kernel_rfl) ?_
    refine q_region (by kernel_rfl) ?_
    refine Ops.regs 1 [(2, (Value.pointer (some ⟨b1, 0, none⟩))), (3, (i64 0)), (4, (Value.pointer (some ⟨b15, 0, none⟩))), (5, (Value.pointer (some ⟨b29, 0, none⟩))), (7, (Value.pointer (some ⟨b191, 0, none⟩))), (37, (i64 ((((((((((((((((((((((⟨bs, 0, 0⟩ : Rdr).int).2).int).2).int).2).int).2).int).2).int).2).int).2).int).2).bool_).2).sized 4096).1 : Nat) : Int))), (38, (i64 ((i : Nat) : Int))), (39, (Value.bool (decide (((i : Nat) : Int) < ((((((((((((((((((((((⟨bs, 0, 0⟩ : Rdr).int).2).int).2).int).2).int).2).int).2).int).2).int).2).int).2).bool_).2).sized 4096).1 : Nat) : Int)))))] (j := 1) (by kernel_rfl) (by kernel_rfl) ?_
    refine Ops.done (by kernel_rfl) ?_
    refine q_seq (by kernel_rfl) ?_
    refine q_cond (o := .tmp 39) (b := (decide (((i : Nat) : Int) < ((((((((((((((((((((((⟨bs, 0, 0⟩ : Rdr).int).2).int).2).int).2).int).2).int).2).int).2).int).2).int).2).bool_).2).sized 4096).1 : Nat) : Int)))) (by kernel_rfl) rfl (fun h230 => ?_) (fun h230 => ?_)
    · rw [h230]
      have p231 : ((i : Nat) : Int) < ((((((((((((((((((((((⟨bs, 0, 0⟩ : Rdr).int).2).int).2).int).2).int).2).int).2).int).2).int).2).int).2).bool_).2).sized 4096).1 : Nat) : Int) := of_decide_eq_true h230
      refine q_skip (by kernel_rfl) ?_
      refine q_seq (by kernel_rfl) ?_
      refine q_block (id := 3) (by kernel_rfl) ?_
      refine q_seq (by kernel_rfl) ?_
      refine q_seq (by kernel_rfl) ?_
      refine q_region (by kernel_rfl) ?_
      refine Ops.regs 1 [(2, (Value.pointer (some ⟨b1, 0, none⟩))), (3, (i64 0)), (4, (Value.pointer (some ⟨b15, 0, none⟩))), (5, (Value.pointer (some ⟨b29, 0, none⟩))), (7, (Value.pointer (some ⟨b191, 0, none⟩))), (37, (i64 ((((((((((((((((((((((⟨bs, 0, 0⟩ : Rdr).int).2).int).2).int).2).int).2).int).2).int).2).int).2).int).2).bool_).2).sized 4096).1 : Nat) : Int))), (38, (i64 ((i : Nat) : Int))), (39, (Value.bool true)), (40, (Value.pointer (some ⟨b15, 0, none⟩)))] (j := 1) (by kernel_rfl) (by kernel_rfl) ?_
      refine Ops.call (by kernel_rfl) (d := (some 41)) (by kernel_rfl) (ok_calls _ b15 A16 c17 R hokR H227 hRdA16 hne23) ?_
      rintro _ w232 ⟨rfl, K233⟩
      refine ⟨_, _, rfl, rfl, ?_⟩
      have K234 := K225.trans K233 (U := none_) (fun i h1 h2 => h2) (fun i h1 h2 => by exact h2)
      clear K225
      have H235 := H226.keep K233 (fun h => h)
      clear H226
      have H236 := H227.keep K233 (fun h => h)
      clear H227
      have H237 := H228.keep K233 (fun h => h)
      clear H228
      have H238 := H229.keep K233 (fun h => h)
      clear H229
      have F239 := RdO.keep0 hRdA16 K233
      clear hRdA16
      have F240 := own_keep0 hOV K233
      clear hOV
      have F241 := hM.keep2 K233 (fun _ _ _ _ _ _ h => h)
      clear hM
      clear K233
      refine Ops.regs 1 [(2, (Value.pointer (some ⟨b1, 0, none⟩))), (3, (i64 0)), (4, (Value.pointer (some ⟨b15, 0, none⟩))), (5, (Value.pointer (some ⟨b29, 0, none⟩))), (7, (Value.pointer (some ⟨b191, 0, none⟩))), (37, (i64 ((((((((((((((((((((((⟨bs, 0, 0⟩ : Rdr).int).2).int).2).int).2).int).2).int).2).int).2).int).2).int).2).bool_).2).sized 4096).1 : Nat) : Int))), (38, (i64 ((i : Nat) : Int))), (39, (Value.bool true)), (42, (Value.bool (!(R.why == 0))))] (j := 3) (by kernel_rfl) (by kernel_rfl) ?_
      refine Ops.done (by kernel_rfl) ?_
      refine q_cond (o := .tmp 42) (b := (!(R.why == 0))) (by kernel_rfl) rfl (fun h242 => ?_) (fun h242 => ?_)
      · rw [h242]
        have p243 : ¬ (R.why = 0) := of_beq_f (bnot_true h242)
        have hd := Rdr.ents_done hE hF (by omega)
        have hme : (⟨bs, 0, 0⟩ : Rdr).ments = (l.map EntP.key, R) := Prod.ext hd.1 hd.2
        have hmd : (⟨bs, 0, 0⟩ : Rdr).mdata = R.bytes := by unfold Rdr.mdata; rw [hme]
        refine q_exit (id := 2) (by kernel_rfl) ?_
        refine q_seq (by kernel_rfl) ?_
        refine q_region (by kernel_rfl) ?_
        refine Ops.regs 1 [(2, (Value.pointer (some ⟨b1, 0, none⟩))), (3, (i64 0)), (4, (Value.pointer (some ⟨b15, 0, none⟩))), (5, (Value.pointer (some ⟨b29, 0, none⟩))), (7, (Value.pointer (some ⟨b191, 0, none⟩))), (56, (Value.pointer (some ⟨b15, 0, none⟩)))] (j := 1) (by kernel_rfl) (by kernel_rfl) ?_
        refine Ops.call (by kernel_rfl) (d := (some 57)) (by kernel_rfl) (RdBytes_calls _ b15 A16 c17 R hokR H236 F239 hne23 ) ?_
        rintro _ w244 ⟨v249, rfl, K245, hO250, H246⟩
        obtain ⟨A260, c261, hf262⟩ := RdB.form (OwnB.rd hO250)
        subst hf262
        have hok247 : (R.bytes).2.Ok := Rdr.Ok.bytes hokR
        have hu248 := Rdr.bytes_le hokR
        have ob252 : ∀ i, ((Value.slice A260 (((R.bytes).1).length) c261)).ownBlock = some i → i ≠ b1 := fun i hi => by have := (World.ownsRow.lt hO250 i hi).1; have := H235.lt; omega
        have ob253 : ∀ i, ((Value.slice A260 (((R.bytes).1).length) c261)).ownBlock = some i → i ≠ b15 := fun i hi => by have := (World.ownsRow.lt hO250 i hi).1; have := H236.lt; omega
        have ob254 : ∀ i, ((Value.slice A260 (((R.bytes).1).length) c261)).ownBlock = some i → i ≠ b29 := fun i hi => by have := (World.ownsRow.lt hO250 i hi).1; have := H237.lt; omega
        have ob255 : ∀ i, ((Value.slice A260 (((R.bytes).1).length) c261)).ownBlock = some i → i ≠ b191 := fun i hi => by have := (World.ownsRow.lt hO250 i hi).1; have := H238.lt; omega
        have oo256 : ∀ i o s, A16 = some ⟨i, o, s⟩ → ((Value.slice A260 (((R.bytes).1).length) c261)).ownBlock = some i → False := fun i o s hi hs => by have := (World.ownsRow.lt hO250 i hs).1; have := F239.2 i o s hi; omega
        have oo258 : ∀ i, ((Value.slice VA l.length vc)).ownBlock = some i → ((Value.slice A260 (((R.bytes).1).length) c261)).ownBlock = some i → False := fun i hi hs => by have := (World.ownsRow.lt hO250 i hs).1; have := (World.ownsRow.lt F240 i hi).2; omega
        have oo259 : ∀ i, ((Value.slice A260 (((R.bytes).1).length) c261)).ownBlock = some i → ((Value.slice VA l.length vc)).ownBlock = some i → False := fun i hi hs => oo258 i hs hi
        have O251 := own_base hO250 K234.size
        clear hO250
        refine ⟨_, _, rfl, rfl, ?_⟩
        have K263 := K234.trans K245 (U := none_) (fun i h1 h2 => h2) (fun i h1 h2 => by have h2 : i = b15 := h2; exfalso; omega)
        clear K234
        have H264 := H235.keep K245 (by intro h; change b1 = b15 at h; omega)
        clear H235
        have H265 := H237.keep K245 (by intro h; change b29 = b15 at h; omega)
        clear H237
        have H266 := H238.keep K245 (by intro h; change b191 = b15 at h; omega)
        clear H238
        have F267 := RdO.keep F239 K245 (fun i _ _ hi hs => by have hs : i = b15 := hs; have := hne23 i _ _ hi; omega)
        clear F239
        have F268 := own_keep F240 K245 (fun i hi hs => by have hs : i = b15 := hs; have := obVb15 i hi; omega)
        clear F240
        have F269 := EntsMine.keep2 F241 K245 (fun x hx i o s hA hs => by have hs : i = b15 := hs; exact oeb15 x hx i o s hA hs)
        clear F241
        clear K245
        have F270 : RdO w244 A16 c17 (R.bytes).2.bs := by rw [Rdr.bytes_bs]; exact F267
        clear F267
        refine Ops.regs 1 [(2, (Value.pointer (some ⟨b1, 0, none⟩))), (3, (i64 0)), (4, (Value.pointer (some ⟨b15, 0, none⟩))), (5, (Value.pointer (some ⟨b29, 0, none⟩))), (7, (Value.pointer (some ⟨b191, 0, none⟩))), (57, (Value.slice A260 (((R.bytes).1).length) c261)), (58, (Value.pointer (some ⟨b191, 10, none⟩)))] (j := 3) (by kernel_rfl) (by kernel_rfl) ?_
        refine Ops.put (t := 23) (b := b191) (off := 10) (v := (Value.slice A260 (((R.bytes).1).length) c261)) (ys := [(i64 0), (i64 0), (i64 0), (i64 0), (i64 (((((((((((⟨bs, 0, 0⟩ : Rdr).int).2).int).2).int).2).int).2).int).1)), (i64 (((((((((((((⟨bs, 0, 0⟩ : Rdr).int).2).int).2).int).2).int).2).int).2).int).1)), (i64 (((((((((((((((⟨bs, 0, 0⟩ : Rdr).int).2).int).2).int).2).int).2).int).2).int).2).int).1)), (i64 (((((((((((((((((⟨bs, 0, 0⟩ : Rdr).int).2).int).2).int).2).int).2).int).2).int).2).int).2).int).1)), (Value.bool (((((((((((((((((((⟨bs, 0, 0⟩ : Rdr).int).2).int).2).int).2).int).2).int).2).int).2).int).2).int).2).bool_).1)), (Value.slice VA l.length vc), (Value.slice A260 (((R.bytes).1).length) c261)]) (by kernel_rfl) (by kernel_rfl) H266 (by kernel_rfl) (d := none) (by kernel_rfl) rfl (fun w271 H272 K273 => ?_)
        clear H266
        have K274 := K263.trans K273 (U := none_) (fun i h1 h2 => h2) (fun i h1 h2 => by have h2 : i = b191 := h2; exfalso; omega)
        clear K263
        have H275 := H264.keep K273 (by intro h; change b1 = b191 at h; omega)
        clear H264
        have H276 := H246.keep K273 (by intro h; change b15 = b191 at h; omega)
        clear H246
        have H277 := H265.keep K273 (by intro h; change b29 = b191 at h; omega)
        clear H265
        have F278 := RdO.keep F270 K273 (fun i _ _ hi hs => by have hs : i = b191 := hs; have := ob198 i _ _ hi; omega)
        clear F270
        have F279 := own_keep F268 K273 (fun i hi hs => by have hs : i = b191 := hs; have := obVb191 i hi; omega)
        clear F268
        have F280 := EntsMine.keep2 F269 K273 (fun x hx i o s hA hs => by have hs : i = b191 := hs; exact oeb191 x hx i o s hA hs)
        clear F269
        have F281 := own_keep O251 K273 (fun i hi hs => by have hs : i = b191 := hs; have := ob255 i hi; omega)
        clear O251
        clear K273
        refine Ops.done (by kernel_rfl) ?_
        refine q_seq (by kernel_rfl) ?_
        refine q_seq (by kernel_rfl) ?_
        refine q_region (by kernel_rfl) ?_
        refine Ops.regs 1 [(2, (Value.pointer (some ⟨b1, 0, none⟩))), (3, (i64 0)), (5, (Value.pointer (some ⟨b29, 0, none⟩))), (7, (Value.pointer (some ⟨b191, 0, none⟩))), (59, (Value.pointer (some ⟨b15, 0, none⟩)))] (j := 1) (by kernel_rfl) (by kernel_rfl) ?_
        refine Ops.call (by kernel_rfl) (d := (some 60)) (by kernel_rfl) (RdEnd_calls _ b15 A16 c17 ((R.bytes).2) hok247 H276 F278 hne23) ?_
        rintro _ w282 ⟨rfl, K283⟩
        refine ⟨_, _, rfl, rfl, ?_⟩
        have K284 := K274.trans K283 (U := none_) (fun i h1 h2 => h2) (fun i h1 h2 => by exact h2)
        clear K274
        have H285 := H275.keep K283 (fun h => h)
        clear H275
        have H286 := H276.keep K283 (fun h => h)
        clear H276
        have H287 := H277.keep K283 (fun h => h)
        clear H277
        have H288 := H272.keep K283 (fun h => h)
        clear H272
        have F289 := RdO.keep0 F278 K283
        clear F278
        have F290 := own_keep0 F279 K283
        clear F279
        have F291 := F280.keep2 K283 (fun _ _ _ _ _ _ h => h)
        clear F280
        have F292 := own_keep0 F281 K283
        clear F281
        clear K283
        refine Ops.regs 1 [(2, (Value.pointer (some ⟨b1, 0, none⟩))), (3, (i64 0)), (5, (Value.pointer (some ⟨b29, 0, none⟩))), (7, (Value.pointer (some ⟨b191, 0, none⟩))), (9, (i64 (((R.bytes).2).end_)))] (j := 3) (by kernel_rfl) (by kernel_rfl) ?_
        refine Ops.done (by kernel_rfl) ?_
        refine q_seq (by kernel_rfl) ?_
        refine q_region (by kernel_rfl) ?_
        refine Ops.regs 2 [(2, (Value.pointer (some ⟨b1, 0, none⟩))), (3, (i64 0)), (5, (Value.pointer (some ⟨b29, 0, none⟩))), (7, (Value.pointer (some ⟨b191, 0, none⟩))), (9, (i64 (((R.bytes).2).end_))), (62, (Value.bool ((((R.bytes).2).end_) != 0)))] (j := 2) (by kernel_rfl) (by kernel_rfl) ?_
        refine Ops.done (by kernel_rfl) ?_
        refine q_cond (o := .tmp 62) (b := ((((R.bytes).2).end_) != 0)) (by kernel_rfl) rfl (fun h293 => ?_) (fun h293 => ?_)
        · rw [h293]
          have p294 : ¬ (((R.bytes).2).end_ = 0) := of_bne_t h293
          refine q_seq (by kernel_rfl) ?_
          refine q_region (by kernel_rfl) ?_
          refine Ops.regs 2 [(2, (Value.pointer (some ⟨b1, 0, none⟩))), (3, (i64 0)), (5, (Value.pointer (some ⟨b29, 0, none⟩))), (7, (Value.pointer (some ⟨b191, 0, none⟩))), (63, (agg [(i64 0), (i64 0), (i64 0), (i64 0), (i64 0), (i64 0), (i64 0), (i64 0), (Value.bool false), (Value.slice none 0 0), (Value.slice none 0 0)])), (64, (i64 (((R.bytes).2).end_)))] (j := 2) (by kernel_rfl) (by kernel_rfl) ?_
          refine Ops.put (t := 49) (b := b1) (off := 0) (v := (agg [(i64 0), (i64 0), (i64 0), (i64 0), (i64 0), (i64 0), (i64 0), (i64 0), (Value.bool false), (Value.slice none 0 0), (Value.slice none 0 0)])) (ys := [(i64 0), (i64 0), (i64 0), (i64 0), (i64 0), (i64 0), (i64 0), (i64 0), (Value.bool false), (Value.slice none 0 0), (Value.slice none 0 0)]) (by kernel_rfl) (by kernel_rfl) H285 (by kernel_rfl) (d := none) (by kernel_rfl) rfl (fun w295 H296 K297 => ?_)
          clear H285
          have K298 := K284.trans K297 (U := none_) (fun i h1 h2 => h2) (fun i h1 h2 => by have h2 : i = b1 := h2; exfalso; omega)
          clear K284
          have H299 := H286.keep K297 (by intro h; change b15 = b1 at h; omega)
          clear H286
          have H300 := H287.keep K297 (by intro h; change b29 = b1 at h; omega)
          clear H287
          have H301 := H288.keep K297 (by intro h; change b191 = b1 at h; omega)
          clear H288
          have F302 := RdO.keep F289 K297 (fun i _ _ hi hs => by have hs : i = b1 := hs; have := ob26 i _ _ hi; omega)
          clear F289
          have F303 := own_keep F290 K297 (fun i hi hs => by have hs : i = b1 := hs; have := obVb1 i hi; omega)
          clear F290
          have F304 := EntsMine.keep2 F291 K297 (fun x hx i o s hA hs => by have hs : i = b1 := hs; exact oeb1 x hx i o s hA hs)
          clear F291
          have F305 := own_keep F292 K297 (fun i hi hs => by have hs : i = b1 := hs; have := ob252 i hi; omega)
          clear F292
          clear K297
          refine Ops.regs 1 [(2, (Value.pointer (some ⟨b1, 0, none⟩))), (3, (i64 (((R.bytes).2).end_))), (5, (Value.pointer (some ⟨b29, 0, none⟩))), (7, (Value.pointer (some ⟨b191, 0, none⟩)))] (j := 4) (by kernel_rfl) (by kernel_rfl) ?_
          refine Ops.done (by kernel_rfl) ?_
          refine q_ret (by kernel_rfl) ?_
          refine ⟨(Value.tuple #[(agg [(i64 0), (i64 0), (i64 0), (i64 0), (i64 0), (i64 0), (i64 0), (i64 0), (Value.bool false), (Value.slice none 0 0), (Value.slice none 0 0)]), (i64 (((R.bytes).2).end_))]), retv_cell_tmp rfl rfl (H296.loads (by kernel_rfl)) rfl, ?_⟩
          exact ⟨(⟨0, 0, 0, 0, 0, 0, 0, 0, false, [], []⟩ : MsgP), none, none, 0, 0, ((R.bytes).2).end_, rfl, K298, ⟨by (try simp only); omega, by (try simp only); omega, by (try simp only); omega, by (try simp only); omega, by (try simp only); omega, by (try simp only); omega, by (try simp only); omega, by (try simp only); omega, fun x hx => by cases hx⟩, by unfold unmsgB; rw [if_neg (by omega), if_pos (by rw [hmd]; omega), hmd]; rfl, (Rd.nil _ _), (fun x hx => by cases hx), (Rd.nil _ _)⟩
        · rw [h293]
          have p306 : ((R.bytes).2).end_ = 0 := of_bne_f h293
          refine q_skip (by kernel_rfl) ?_
          refine q_seq (by kernel_rfl) ?_
          refine q_region (by kernel_rfl) ?_
          refine Ops.regs 1 [(2, (Value.pointer (some ⟨b1, 0, none⟩))), (3, (i64 0)), (5, (Value.pointer (some ⟨b29, 0, none⟩))), (7, (Value.pointer (some ⟨b191, 0, none⟩))), (10, (Value.func (Fn.func 77) ⟨[]⟩ ⟨[]⟩))] (j := 1) (by kernel_rfl) (by kernel_rfl) ?_
          refine Ops.done (by kernel_rfl) ?_
          refine q_seq (by kernel_rfl) ?_
          refine q_seq (by kernel_rfl) ?_
          refine q_region (by kernel_rfl) ?_
          refine Ops.regs 2 [(2, (Value.pointer (some ⟨b1, 0, none⟩))), (3, (i64 0)), (5, (Value.pointer (some ⟨b29, 0, none⟩))), (7, (Value.pointer (some ⟨b191, 0, none⟩))), (10, (Value.func (Fn.func 77) ⟨[]⟩ ⟨[]⟩)), (65, (Value.func (Fn.func 77) ⟨[]⟩ ⟨[]⟩)), (66, (Value.pointer (some ⟨b29, 0, none⟩)))] (j := 2) (by kernel_rfl) (by kernel_rfl) ?_
          refine Ops.go (v := (i64 (((⟨bs, 0, 0⟩ : Rdr).int).1))) (by kernel_rfl) (Runs.load (t := 2) (a := ⟨b29, 0, none⟩) (by kernel_rfl) (H287.loads (by kernel_rfl))) (d := (some 67)) (by kernel_rfl) rfl ?_
          refine Ops.call (by kernel_rfl) (d := (some 68)) (by kernel_rfl) (in_calls _ (((⟨bs, 0, 0⟩ : Rdr).int).1) 1 6) ?_
          rintro _ _ ⟨t307, rfl, ht308, rfl⟩
          refine ⟨_, _, rfl, rfl, ?_⟩
          refine Ops.regs 2 [(2, (Value.pointer (some ⟨b1, 0, none⟩))), (3, (i64 0)), (5, (Value.pointer (some ⟨b29, 0, none⟩))), (7, (Value.pointer (some ⟨b191, 0, none⟩))), (10, (Value.func (Fn.func 77) ⟨[]⟩ ⟨[]⟩)), (70, (Value.bool (!t307)))] (j := 6) (by kernel_rfl) (by kernel_rfl) ?_
          refine Ops.split (!t307) (fun h309 => ?_) (fun h309 => ?_)
          · rw [h309]
            have p310 : t307 = false := (bnot_true h309)
            try rw [p310]
            have hin311 : ¬ (1 ≤ ((⟨bs, 0, 0⟩ : Rdr).int).1 ∧ ((⟨bs, 0, 0⟩ : Rdr).int).1 ≤ 6) := fun q => by have q := ht308.2 q; rw [(bnot_true h309)] at q; cases q
            refine Ops.regs 20 [(2, (Value.pointer (some ⟨b1, 0, none⟩))), (3, (i64 0)), (5, (Value.pointer (some ⟨b29, 0, none⟩))), (7, (Value.pointer (some ⟨b191, 0, none⟩))), (90, (Value.bool true))] (j := 26) (by kernel_rfl) (by kernel_rfl) ?_
            refine Ops.done (by kernel_rfl) ?_
            refine q_then (o := .tmp 90) (by kernel_rfl) rfl ?_
            refine q_seq (by kernel_rfl) ?_
            refine q_region (by kernel_rfl) ?_
            refine Ops.regs 1 [(2, (Value.pointer (some ⟨b1, 0, none⟩))), (3, (i64 0)), (5, (Value.pointer (some ⟨b29, 0, none⟩))), (7, (Value.pointer (some ⟨b191, 0, none⟩))), (91, (agg [(i64 0), (i64 0), (i64 0), (i64 0), (i64 0), (i64 0), (i64 0), (i64 0), (Value.bool false), (Value.slice none 0 0), (Value.slice none 0 0)]))] (j := 1) (by kernel_rfl) (by kernel_rfl) ?_
            refine Ops.put (t := 49) (b := b1) (off := 0) (v := (agg [(i64 0), (i64 0), (i64 0), (i64 0), (i64 0), (i64 0), (i64 0), (i64 0), (Value.bool false), (Value.slice none 0 0), (Value.slice none 0 0)])) (ys := [(i64 0), (i64 0), (i64 0), (i64 0), (i64 0), (i64 0), (i64 0), (i64 0), (Value.bool false), (Value.slice none 0 0), (Value.slice none 0 0)]) (by kernel_rfl) (by kernel_rfl) H285 (by kernel_rfl) (d := none) (by kernel_rfl) rfl (fun w312 H313 K314 => ?_)
            clear H285
            have K315 := K284.trans K314 (U := none_) (fun i h1 h2 => h2) (fun i h1 h2 => by have h2 : i = b1 := h2; exfalso; omega)
            clear K284
            have H316 := H286.keep K314 (by intro h; change b15 = b1 at h; omega)
            clear H286
            have H317 := H287.keep K314 (by intro h; change b29 = b1 at h; omega)
            clear H287
            have H318 := H288.keep K314 (by intro h; change b191 = b1 at h; omega)
            clear H288
            have F319 := RdO.keep F289 K314 (fun i _ _ hi hs => by have hs : i = b1 := hs; have := ob26 i _ _ hi; omega)
            clear F289
            have F320 := own_keep F290 K314 (fun i hi hs => by have hs : i = b1 := hs; have := obVb1 i hi; omega)
            clear F290
            have F321 := EntsMine.keep2 F291 K314 (fun x hx i o s hA hs => by have hs : i = b1 := hs; exact oeb1 x hx i o s hA hs)
            clear F291
            have F322 := own_keep F292 K314 (fun i hi hs => by have hs : i = b1 := hs; have := ob252 i hi; omega)
            clear F292
            clear K314
            refine Ops.regs 1 [(2, (Value.pointer (some ⟨b1, 0, none⟩))), (3, (i64 1)), (5, (Value.pointer (some ⟨b29, 0, none⟩))), (7, (Value.pointer (some ⟨b191, 0, none⟩)))] (j := 3) (by kernel_rfl) (by kernel_rfl) ?_
            refine Ops.done (by kernel_rfl) ?_
            refine q_ret (by kernel_rfl) ?_
            refine ⟨(Value.tuple #[(agg [(i64 0), (i64 0), (i64 0), (i64 0), (i64 0), (i64 0), (i64 0), (i64 0), (Value.bool false), (Value.slice none 0 0), (Value.slice none 0 0)]), (i64 1)]), retv_cell_tmp rfl rfl (H313.loads (by kernel_rfl)) rfl, ?_⟩
            exact ⟨(⟨0, 0, 0, 0, 0, 0, 0, 0, false, [], []⟩ : MsgP), none, none, 0, 0, 1, rfl, K315, ⟨by (try simp only); omega, by (try simp only); omega, by (try simp only); omega, by (try simp only); omega, by (try simp only); omega, by (try simp only); omega, by (try simp only); omega, by (try simp only); omega, fun x hx => by cases hx⟩, by unfold unmsgB; rw [if_neg (by omega), if_neg (by rw [hmd]; omega), if_neg (fun q => by unfold Rdr.mfit at q; simp only [Rdr.mint, Rdr.nth] at q; omega)]; rfl, (Rd.nil _ _), (fun x hx => by cases hx), (Rd.nil _ _)⟩
          · rw [h309]
            have p323 : t307 = true := (bnot_false h309)
            try rw [p323]
            have hin324 := ht308.1 (bnot_false h309)
            refine Ops.regs 2 [(2, (Value.pointer (some ⟨b1, 0, none⟩))), (3, (i64 0)), (5, (Value.pointer (some ⟨b29, 0, none⟩))), (7, (Value.pointer (some ⟨b191, 0, none⟩))), (10, (Value.func (Fn.func 77) ⟨[]⟩ ⟨[]⟩)), (70, (Value.bool false)), (71, (Value.func (Fn.func 77) ⟨[]⟩ ⟨[]⟩)), (72, (Value.pointer (some ⟨b29, 1, none⟩)))] (j := 8) (by kernel_rfl) (by kernel_rfl) ?_
            refine Ops.go (v := (i64 (((((⟨bs, 0, 0⟩ : Rdr).int).2).int).1))) (by kernel_rfl) (Runs.load (t := 2) (a := ⟨b29, 1, none⟩) (by kernel_rfl) (H287.loads (by kernel_rfl))) (d := (some 73)) (by kernel_rfl) rfl ?_
            refine Ops.call (by kernel_rfl) (d := (some 74)) (by kernel_rfl) (in_calls _ (((((⟨bs, 0, 0⟩ : Rdr).int).2).int).1) 0 3) ?_
            rintro _ _ ⟨t325, rfl, ht326, rfl⟩
            refine ⟨_, _, rfl, rfl, ?_⟩
            refine Ops.regs 3 [(2, (Value.pointer (some ⟨b1, 0, none⟩))), (3, (i64 0)), (5, (Value.pointer (some ⟨b29, 0, none⟩))), (7, (Value.pointer (some ⟨b191, 0, none⟩))), (10, (Value.func (Fn.func 77) ⟨[]⟩ ⟨[]⟩)), (77, (Value.bool (!t325)))] (j := 13) (by kernel_rfl) (by kernel_rfl) ?_
            refine Ops.split (!t325) (fun h327 => ?_) (fun h327 => ?_)
            · rw [h327]
              have p328 : t325 = false := (bnot_true h327)
              try rw [p328]
              have hin329 : ¬ (0 ≤ ((((⟨bs, 0, 0⟩ : Rdr).int).2).int).1 ∧ ((((⟨bs, 0, 0⟩ : Rdr).int).2).int).1 ≤ 3) := fun q => by have q := ht326.2 q; rw [(bnot_true h327)] at q; cases q
              refine Ops.regs 13 [(2, (Value.pointer (some ⟨b1, 0, none⟩))), (3, (i64 0)), (5, (Value.pointer (some ⟨b29, 0, none⟩))), (7, (Value.pointer (some ⟨b191, 0, none⟩))), (90, (Value.bool true))] (j := 26) (by kernel_rfl) (by kernel_rfl) ?_
              refine Ops.done (by kernel_rfl) ?_
              refine q_then (o := .tmp 90) (by kernel_rfl) rfl ?_
              refine q_seq (by kernel_rfl) ?_
              refine q_region (by kernel_rfl) ?_
              refine Ops.regs 1 [(2, (Value.pointer (some ⟨b1, 0, none⟩))), (3, (i64 0)), (5, (Value.pointer (some ⟨b29, 0, none⟩))), (7, (Value.pointer (some ⟨b191, 0, none⟩))), (91, (agg [(i64 0), (i64 0), (i64 0), (i64 0), (i64 0), (i64 0), (i64 0), (i64 0), (Value.bool false), (Value.slice none 0 0), (Value.slice none 0 0)]))] (j := 1) (by kernel_rfl) (by kernel_rfl) ?_
              refine Ops.put (t := 49) (b := b1) (off := 0) (v := (agg [(i64 0), (i64 0), (i64 0), (i64 0), (i64 0), (i64 0), (i64 0), (i64 0), (Value.bool false), (Value.slice none 0 0), (Value.slice none 0 0)])) (ys := [(i64 0), (i64 0), (i64 0), (i64 0), (i64 0), (i64 0), (i64 0), (i64 0), (Value.bool false), (Value.slice none 0 0), (Value.slice none 0 0)]) (by kernel_rfl) (by kernel_rfl) H285 (by kernel_rfl) (d := none) (by kernel_rfl) rfl (fun w330 H331 K332 => ?_)
              clear H285
              have K333 := K284.trans K332 (U := none_) (fun i h1 h2 => h2) (fun i h1 h2 => by have h2 : i = b1 := h2; exfalso; omega)
              clear K284
              have H334 := H286.keep K332 (by intro h; change b15 = b1 at h; omega)
              clear H286
              have H335 := H287.keep K332 (by intro h; change b29 = b1 at h; omega)
              clear H287
              have H336 := H288.keep K332 (by intro h; change b191 = b1 at h; omega)
              clear H288
              have F337 := RdO.keep F289 K332 (fun i _ _ hi hs => by have hs : i = b1 := hs; have := ob26 i _ _ hi; omega)
              clear F289
              have F338 := own_keep F290 K332 (fun i hi hs => by have hs : i = b1 := hs; have := obVb1 i hi; omega)
              clear F290
              have F339 := EntsMine.keep2 F291 K332 (fun x hx i o s hA hs => by have hs : i = b1 := hs; exact oeb1 x hx i o s hA hs)
              clear F291
              have F340 := own_keep F292 K332 (fun i hi hs => by have hs : i = b1 := hs; have := ob252 i hi; omega)
              clear F292
              clear K332
              refine Ops.regs 1 [(2, (Value.pointer (some ⟨b1, 0, none⟩))), (3, (i64 1)), (5, (Value.pointer (some ⟨b29, 0, none⟩))), (7, (Value.pointer (some ⟨b191, 0, none⟩)))] (j := 3) (by kernel_rfl) (by kernel_rfl) ?_
              refine Ops.done (by kernel_rfl) ?_
              refine q_ret (by kernel_rfl) ?_
              refine ⟨(Value.tuple #[(agg [(i64 0), (i64 0), (i64 0), (i64 0), (i64 0), (i64 0), (i64 0), (i64 0), (Value.bool false), (Value.slice none 0 0), (Value.slice none 0 0)]), (i64 1)]), retv_cell_tmp rfl rfl (H331.loads (by kernel_rfl)) rfl, ?_⟩
              exact ⟨(⟨0, 0, 0, 0, 0, 0, 0, 0, false, [], []⟩ : MsgP), none, none, 0, 0, 1, rfl, K333, ⟨by (try simp only); omega, by (try simp only); omega, by (try simp only); omega, by (try simp only); omega, by (try simp only); omega, by (try simp only); omega, by (try simp only); omega, by (try simp only); omega, fun x hx => by cases hx⟩, by unfold unmsgB; rw [if_neg (by omega), if_neg (by rw [hmd]; omega), if_neg (fun q => by unfold Rdr.mfit at q; simp only [Rdr.mint, Rdr.nth] at q; omega)]; rfl, (Rd.nil _ _), (fun x hx => by cases hx), (Rd.nil _ _)⟩
            · rw [h327]
              have p341 : t325 = true := (bnot_false h327)
              try rw [p341]
              have hin342 := ht326.1 (bnot_false h327)
              refine Ops.regs 2 [(2, (Value.pointer (some ⟨b1, 0, none⟩))), (3, (i64 0)), (5, (Value.pointer (some ⟨b29, 0, none⟩))), (7, (Value.pointer (some ⟨b191, 0, none⟩))), (10, (Value.func (Fn.func 77) ⟨[]⟩ ⟨[]⟩)), (77, (Value.bool false)), (78, (Value.func (Fn.func 77) ⟨[]⟩ ⟨[]⟩)), (79, (Value.pointer (some ⟨b29, 2, none⟩)))] (j := 15) (by kernel_rfl) (by kernel_rfl) ?_
              refine Ops.go (v := (i64 (((((((⟨bs, 0, 0⟩ : Rdr).int).2).int).2).int).1))) (by kernel_rfl) (Runs.load (t := 2) (a := ⟨b29, 2, none⟩) (by kernel_rfl) (H287.loads (by kernel_rfl))) (d := (some 80)) (by kernel_rfl) rfl ?_
              refine Ops.call (by kernel_rfl) (d := (some 81)) (by kernel_rfl) (in_calls _ (((((((⟨bs, 0, 0⟩ : Rdr).int).2).int).2).int).1) 0 4) ?_
              rintro _ _ ⟨t343, rfl, ht344, rfl⟩
              refine ⟨_, _, rfl, rfl, ?_⟩
              refine Ops.regs 3 [(2, (Value.pointer (some ⟨b1, 0, none⟩))), (3, (i64 0)), (5, (Value.pointer (some ⟨b29, 0, none⟩))), (7, (Value.pointer (some ⟨b191, 0, none⟩))), (10, (Value.func (Fn.func 77) ⟨[]⟩ ⟨[]⟩)), (84, (Value.bool (!t343)))] (j := 20) (by kernel_rfl) (by kernel_rfl) ?_
              refine Ops.split (!t343) (fun h345 => ?_) (fun h345 => ?_)
              · rw [h345]
                have p346 : t343 = false := (bnot_true h345)
                try rw [p346]
                have hin347 : ¬ (0 ≤ ((((((⟨bs, 0, 0⟩ : Rdr).int).2).int).2).int).1 ∧ ((((((⟨bs, 0, 0⟩ : Rdr).int).2).int).2).int).1 ≤ 4) := fun q => by have q := ht344.2 q; rw [(bnot_true h345)] at q; cases q
                refine Ops.regs 6 [(2, (Value.pointer (some ⟨b1, 0, none⟩))), (3, (i64 0)), (5, (Value.pointer (some ⟨b29, 0, none⟩))), (7, (Value.pointer (some ⟨b191, 0, none⟩))), (90, (Value.bool true))] (j := 26) (by kernel_rfl) (by kernel_rfl) ?_
                refine Ops.done (by kernel_rfl) ?_
                refine q_then (o := .tmp 90) (by kernel_rfl) rfl ?_
                refine q_seq (by kernel_rfl) ?_
                refine q_region (by kernel_rfl) ?_
                refine Ops.regs 1 [(2, (Value.pointer (some ⟨b1, 0, none⟩))), (3, (i64 0)), (5, (Value.pointer (some ⟨b29, 0, none⟩))), (7, (Value.pointer (some ⟨b191, 0, none⟩))), (91, (agg [(i64 0), (i64 0), (i64 0), (i64 0), (i64 0), (i64 0), (i64 0), (i64 0), (Value.bool false), (Value.slice none 0 0), (Value.slice none 0 0)]))] (j := 1) (by kernel_rfl) (by kernel_rfl) ?_
                refine Ops.put (t := 49) (b := b1) (off := 0) (v := (agg [(i64 0), (i64 0), (i64 0), (i64 0), (i64 0), (i64 0), (i64 0), (i64 0), (Value.bool false), (Value.slice none 0 0), (Value.slice none 0 0)])) (ys := [(i64 0), (i64 0), (i64 0), (i64 0), (i64 0), (i64 0), (i64 0), (i64 0), (Value.bool false), (Value.slice none 0 0), (Value.slice none 0 0)]) (by kernel_rfl) (by kernel_rfl) H285 (by kernel_rfl) (d := none) (by kernel_rfl) rfl (fun w348 H349 K350 => ?_)
                clear H285
                have K351 := K284.trans K350 (U := none_) (fun i h1 h2 => h2) (fun i h1 h2 => by have h2 : i = b1 := h2; exfalso; omega)
                clear K284
                have H352 := H286.keep K350 (by intro h; change b15 = b1 at h; omega)
                clear H286
                have H353 := H287.keep K350 (by intro h; change b29 = b1 at h; omega)
                clear H287
                have H354 := H288.keep K350 (by intro h; change b191 = b1 at h; omega)
                clear H288
                have F355 := RdO.keep F289 K350 (fun i _ _ hi hs => by have hs : i = b1 := hs; have := ob26 i _ _ hi; omega)
                clear F289
                have F356 := own_keep F290 K350 (fun i hi hs => by have hs : i = b1 := hs; have := obVb1 i hi; omega)
                clear F290
                have F357 := EntsMine.keep2 F291 K350 (fun x hx i o s hA hs => by have hs : i = b1 := hs; exact oeb1 x hx i o s hA hs)
                clear F291
                have F358 := own_keep F292 K350 (fun i hi hs => by have hs : i = b1 := hs; have := ob252 i hi; omega)
                clear F292
                clear K350
                refine Ops.regs 1 [(2, (Value.pointer (some ⟨b1, 0, none⟩))), (3, (i64 1)), (5, (Value.pointer (some ⟨b29, 0, none⟩))), (7, (Value.pointer (some ⟨b191, 0, none⟩)))] (j := 3) (by kernel_rfl) (by kernel_rfl) ?_
                refine Ops.done (by kernel_rfl) ?_
                refine q_ret (by kernel_rfl) ?_
                refine ⟨(Value.tuple #[(agg [(i64 0), (i64 0), (i64 0), (i64 0), (i64 0), (i64 0), (i64 0), (i64 0), (Value.bool false), (Value.slice none 0 0), (Value.slice none 0 0)]), (i64 1)]), retv_cell_tmp rfl rfl (H349.loads (by kernel_rfl)) rfl, ?_⟩
                exact ⟨(⟨0, 0, 0, 0, 0, 0, 0, 0, false, [], []⟩ : MsgP), none, none, 0, 0, 1, rfl, K351, ⟨by (try simp only); omega, by (try simp only); omega, by (try simp only); omega, by (try simp only); omega, by (try simp only); omega, by (try simp only); omega, by (try simp only); omega, by (try simp only); omega, fun x hx => by cases hx⟩, by unfold unmsgB; rw [if_neg (by omega), if_neg (by rw [hmd]; omega), if_neg (fun q => by unfold Rdr.mfit at q; simp only [Rdr.mint, Rdr.nth] at q; omega)]; rfl, (Rd.nil _ _), (fun x hx => by cases hx), (Rd.nil _ _)⟩
              · rw [h345]
                have p359 : t343 = true := (bnot_false h345)
                try rw [p359]
                have hin360 := ht344.1 (bnot_false h345)
                refine Ops.regs 2 [(2, (Value.pointer (some ⟨b1, 0, none⟩))), (3, (i64 0)), (5, (Value.pointer (some ⟨b29, 0, none⟩))), (7, (Value.pointer (some ⟨b191, 0, none⟩))), (84, (Value.bool false)), (85, (Value.func (Fn.func 77) ⟨[]⟩ ⟨[]⟩)), (86, (Value.pointer (some ⟨b29, 3, none⟩)))] (j := 22) (by kernel_rfl) (by kernel_rfl) ?_
                refine Ops.go (v := (i64 (((((((((⟨bs, 0, 0⟩ : Rdr).int).2).int).2).int).2).int).1))) (by kernel_rfl) (Runs.load (t := 2) (a := ⟨b29, 3, none⟩) (by kernel_rfl) (H287.loads (by kernel_rfl))) (d := (some 87)) (by kernel_rfl) rfl ?_
                refine Ops.call (by kernel_rfl) (d := (some 88)) (by kernel_rfl) (in_calls _ (((((((((⟨bs, 0, 0⟩ : Rdr).int).2).int).2).int).2).int).1) 0 4) ?_
                rintro _ _ ⟨t361, rfl, ht362, rfl⟩
                refine ⟨_, _, rfl, rfl, ?_⟩
                refine Ops.regs 2 [(2, (Value.pointer (some ⟨b1, 0, none⟩))), (3, (i64 0)), (5, (Value.pointer (some ⟨b29, 0, none⟩))), (7, (Value.pointer (some ⟨b191, 0, none⟩))), (90, (Value.bool (!t361)))] (j := 26) (by kernel_rfl) (by kernel_rfl) ?_
                refine Ops.done (by kernel_rfl) ?_
                refine q_cond (o := .tmp 90) (b := (!t361)) (by kernel_rfl) rfl (fun h363 => ?_) (fun h363 => ?_)
                · rw [h363]
                  have p364 : t361 = false := (bnot_true h363)
                  try rw [p364]
                  have hin365 : ¬ (0 ≤ ((((((((⟨bs, 0, 0⟩ : Rdr).int).2).int).2).int).2).int).1 ∧ ((((((((⟨bs, 0, 0⟩ : Rdr).int).2).int).2).int).2).int).1 ≤ 4) := fun q => by have q := ht362.2 q; rw [(bnot_true h363)] at q; cases q
                  refine q_seq (by kernel_rfl) ?_
                  refine q_region (by kernel_rfl) ?_
                  refine Ops.regs 1 [(2, (Value.pointer (some ⟨b1, 0, none⟩))), (3, (i64 0)), (5, (Value.pointer (some ⟨b29, 0, none⟩))), (7, (Value.pointer (some ⟨b191, 0, none⟩))), (91, (agg [(i64 0), (i64 0), (i64 0), (i64 0), (i64 0), (i64 0), (i64 0), (i64 0), (Value.bool false), (Value.slice none 0 0), (Value.slice none 0 0)]))] (j := 1) (by kernel_rfl) (by kernel_rfl) ?_
                  refine Ops.put (t := 49) (b := b1) (off := 0) (v := (agg [(i64 0), (i64 0), (i64 0), (i64 0), (i64 0), (i64 0), (i64 0), (i64 0), (Value.bool false), (Value.slice none 0 0), (Value.slice none 0 0)])) (ys := [(i64 0), (i64 0), (i64 0), (i64 0), (i64 0), (i64 0), (i64 0), (i64 0), (Value.bool false), (Value.slice none 0 0), (Value.slice none 0 0)]) (by kernel_rfl) (by kernel_rfl) H285 (by kernel_rfl) (d := none) (by kernel_rfl) rfl (fun w366 H367 K368 => ?_)
                  clear H285
                  have K369 := K284.trans K368 (U := none_) (fun i h1 h2 => h2) (fun i h1 h2 => by have h2 : i = b1 := h2; exfalso; omega)
                  clear K284
                  have H370 := H286.keep K368 (by intro h; change b15 = b1 at h; omega)
                  clear H286
                  have H371 := H287.keep K368 (by intro h; change b29 = b1 at h; omega)
                  clear H287
                  have H372 := H288.keep K368 (by intro h; change b191 = b1 at h; omega)
                  clear H288
                  have F373 := RdO.keep F289 K368 (fun i _ _ hi hs => by have hs : i = b1 := hs; have := ob26 i _ _ hi; omega)
                  clear F289
                  have F374 := own_keep F290 K368 (fun i hi hs => by have hs : i = b1 := hs; have := obVb1 i hi; omega)
                  clear F290
                  have F375 := EntsMine.keep2 F291 K368 (fun x hx i o s hA hs => by have hs : i = b1 := hs; exact oeb1 x hx i o s hA hs)
                  clear F291
                  have F376 := own_keep F292 K368 (fun i hi hs => by have hs : i = b1 := hs; have := ob252 i hi; omega)
                  clear F292
                  clear K368
                  refine Ops.regs 1 [(2, (Value.pointer (some ⟨b1, 0, none⟩))), (3, (i64 1)), (5, (Value.pointer (some ⟨b29, 0, none⟩))), (7, (Value.pointer (some ⟨b191, 0, none⟩)))] (j := 3) (by kernel_rfl) (by kernel_rfl) ?_
                  refine Ops.done (by kernel_rfl) ?_
                  refine q_ret (by kernel_rfl) ?_
                  refine ⟨(Value.tuple #[(agg [(i64 0), (i64 0), (i64 0), (i64 0), (i64 0), (i64 0), (i64 0), (i64 0), (Value.bool false), (Value.slice none 0 0), (Value.slice none 0 0)]), (i64 1)]), retv_cell_tmp rfl rfl (H367.loads (by kernel_rfl)) rfl, ?_⟩
                  exact ⟨(⟨0, 0, 0, 0, 0, 0, 0, 0, false, [], []⟩ : MsgP), none, none, 0, 0, 1, rfl, K369, ⟨by (try simp only); omega, by (try simp only); omega, by (try simp only); omega, by (try simp only); omega, by (try simp only); omega, by (try simp only); omega, by (try simp only); omega, by (try simp only); omega, fun x hx => by cases hx⟩, by unfold unmsgB; rw [if_neg (by omega), if_neg (by rw [hmd]; omega), if_neg (fun q => by unfold Rdr.mfit at q; simp only [Rdr.mint, Rdr.nth] at q; omega)]; rfl, (Rd.nil _ _), (fun x hx => by cases hx), (Rd.nil _ _)⟩
                · rw [h363]
                  have p377 : t361 = true := (bnot_false h363)
                  try rw [p377]
                  have hin378 := ht362.1 (bnot_false h363)
                  refine q_skip (by kernel_rfl) ?_
                  refine q_seq (by kernel_rfl) ?_
                  refine q_draw (fun wz => Keeps (fun i => i = b191) w282 wz) 16 (by kernel_rfl) (by kernel_rfl) (by kernel_rfl) (fun w379 K380 _ _ => ⟨(K380.mono (fun _ _ h => h.elim)), ?_⟩)
                  have K381 := K284.trans K380 (U := none_) (fun i h1 h2 => h2) (fun i h1 h2 => by exact h2)
                  clear K284
                  have H382 := H285.keep K380 (fun h => h)
                  clear H285
                  have H383 := H286.keep K380 (fun h => h)
                  clear H286
                  have H384 := H287.keep K380 (fun h => h)
                  clear H287
                  have H385 := H288.keep K380 (fun h => h)
                  clear H288
                  have F386 := RdO.keep0 F289 K380
                  clear F289
                  have F387 := own_keep0 F290 K380
                  clear F290
                  have F388 := F291.keep2 K380 (fun _ _ _ _ _ _ h => h)
                  clear F291
                  have F389 := own_keep0 F292 K380
                  clear F292
                  refine Dr.strong (S' := (fun wz => Keeps (fun i => i = b191) w379 wz)) ((Keeps.refl w379).mono (fun _ _ h => h.elim)) (fun wz hx => K380.trans hx (fun i _ h => h.elim) (fun _ _ h => h)) ?_
                  clear K380
                  refine Dr.takes (fuel' := 15) (is' := [0]) [0] [(2, (Value.pointer (some ⟨b1, 0, none⟩))), (3, (i64 0)), (5, (Value.pointer (some ⟨b29, 0, none⟩))), (7, (Value.pointer (some ⟨b191, 0, none⟩))), (92, (Value.pointer (some ⟨b29, 0, none⟩)))] (by kernel_rfl) rfl (by kernel_rfl) ?_
                  refine Dr.take (i := 1) (v := (i64 (((⟨bs, 0, 0⟩ : Rdr).int).1))) (by kernel_rfl) (by kernel_rfl) (fun wz hS => Runs.load (t := 2) (a := ⟨b29, 0, none⟩) (by kernel_rfl) ((H384.keep hS (by intro h; change b29 = b191 at h; omega)).loads (by kernel_rfl))) (d := (some 93)) (by kernel_rfl) rfl ?_
                  refine Dr.takes (fuel' := 13) (is' := [2, 1, 0]) [2] [(2, (Value.pointer (some ⟨b1, 0, none⟩))), (3, (i64 0)), (5, (Value.pointer (some ⟨b29, 0, none⟩))), (7, (Value.pointer (some ⟨b191, 0, none⟩))), (93, (i64 (((⟨bs, 0, 0⟩ : Rdr).int).1))), (94, (Value.pointer (some ⟨b29, 1, none⟩)))] (by kernel_rfl) rfl (by kernel_rfl) ?_
                  refine Dr.take (i := 3) (v := (i64 (((((⟨bs, 0, 0⟩ : Rdr).int).2).int).1))) (by kernel_rfl) (by kernel_rfl) (fun wz hS => Runs.load (t := 2) (a := ⟨b29, 1, none⟩) (by kernel_rfl) ((H384.keep hS (by intro h; change b29 = b191 at h; omega)).loads (by kernel_rfl))) (d := (some 95)) (by kernel_rfl) rfl ?_
                  refine Dr.takes (fuel' := 11) (is' := [4, 3, 2, 1, 0]) [4] [(2, (Value.pointer (some ⟨b1, 0, none⟩))), (3, (i64 0)), (5, (Value.pointer (some ⟨b29, 0, none⟩))), (7, (Value.pointer (some ⟨b191, 0, none⟩))), (93, (i64 (((⟨bs, 0, 0⟩ : Rdr).int).1))), (95, (i64 (((((⟨bs, 0, 0⟩ : Rdr).int).2).int).1))), (96, (Value.pointer (some ⟨b29, 2, none⟩)))] (by kernel_rfl) rfl (by kernel_rfl) ?_
                  refine Dr.take (i := 5) (v := (i64 (((((((⟨bs, 0, 0⟩ : Rdr).int).2).int).2).int).1))) (by kernel_rfl) (by kernel_rfl) (fun wz hS => Runs.load (t := 2) (a := ⟨b29, 2, none⟩) (by kernel_rfl) ((H384.keep hS (by intro h; change b29 = b191 at h; omega)).loads (by kernel_rfl))) (d := (some 97)) (by kernel_rfl) rfl ?_
                  refine Dr.takes (fuel' := 9) (is' := [6, 5, 4, 3, 2, 1, 0]) [6] [(2, (Value.pointer (some ⟨b1, 0, none⟩))), (3, (i64 0)), (7, (Value.pointer (some ⟨b191, 0, none⟩))), (93, (i64 (((⟨bs, 0, 0⟩ : Rdr).int).1))), (95, (i64 (((((⟨bs, 0, 0⟩ : Rdr).int).2).int).1))), (97, (i64 (((((((⟨bs, 0, 0⟩ : Rdr).int).2).int).2).int).1))), (98, (Value.pointer (some ⟨b29, 3, none⟩)))] (by kernel_rfl) rfl (by kernel_rfl) ?_
                  refine Dr.take (i := 7) (v := (i64 (((((((((⟨bs, 0, 0⟩ : Rdr).int).2).int).2).int).2).int).1))) (by kernel_rfl) (by kernel_rfl) (fun wz hS => Runs.load (t := 2) (a := ⟨b29, 3, none⟩) (by kernel_rfl) ((H384.keep hS (by intro h; change b29 = b191 at h; omega)).loads (by kernel_rfl))) (d := (some 99)) (by kernel_rfl) rfl ?_
                  refine Dr.takes (fuel' := 7) (is' := [8, 7, 6, 5, 4, 3, 2, 1, 0]) [8] [(2, (Value.pointer (some ⟨b1, 0, none⟩))), (3, (i64 0)), (7, (Value.pointer (some ⟨b191, 0, none⟩))), (93, (i64 (((⟨bs, 0, 0⟩ : Rdr).int).1))), (95, (i64 (((((⟨bs, 0, 0⟩ : Rdr).int).2).int).1))), (97, (i64 (((((((⟨bs, 0, 0⟩ : Rdr).int).2).int).2).int).1))), (99, (i64 (((((((((⟨bs, 0, 0⟩ : Rdr).int).2).int).2).int).2).int).1))), (100, (Value.pointer (some ⟨b191, 0, none⟩)))] (by kernel_rfl) rfl (by kernel_rfl) ?_
                  refine Dr.put (i := 9) (t := 3) (b := b191) (off := 0) (v := (i64 (((⟨bs, 0, 0⟩ : Rdr).int).1))) (ys := [(i64 (((⟨bs, 0, 0⟩ : Rdr).int).1)), (i64 0), (i64 0), (i64 0), (i64 (((((((((((⟨bs, 0, 0⟩ : Rdr).int).2).int).2).int).2).int).2).int).1)), (i64 (((((((((((((⟨bs, 0, 0⟩ : Rdr).int).2).int).2).int).2).int).2).int).2).int).1)), (i64 (((((((((((((((⟨bs, 0, 0⟩ : Rdr).int).2).int).2).int).2).int).2).int).2).int).2).int).1)), (i64 (((((((((((((((((⟨bs, 0, 0⟩ : Rdr).int).2).int).2).int).2).int).2).int).2).int).2).int).2).int).1)), (Value.bool (((((((((((((((((((⟨bs, 0, 0⟩ : Rdr).int).2).int).2).int).2).int).2).int).2).int).2).int).2).int).2).bool_).1)), (Value.slice VA l.length vc), (Value.slice A260 (((R.bytes).1).length) c261)]) (by kernel_rfl) (by kernel_rfl) (by kernel_rfl) H385 (by kernel_rfl) (d := none) (by kernel_rfl) rfl (fun w390 H391 K392 => ?_)
                  clear H385
                  have K393 := K381.trans K392 (U := none_) (fun i h1 h2 => h2) (fun i h1 h2 => by have h2 : i = b191 := h2; exfalso; omega)
                  clear K381
                  have H394 := H382.keep K392 (by intro h; change b1 = b191 at h; omega)
                  clear H382
                  have H395 := H383.keep K392 (by intro h; change b15 = b191 at h; omega)
                  clear H383
                  have H396 := H384.keep K392 (by intro h; change b29 = b191 at h; omega)
                  clear H384
                  have F397 := RdO.keep F386 K392 (fun i _ _ hi hs => by have hs : i = b191 := hs; have := ob198 i _ _ hi; omega)
                  clear F386
                  have F398 := own_keep F387 K392 (fun i hi hs => by have hs : i = b191 := hs; have := obVb191 i hi; omega)
                  clear F387
                  have F399 := EntsMine.keep2 F388 K392 (fun x hx i o s hA hs => by have hs : i = b191 := hs; exact oeb191 x hx i o s hA hs)
                  clear F388
                  have F400 := own_keep F389 K392 (fun i hi hs => by have hs : i = b191 := hs; have := ob255 i hi; omega)
                  clear F389
                  refine ⟨K392, ?_⟩
                  refine Dr.strong (S' := (fun wz => Keeps (fun i => i = b191) w390 wz)) ((Keeps.refl w390).mono (fun _ _ h => h.elim)) (fun wz hx => K392.trans hx (fun i _ h => by have h : i = b191 := h; show i = b191; omega) (fun _ _ h => h)) ?_
                  clear K392
                  refine Dr.takes (fuel' := 5) (is' := [10, 9, 8, 7, 6, 5, 4, 3, 2, 1, 0]) [10] [(2, (Value.pointer (some ⟨b1, 0, none⟩))), (3, (i64 0)), (7, (Value.pointer (some ⟨b191, 0, none⟩))), (95, (i64 (((((⟨bs, 0, 0⟩ : Rdr).int).2).int).1))), (97, (i64 (((((((⟨bs, 0, 0⟩ : Rdr).int).2).int).2).int).1))), (99, (i64 (((((((((⟨bs, 0, 0⟩ : Rdr).int).2).int).2).int).2).int).1))), (101, (Value.pointer (some ⟨b191, 1, none⟩)))] (by kernel_rfl) rfl (by kernel_rfl) ?_
                  refine Dr.put (i := 11) (t := 3) (b := b191) (off := 1) (v := (i64 (((((⟨bs, 0, 0⟩ : Rdr).int).2).int).1))) (ys := [(i64 (((⟨bs, 0, 0⟩ : Rdr).int).1)), (i64 (((((⟨bs, 0, 0⟩ : Rdr).int).2).int).1)), (i64 0), (i64 0), (i64 (((((((((((⟨bs, 0, 0⟩ : Rdr).int).2).int).2).int).2).int).2).int).1)), (i64 (((((((((((((⟨bs, 0, 0⟩ : Rdr).int).2).int).2).int).2).int).2).int).2).int).1)), (i64 (((((((((((((((⟨bs, 0, 0⟩ : Rdr).int).2).int).2).int).2).int).2).int).2).int).2).int).1)), (i64 (((((((((((((((((⟨bs, 0, 0⟩ : Rdr).int).2).int).2).int).2).int).2).int).2).int).2).int).2).int).1)), (Value.bool (((((((((((((((((((⟨bs, 0, 0⟩ : Rdr).int).2).int).2).int).2).int).2).int).2).int).2).int).2).int).2).bool_).1)), (Value.slice VA l.length vc), (Value.slice A260 (((R.bytes).1).length) c261)]) (by kernel_rfl) (by kernel_rfl) (by kernel_rfl) H391 (by kernel_rfl) (d := none) (by kernel_rfl) rfl (fun w401 H402 K403 => ?_)
                  clear H391
                  have K404 := K393.trans K403 (U := none_) (fun i h1 h2 => h2) (fun i h1 h2 => by have h2 : i = b191 := h2; exfalso; omega)
                  clear K393
                  have H405 := H394.keep K403 (by intro h; change b1 = b191 at h; omega)
                  clear H394
                  have H406 := H395.keep K403 (by intro h; change b15 = b191 at h; omega)
                  clear H395
                  have H407 := H396.keep K403 (by intro h; change b29 = b191 at h; omega)
                  clear H396
                  have F408 := RdO.keep F397 K403 (fun i _ _ hi hs => by have hs : i = b191 := hs; have := ob198 i _ _ hi; omega)
                  clear F397
                  have F409 := own_keep F398 K403 (fun i hi hs => by have hs : i = b191 := hs; have := obVb191 i hi; omega)
                  clear F398
                  have F410 := EntsMine.keep2 F399 K403 (fun x hx i o s hA hs => by have hs : i = b191 := hs; exact oeb191 x hx i o s hA hs)
                  clear F399
                  have F411 := own_keep F400 K403 (fun i hi hs => by have hs : i = b191 := hs; have := ob255 i hi; omega)
                  clear F400
                  refine ⟨K403, ?_⟩
                  refine Dr.strong (S' := (fun wz => Keeps (fun i => i = b191) w401 wz)) ((Keeps.refl w401).mono (fun _ _ h => h.elim)) (fun wz hx => K403.trans hx (fun i _ h => by have h : i = b191 := h; show i = b191; omega) (fun _ _ h => h)) ?_
                  clear K403
                  refine Dr.takes (fuel' := 3) (is' := [12, 11, 10, 9, 8, 7, 6, 5, 4, 3, 2, 1, 0]) [12] [(2, (Value.pointer (some ⟨b1, 0, none⟩))), (3, (i64 0)), (7, (Value.pointer (some ⟨b191, 0, none⟩))), (97, (i64 (((((((⟨bs, 0, 0⟩ : Rdr).int).2).int).2).int).1))), (99, (i64 (((((((((⟨bs, 0, 0⟩ : Rdr).int).2).int).2).int).2).int).1))), (102, (Value.pointer (some ⟨b191, 2, none⟩)))] (by kernel_rfl) rfl (by kernel_rfl) ?_
                  refine Dr.put (i := 13) (t := 3) (b := b191) (off := 2) (v := (i64 (((((((⟨bs, 0, 0⟩ : Rdr).int).2).int).2).int).1))) (ys := [(i64 (((⟨bs, 0, 0⟩ : Rdr).int).1)), (i64 (((((⟨bs, 0, 0⟩ : Rdr).int).2).int).1)), (i64 (((((((⟨bs, 0, 0⟩ : Rdr).int).2).int).2).int).1)), (i64 0), (i64 (((((((((((⟨bs, 0, 0⟩ : Rdr).int).2).int).2).int).2).int).2).int).1)), (i64 (((((((((((((⟨bs, 0, 0⟩ : Rdr).int).2).int).2).int).2).int).2).int).2).int).1)), (i64 (((((((((((((((⟨bs, 0, 0⟩ : Rdr).int).2).int).2).int).2).int).2).int).2).int).2).int).1)), (i64 (((((((((((((((((⟨bs, 0, 0⟩ : Rdr).int).2).int).2).int).2).int).2).int).2).int).2).int).2).int).1)), (Value.bool (((((((((((((((((((⟨bs, 0, 0⟩ : Rdr).int).2).int).2).int).2).int).2).int).2).int).2).int).2).int).2).bool_).1)), (Value.slice VA l.length vc), (Value.slice A260 (((R.bytes).1).length) c261)]) (by kernel_rfl) (by kernel_rfl) (by kernel_rfl) H402 (by kernel_rfl) (d := none) (by kernel_rfl) rfl (fun w412 H413 K414 => ?_)
                  clear H402
                  have K415 := K404.trans K414 (U := none_) (fun i h1 h2 => h2) (fun i h1 h2 => by have h2 : i = b191 := h2; exfalso; omega)
                  clear K404
                  have H416 := H405.keep K414 (by intro h; change b1 = b191 at h; omega)
                  clear H405
                  have H417 := H406.keep K414 (by intro h; change b15 = b191 at h; omega)
                  clear H406
                  have H418 := H407.keep K414 (by intro h; change b29 = b191 at h; omega)
                  clear H407
                  have F419 := RdO.keep F408 K414 (fun i _ _ hi hs => by have hs : i = b191 := hs; have := ob198 i _ _ hi; omega)
                  clear F408
                  have F420 := own_keep F409 K414 (fun i hi hs => by have hs : i = b191 := hs; have := obVb191 i hi; omega)
                  clear F409
                  have F421 := EntsMine.keep2 F410 K414 (fun x hx i o s hA hs => by have hs : i = b191 := hs; exact oeb191 x hx i o s hA hs)
                  clear F410
                  have F422 := own_keep F411 K414 (fun i hi hs => by have hs : i = b191 := hs; have := ob255 i hi; omega)
                  clear F411
                  refine ⟨K414, ?_⟩
                  refine Dr.strong (S' := (fun wz => Keeps (fun i => i = b191) w412 wz)) ((Keeps.refl w412).mono (fun _ _ h => h.elim)) (fun wz hx => K414.trans hx (fun i _ h => by have h : i = b191 := h; show i = b191; omega) (fun _ _ h => h)) ?_
                  clear K414
                  refine Dr.takes (fuel' := 1) (is' := [14, 13, 12, 11, 10, 9, 8, 7, 6, 5, 4, 3, 2, 1, 0]) [14] [(2, (Value.pointer (some ⟨b1, 0, none⟩))), (3, (i64 0)), (7, (Value.pointer (some ⟨b191, 0, none⟩))), (99, (i64 (((((((((⟨bs, 0, 0⟩ : Rdr).int).2).int).2).int).2).int).1))), (103, (Value.pointer (some ⟨b191, 3, none⟩)))] (by kernel_rfl) rfl (by kernel_rfl) ?_
                  refine Dr.put (i := 15) (t := 3) (b := b191) (off := 3) (v := (i64 (((((((((⟨bs, 0, 0⟩ : Rdr).int).2).int).2).int).2).int).1))) (ys := [(i64 (((⟨bs, 0, 0⟩ : Rdr).int).1)), (i64 (((((⟨bs, 0, 0⟩ : Rdr).int).2).int).1)), (i64 (((((((⟨bs, 0, 0⟩ : Rdr).int).2).int).2).int).1)), (i64 (((((((((⟨bs, 0, 0⟩ : Rdr).int).2).int).2).int).2).int).1)), (i64 (((((((((((⟨bs, 0, 0⟩ : Rdr).int).2).int).2).int).2).int).2).int).1)), (i64 (((((((((((((⟨bs, 0, 0⟩ : Rdr).int).2).int).2).int).2).int).2).int).2).int).1)), (i64 (((((((((((((((⟨bs, 0, 0⟩ : Rdr).int).2).int).2).int).2).int).2).int).2).int).2).int).1)), (i64 (((((((((((((((((⟨bs, 0, 0⟩ : Rdr).int).2).int).2).int).2).int).2).int).2).int).2).int).2).int).1)), (Value.bool (((((((((((((((((((⟨bs, 0, 0⟩ : Rdr).int).2).int).2).int).2).int).2).int).2).int).2).int).2).int).2).bool_).1)), (Value.slice VA l.length vc), (Value.slice A260 (((R.bytes).1).length) c261)]) (by kernel_rfl) (by kernel_rfl) (by kernel_rfl) H413 (by kernel_rfl) (d := none) (by kernel_rfl) rfl (fun w423 H424 K425 => ?_)
                  clear H413
                  have K426 := K415.trans K425 (U := none_) (fun i h1 h2 => h2) (fun i h1 h2 => by have h2 : i = b191 := h2; exfalso; omega)
                  clear K415
                  have H427 := H416.keep K425 (by intro h; change b1 = b191 at h; omega)
                  clear H416
                  have H428 := H417.keep K425 (by intro h; change b15 = b191 at h; omega)
                  clear H417
                  have H429 := H418.keep K425 (by intro h; change b29 = b191 at h; omega)
                  clear H418
                  have F430 := RdO.keep F419 K425 (fun i _ _ hi hs => by have hs : i = b191 := hs; have := ob198 i _ _ hi; omega)
                  clear F419
                  have F431 := own_keep F420 K425 (fun i hi hs => by have hs : i = b191 := hs; have := obVb191 i hi; omega)
                  clear F420
                  have F432 := EntsMine.keep2 F421 K425 (fun x hx i o s hA hs => by have hs : i = b191 := hs; exact oeb191 x hx i o s hA hs)
                  clear F421
                  have F433 := own_keep F422 K425 (fun i hi hs => by have hs : i = b191 := hs; have := ob255 i hi; omega)
                  clear F422
                  refine ⟨K425, ?_⟩
                  refine Dr.strong (S' := (fun wz => Keeps (fun i => i = b191) w423 wz)) ((Keeps.refl w423).mono (fun _ _ h => h.elim)) (fun wz hx => K425.trans hx (fun i _ h => by have h : i = b191 := h; show i = b191; omega) (fun _ _ h => h)) ?_
                  clear K425
                  refine Dr.done (by kernel_rfl) ?_
                  refine q_seq (by kernel_rfl) ?_
                  refine q_region (by kernel_rfl) ?_
                  refine Ops.go (v := (agg [(i64 (((⟨bs, 0, 0⟩ : Rdr).int).1)), (i64 (((((⟨bs, 0, 0⟩ : Rdr).int).2).int).1)), (i64 (((((((⟨bs, 0, 0⟩ : Rdr).int).2).int).2).int).1)), (i64 (((((((((⟨bs, 0, 0⟩ : Rdr).int).2).int).2).int).2).int).1)), (i64 (((((((((((⟨bs, 0, 0⟩ : Rdr).int).2).int).2).int).2).int).2).int).1)), (i64 (((((((((((((⟨bs, 0, 0⟩ : Rdr).int).2).int).2).int).2).int).2).int).2).int).1)), (i64 (((((((((((((((⟨bs, 0, 0⟩ : Rdr).int).2).int).2).int).2).int).2).int).2).int).2).int).1)), (i64 (((((((((((((((((⟨bs, 0, 0⟩ : Rdr).int).2).int).2).int).2).int).2).int).2).int).2).int).2).int).1)), (Value.bool (((((((((((((((((((⟨bs, 0, 0⟩ : Rdr).int).2).int).2).int).2).int).2).int).2).int).2).int).2).int).2).bool_).1)), (Value.slice VA l.length vc), (Value.slice A260 (((R.bytes).1).length) c261)])) (by kernel_rfl) (Runs.load (t := 49) (a := ⟨b191, 0, none⟩) (by kernel_rfl) (H424.loads (by kernel_rfl))) (d := (some 104)) (by kernel_rfl) rfl ?_
                  refine Ops.put (t := 49) (b := b1) (off := 0) (v := (agg [(i64 (((⟨bs, 0, 0⟩ : Rdr).int).1)), (i64 (((((⟨bs, 0, 0⟩ : Rdr).int).2).int).1)), (i64 (((((((⟨bs, 0, 0⟩ : Rdr).int).2).int).2).int).1)), (i64 (((((((((⟨bs, 0, 0⟩ : Rdr).int).2).int).2).int).2).int).1)), (i64 (((((((((((⟨bs, 0, 0⟩ : Rdr).int).2).int).2).int).2).int).2).int).1)), (i64 (((((((((((((⟨bs, 0, 0⟩ : Rdr).int).2).int).2).int).2).int).2).int).2).int).1)), (i64 (((((((((((((((⟨bs, 0, 0⟩ : Rdr).int).2).int).2).int).2).int).2).int).2).int).2).int).1)), (i64 (((((((((((((((((⟨bs, 0, 0⟩ : Rdr).int).2).int).2).int).2).int).2).int).2).int).2).int).2).int).1)), (Value.bool (((((((((((((((((((⟨bs, 0, 0⟩ : Rdr).int).2).int).2).int).2).int).2).int).2).int).2).int).2).int).2).bool_).1)), (Value.slice VA l.length vc), (Value.slice A260 (((R.bytes).1).length) c261)])) (ys := [(i64 (((⟨bs, 0, 0⟩ : Rdr).int).1)), (i64 (((((⟨bs, 0, 0⟩ : Rdr).int).2).int).1)), (i64 (((((((⟨bs, 0, 0⟩ : Rdr).int).2).int).2).int).1)), (i64 (((((((((⟨bs, 0, 0⟩ : Rdr).int).2).int).2).int).2).int).1)), (i64 (((((((((((⟨bs, 0, 0⟩ : Rdr).int).2).int).2).int).2).int).2).int).1)), (i64 (((((((((((((⟨bs, 0, 0⟩ : Rdr).int).2).int).2).int).2).int).2).int).2).int).1)), (i64 (((((((((((((((⟨bs, 0, 0⟩ : Rdr).int).2).int).2).int).2).int).2).int).2).int).2).int).1)), (i64 (((((((((((((((((⟨bs, 0, 0⟩ : Rdr).int).2).int).2).int).2).int).2).int).2).int).2).int).2).int).1)), (Value.bool (((((((((((((((((((⟨bs, 0, 0⟩ : Rdr).int).2).int).2).int).2).int).2).int).2).int).2).int).2).int).2).bool_).1)), (Value.slice VA l.length vc), (Value.slice A260 (((R.bytes).1).length) c261)]) (by kernel_rfl) (by kernel_rfl) H427 (by kernel_rfl) (d := none) (by kernel_rfl) rfl (fun w434 H435 K436 => ?_)
                  clear H427
                  have K437 := K426.trans K436 (U := none_) (fun i h1 h2 => h2) (fun i h1 h2 => by have h2 : i = b1 := h2; exfalso; omega)
                  clear K426
                  have H438 := H428.keep K436 (by intro h; change b15 = b1 at h; omega)
                  clear H428
                  have H439 := H429.keep K436 (by intro h; change b29 = b1 at h; omega)
                  clear H429
                  have H440 := H424.keep K436 (by intro h; change b191 = b1 at h; omega)
                  clear H424
                  have F441 := RdO.keep F430 K436 (fun i _ _ hi hs => by have hs : i = b1 := hs; have := ob26 i _ _ hi; omega)
                  clear F430
                  have F442 := own_keep F431 K436 (fun i hi hs => by have hs : i = b1 := hs; have := obVb1 i hi; omega)
                  clear F431
                  have F443 := EntsMine.keep2 F432 K436 (fun x hx i o s hA hs => by have hs : i = b1 := hs; exact oeb1 x hx i o s hA hs)
                  clear F432
                  have F444 := own_keep F433 K436 (fun i hi hs => by have hs : i = b1 := hs; have := ob252 i hi; omega)
                  clear F433
                  clear K436
                  refine Ops.regs 1 [(2, (Value.pointer (some ⟨b1, 0, none⟩))), (3, (i64 0))] (j := 3) (by kernel_rfl) (by kernel_rfl) ?_
                  refine Ops.done (by kernel_rfl) ?_
                  refine q_ret (by kernel_rfl) ?_
                  refine ⟨(Value.tuple #[(agg [(i64 (((⟨bs, 0, 0⟩ : Rdr).int).1)), (i64 (((((⟨bs, 0, 0⟩ : Rdr).int).2).int).1)), (i64 (((((((⟨bs, 0, 0⟩ : Rdr).int).2).int).2).int).1)), (i64 (((((((((⟨bs, 0, 0⟩ : Rdr).int).2).int).2).int).2).int).1)), (i64 (((((((((((⟨bs, 0, 0⟩ : Rdr).int).2).int).2).int).2).int).2).int).1)), (i64 (((((((((((((⟨bs, 0, 0⟩ : Rdr).int).2).int).2).int).2).int).2).int).2).int).1)), (i64 (((((((((((((((⟨bs, 0, 0⟩ : Rdr).int).2).int).2).int).2).int).2).int).2).int).2).int).1)), (i64 (((((((((((((((((⟨bs, 0, 0⟩ : Rdr).int).2).int).2).int).2).int).2).int).2).int).2).int).2).int).1)), (Value.bool (((((((((((((((((((⟨bs, 0, 0⟩ : Rdr).int).2).int).2).int).2).int).2).int).2).int).2).int).2).int).2).bool_).1)), (Value.slice VA l.length vc), (Value.slice A260 (((R.bytes).1).length) c261)]), (i64 0)]), retv_cell_tmp rfl rfl (H435.loads (by kernel_rfl)) rfl, ?_⟩
                  exact ⟨(⟨((⟨bs, 0, 0⟩ : Rdr).int).1, ((((⟨bs, 0, 0⟩ : Rdr).int).2).int).1, ((((((⟨bs, 0, 0⟩ : Rdr).int).2).int).2).int).1, ((((((((⟨bs, 0, 0⟩ : Rdr).int).2).int).2).int).2).int).1, ((((((((((⟨bs, 0, 0⟩ : Rdr).int).2).int).2).int).2).int).2).int).1, ((((((((((((⟨bs, 0, 0⟩ : Rdr).int).2).int).2).int).2).int).2).int).2).int).1, ((((((((((((((⟨bs, 0, 0⟩ : Rdr).int).2).int).2).int).2).int).2).int).2).int).2).int).1, ((((((((((((((((⟨bs, 0, 0⟩ : Rdr).int).2).int).2).int).2).int).2).int).2).int).2).int).2).int).1, (((((((((((((((((((⟨bs, 0, 0⟩ : Rdr).int).2).int).2).int).2).int).2).int).2).int).2).int).2).int).2).bool_).1), l, (R.bytes).1⟩ : MsgP), VA, A260, vc, c261, 0, rfl, K437, ⟨by (try simp only); omega, by (try simp only); omega, by (try simp only); omega, by (try simp only); omega, by (try simp only); omega, by (try simp only); omega, by (try simp only); omega, by (try simp only); omega, hlo⟩, by unfold unmsgB; rw [if_neg (by omega), if_neg (by rw [hmd]; omega), if_pos (by unfold Rdr.mfit; simp only [Rdr.mint, Rdr.nth]; omega), hme, hmd]; rfl, (OwnT.rd F442), (EntsMine.ins F443), (OwnB.rd F444)⟩
      · rw [h242]
        have p445 : R.why = 0 := of_beq_t (bnot_false h242)
        refine q_skip (by kernel_rfl) ?_
        refine q_seq (by kernel_rfl) ?_
        refine q_region (by kernel_rfl) ?_
        refine Ops.regs 1 [(2, (Value.pointer (some ⟨b1, 0, none⟩))), (3, (i64 0)), (4, (Value.pointer (some ⟨b15, 0, none⟩))), (5, (Value.pointer (some ⟨b29, 0, none⟩))), (7, (Value.pointer (some ⟨b191, 0, none⟩))), (37, (i64 ((((((((((((((((((((((⟨bs, 0, 0⟩ : Rdr).int).2).int).2).int).2).int).2).int).2).int).2).int).2).int).2).bool_).2).sized 4096).1 : Nat) : Int))), (38, (i64 ((i : Nat) : Int))), (39, (Value.bool true)), (42, (Value.bool false)), (43, (Value.pointer (some ⟨b15, 0, none⟩)))] (j := 1) (by kernel_rfl) (by kernel_rfl) ?_
        refine Ops.call (by kernel_rfl) (d := (some 44)) (by kernel_rfl) (RdInt_calls _ b15 A16 c17 R hokR H236 F239 hne23 ) ?_
        rintro _ w446 ⟨rfl, K447, H448⟩
        have hok449 : (R.int).2.Ok := Rdr.Ok.int hokR
        have hu450 := Rdr.int_range R
        refine ⟨_, _, rfl, rfl, ?_⟩
        have K451 := K234.trans K447 (U := none_) (fun i h1 h2 => h2) (fun i h1 h2 => by have h2 : i = b15 := h2; exfalso; omega)
        clear K234
        have H452 := H235.keep K447 (by intro h; change b1 = b15 at h; omega)
        clear H235
        have H453 := H237.keep K447 (by intro h; change b29 = b15 at h; omega)
        clear H237
        have H454 := H238.keep K447 (by intro h; change b191 = b15 at h; omega)
        clear H238
        have F455 := RdO.keep F239 K447 (fun i _ _ hi hs => by have hs : i = b15 := hs; have := hne23 i _ _ hi; omega)
        clear F239
        have F456 := own_keep F240 K447 (fun i hi hs => by have hs : i = b15 := hs; have := obVb15 i hi; omega)
        clear F240
        have F457 := EntsMine.keep2 F241 K447 (fun x hx i o s hA hs => by have hs : i = b15 := hs; exact oeb15 x hx i o s hA hs)
        clear F241
        clear K447
        have F458 : RdO w446 A16 c17 (R.int).2.bs := by rw [Rdr.int_bs]; exact F455
        clear F455
        refine Ops.regs 1 [(2, (Value.pointer (some ⟨b1, 0, none⟩))), (3, (i64 0)), (4, (Value.pointer (some ⟨b15, 0, none⟩))), (5, (Value.pointer (some ⟨b29, 0, none⟩))), (7, (Value.pointer (some ⟨b191, 0, none⟩))), (37, (i64 ((((((((((((((((((((((⟨bs, 0, 0⟩ : Rdr).int).2).int).2).int).2).int).2).int).2).int).2).int).2).int).2).bool_).2).sized 4096).1 : Nat) : Int))), (38, (i64 ((i : Nat) : Int))), (39, (Value.bool true)), (42, (Value.bool false)), (45, (agg [(i64 ((R.int).1)), (Value.slice none 0 0)]))] (j := 3) (by kernel_rfl) (by kernel_rfl) ?_
        refine Ops.new (o := rowL [(i64 0), (Value.slice none 0 0)] 97) (V := fun b => (Value.pointer (some ⟨b, 0, none⟩))) (by kernel_rfl) (d := (some 8)) (by kernel_rfl) (fun b => rfl) (fun b459 w460 hb461 H462 K463 hs464 => ?_)
        have lb459b1 : b1 < b459 := by have := H452.lt; omega
        have lb459b15 : b15 < b459 := by have := H448.lt; omega
        have lb459b29 : b29 < b459 := by have := H453.lt; omega
        have lb459b191 : b191 < b459 := by have := H454.lt; omega
        have nb459 : w.heap.size ≤ b459 := by have := K451.size; omega
        have ob465 : ∀ i o s, A16 = some ⟨i, o, s⟩ → i ≠ b459 := fun i o s hi => by have := F458.2 i o s hi; omega
        have ob466 : ∀ i, ((Value.slice VA l.length vc)).ownBlock = some i → i < b459 := fun i hi => by have := (World.ownsRow.lt F456 i hi).2; omega
        have oe467 := EntsMine.new (c := b459) F457 (by omega)
        have K468 := K451.trans K463 (U := none_) (fun i h1 h2 => h2) (fun i h1 h2 => by exact h2)
        clear K451
        have H469 := H452.keep K463 (fun h => h)
        clear H452
        have H470 := H448.keep K463 (fun h => h)
        clear H448
        have H471 := H453.keep K463 (fun h => h)
        clear H453
        have H472 := H454.keep K463 (fun h => h)
        clear H454
        have F473 := RdO.keep0 F458 K463
        clear F458
        have F474 := own_keep0 F456 K463
        clear F456
        have F475 := F457.keep2 K463 (fun _ _ _ _ _ _ h => h)
        clear F457
        clear K463 hs464
        refine Ops.put (t := 97) (b := b459) (off := 0) (v := (agg [(i64 ((R.int).1)), (Value.slice none 0 0)])) (ys := [(i64 ((R.int).1)), (Value.slice none 0 0)]) (by kernel_rfl) (by kernel_rfl) H462 (by kernel_rfl) (d := none) (by kernel_rfl) rfl (fun w476 H477 K478 => ?_)
        clear H462
        have K479 := K468.trans K478 (U := none_) (fun i h1 h2 => h2) (fun i h1 h2 => by have h2 : i = b459 := h2; exfalso; omega)
        clear K468
        have H480 := H469.keep K478 (by intro h; change b1 = b459 at h; omega)
        clear H469
        have H481 := H470.keep K478 (by intro h; change b15 = b459 at h; omega)
        clear H470
        have H482 := H471.keep K478 (by intro h; change b29 = b459 at h; omega)
        clear H471
        have H483 := H472.keep K478 (by intro h; change b191 = b459 at h; omega)
        clear H472
        have F484 := RdO.keep F473 K478 (fun i _ _ hi hs => by have hs : i = b459 := hs; have := ob465 i _ _ hi; omega)
        clear F473
        have F485 := own_keep F474 K478 (fun i hi hs => by have hs : i = b459 := hs; have := ob466 i hi; omega)
        clear F474
        have F486 := EntsMine.keep2 F475 K478 (fun x hx i o s hA hs => by have hs : i = b459 := hs; exact oe467 x hx i o s hA hs)
        clear F475
        clear K478
        refine Ops.done (by kernel_rfl) ?_
        refine q_seq (by kernel_rfl) ?_
        refine q_region (by kernel_rfl) ?_
        refine Ops.regs 1 [(2, (Value.pointer (some ⟨b1, 0, none⟩))), (3, (i64 0)), (4, (Value.pointer (some ⟨b15, 0, none⟩))), (5, (Value.pointer (some ⟨b29, 0, none⟩))), (7, (Value.pointer (some ⟨b191, 0, none⟩))), (8, (Value.pointer (some ⟨b459, 0, none⟩))), (37, (i64 ((((((((((((((((((((((⟨bs, 0, 0⟩ : Rdr).int).2).int).2).int).2).int).2).int).2).int).2).int).2).int).2).bool_).2).sized 4096).1 : Nat) : Int))), (38, (i64 ((i : Nat) : Int))), (39, (Value.bool true)), (42, (Value.bool false)), (46, (Value.pointer (some ⟨b15, 0, none⟩)))] (j := 1) (by kernel_rfl) (by kernel_rfl) ?_
        refine Ops.call (by kernel_rfl) (d := (some 47)) (by kernel_rfl) (RdBytes_calls _ b15 A16 c17 ((R.int).2) hok449 H481 F484 hne23 ) ?_
        rintro _ w487 ⟨v492, rfl, K488, hO493, H489⟩
        obtain ⟨A504, c505, hf506⟩ := RdB.form (OwnB.rd hO493)
        subst hf506
        have hok490 : (((R.int).2).bytes).2.Ok := Rdr.Ok.bytes hok449
        have hu491 := Rdr.bytes_le hok449
        have ob495 : ∀ i, ((Value.slice A504 (((((R.int).2).bytes).1).length) c505)).ownBlock = some i → i ≠ b1 := fun i hi => by have := (World.ownsRow.lt hO493 i hi).1; have := H480.lt; omega
        have ob496 : ∀ i, ((Value.slice A504 (((((R.int).2).bytes).1).length) c505)).ownBlock = some i → i ≠ b15 := fun i hi => by have := (World.ownsRow.lt hO493 i hi).1; have := H481.lt; omega
        have ob497 : ∀ i, ((Value.slice A504 (((((R.int).2).bytes).1).length) c505)).ownBlock = some i → i ≠ b29 := fun i hi => by have := (World.ownsRow.lt hO493 i hi).1; have := H482.lt; omega
        have ob498 : ∀ i, ((Value.slice A504 (((((R.int).2).bytes).1).length) c505)).ownBlock = some i → i ≠ b191 := fun i hi => by have := (World.ownsRow.lt hO493 i hi).1; have := H483.lt; omega
        have ob499 : ∀ i, ((Value.slice A504 (((((R.int).2).bytes).1).length) c505)).ownBlock = some i → i ≠ b459 := fun i hi => by have := (World.ownsRow.lt hO493 i hi).1; have := H477.lt; omega
        have oo500 : ∀ i o s, A16 = some ⟨i, o, s⟩ → ((Value.slice A504 (((((R.int).2).bytes).1).length) c505)).ownBlock = some i → False := fun i o s hi hs => by have := (World.ownsRow.lt hO493 i hs).1; have := F484.2 i o s hi; omega
        have oo502 : ∀ i, ((Value.slice VA l.length vc)).ownBlock = some i → ((Value.slice A504 (((((R.int).2).bytes).1).length) c505)).ownBlock = some i → False := fun i hi hs => by have := (World.ownsRow.lt hO493 i hs).1; have := (World.ownsRow.lt F485 i hi).2; omega
        have oo503 : ∀ i, ((Value.slice A504 (((((R.int).2).bytes).1).length) c505)).ownBlock = some i → ((Value.slice VA l.length vc)).ownBlock = some i → False := fun i hi hs => oo502 i hs hi
        have O494 := own_base hO493 K479.size
        clear hO493
        refine ⟨_, _, rfl, rfl, ?_⟩
        have K507 := K479.trans K488 (U := none_) (fun i h1 h2 => h2) (fun i h1 h2 => by have h2 : i = b15 := h2; exfalso; omega)
        clear K479
        have H508 := H480.keep K488 (by intro h; change b1 = b15 at h; omega)
        clear H480
        have H509 := H482.keep K488 (by intro h; change b29 = b15 at h; omega)
        clear H482
        have H510 := H483.keep K488 (by intro h; change b191 = b15 at h; omega)
        clear H483
        have H511 := H477.keep K488 (by intro h; change b459 = b15 at h; omega)
        clear H477
        have F512 := RdO.keep F484 K488 (fun i _ _ hi hs => by have hs : i = b15 := hs; have := hne23 i _ _ hi; omega)
        clear F484
        have F513 := own_keep F485 K488 (fun i hi hs => by have hs : i = b15 := hs; have := obVb15 i hi; omega)
        clear F485
        have F514 := EntsMine.keep2 F486 K488 (fun x hx i o s hA hs => by have hs : i = b15 := hs; exact oeb15 x hx i o s hA hs)
        clear F486
        clear K488
        have F515 : RdO w487 A16 c17 (((R.int).2).bytes).2.bs := by rw [Rdr.bytes_bs]; exact F512
        clear F512
        refine Ops.regs 1 [(2, (Value.pointer (some ⟨b1, 0, none⟩))), (3, (i64 0)), (4, (Value.pointer (some ⟨b15, 0, none⟩))), (5, (Value.pointer (some ⟨b29, 0, none⟩))), (7, (Value.pointer (some ⟨b191, 0, none⟩))), (8, (Value.pointer (some ⟨b459, 0, none⟩))), (37, (i64 ((((((((((((((((((((((⟨bs, 0, 0⟩ : Rdr).int).2).int).2).int).2).int).2).int).2).int).2).int).2).int).2).bool_).2).sized 4096).1 : Nat) : Int))), (38, (i64 ((i : Nat) : Int))), (39, (Value.bool true)), (42, (Value.bool false)), (47, (Value.slice A504 (((((R.int).2).bytes).1).length) c505)), (48, (Value.pointer (some ⟨b459, 1, none⟩)))] (j := 3) (by kernel_rfl) (by kernel_rfl) ?_
        refine Ops.put (t := 23) (b := b459) (off := 1) (v := (Value.slice A504 (((((R.int).2).bytes).1).length) c505)) (ys := [(i64 ((R.int).1)), (Value.slice A504 (((((R.int).2).bytes).1).length) c505)]) (by kernel_rfl) (by kernel_rfl) H511 (by kernel_rfl) (d := none) (by kernel_rfl) rfl (fun w516 H517 K518 => ?_)
        clear H511
        have K519 := K507.trans K518 (U := none_) (fun i h1 h2 => h2) (fun i h1 h2 => by have h2 : i = b459 := h2; exfalso; omega)
        clear K507
        have H520 := H508.keep K518 (by intro h; change b1 = b459 at h; omega)
        clear H508
        have H521 := H489.keep K518 (by intro h; change b15 = b459 at h; omega)
        clear H489
        have H522 := H509.keep K518 (by intro h; change b29 = b459 at h; omega)
        clear H509
        have H523 := H510.keep K518 (by intro h; change b191 = b459 at h; omega)
        clear H510
        have F524 := RdO.keep F515 K518 (fun i _ _ hi hs => by have hs : i = b459 := hs; have := ob465 i _ _ hi; omega)
        clear F515
        have F525 := own_keep F513 K518 (fun i hi hs => by have hs : i = b459 := hs; have := ob466 i hi; omega)
        clear F513
        have F526 := EntsMine.keep2 F514 K518 (fun x hx i o s hA hs => by have hs : i = b459 := hs; exact oe467 x hx i o s hA hs)
        clear F514
        have F527 := own_keep O494 K518 (fun i hi hs => by have hs : i = b459 := hs; have := ob499 i hi; omega)
        clear O494
        clear K518
        refine Ops.done (by kernel_rfl) ?_
        refine q_region (by kernel_rfl) ?_
        refine Ops.regs 1 [(2, (Value.pointer (some ⟨b1, 0, none⟩))), (3, (i64 0)), (4, (Value.pointer (some ⟨b15, 0, none⟩))), (5, (Value.pointer (some ⟨b29, 0, none⟩))), (7, (Value.pointer (some ⟨b191, 0, none⟩))), (8, (Value.pointer (some ⟨b459, 0, none⟩))), (37, (i64 ((((((((((((((((((((((⟨bs, 0, 0⟩ : Rdr).int).2).int).2).int).2).int).2).int).2).int).2).int).2).int).2).bool_).2).sized 4096).1 : Nat) : Int))), (38, (i64 ((i : Nat) : Int))), (39, (Value.bool true)), (42, (Value.bool false)), (49, (Value.pointer (some ⟨b191, 9, none⟩)))] (j := 1) (by kernel_rfl) (by kernel_rfl) ?_
        refine Ops.go (v := (Value.slice VA l.length vc)) (by kernel_rfl) (Runs.load (t := 47) (a := ⟨b191, 9, none⟩) (by kernel_rfl) (H523.loads (by kernel_rfl))) (d := (some 50)) (by kernel_rfl) rfl ?_
        refine Ops.go (v := (agg [(i64 ((R.int).1)), (Value.slice A504 (((((R.int).2).bytes).1).length) c505)])) (by kernel_rfl) (Runs.load (t := 97) (a := ⟨b459, 0, none⟩) (by kernel_rfl) (H517.loads (by kernel_rfl))) (d := (some 51)) (by kernel_rfl) rfl ?_
        refine Ops.new (o := rowL [(i64 ((R.int).1)), (Value.slice A504 (((((R.int).2).bytes).1).length) c505)] 97) (V := fun b => (Value.slice (some ⟨b, 0, none⟩) 1 1)) (by kernel_rfl) (d := (some 52)) (by kernel_rfl) (fun b => rfl) (fun b528 w529 hb530 H531 K532 hs533 => ?_)
        have lb528b1 : b1 < b528 := by have := H520.lt; omega
        have lb528b15 : b15 < b528 := by have := H521.lt; omega
        have lb528b29 : b29 < b528 := by have := H522.lt; omega
        have lb528b191 : b191 < b528 := by have := H523.lt; omega
        have lb528b459 : b459 < b528 := by have := H517.lt; omega
        have nb528 : w.heap.size ≤ b528 := by have := K519.size; omega
        have ob534 : ∀ i o s, A16 = some ⟨i, o, s⟩ → i ≠ b528 := fun i o s hi => by have := F524.2 i o s hi; omega
        have ob535 : ∀ i, ((Value.slice VA l.length vc)).ownBlock = some i → i < b528 := fun i hi => by have := (World.ownsRow.lt F525 i hi).2; omega
        have oe536 := EntsMine.new (c := b528) F526 (by omega)
        have ob537 : ∀ i, ((Value.slice A504 (((((R.int).2).bytes).1).length) c505)).ownBlock = some i → i < b528 := fun i hi => by have := (World.ownsRow.lt F527 i hi).2; omega
        have K538 := K519.trans K532 (U := none_) (fun i h1 h2 => h2) (fun i h1 h2 => by exact h2)
        clear K519
        have H539 := H520.keep K532 (fun h => h)
        clear H520
        have H540 := H521.keep K532 (fun h => h)
        clear H521
        have H541 := H522.keep K532 (fun h => h)
        clear H522
        have H542 := H523.keep K532 (fun h => h)
        clear H523
        have H543 := H517.keep K532 (fun h => h)
        clear H517
        have F544 := RdO.keep0 F524 K532
        clear F524
        have F545 := own_keep0 F525 K532
        clear F525
        have F546 := F526.keep2 K532 (fun _ _ _ _ _ _ h => h)
        clear F526
        have F547 := own_keep0 F527 K532
        clear F527
        clear K532 hs533
        obtain ⟨v548, w549, hr550, hO551, hK552, hg553⟩ := OwnT.app (ty := 47) EntP.two EntP.one tyE F545 (show RdT _ 2 EntP.cells _ [(⟨(R.int).1, A504, c505, (((R.int).2).bytes).1⟩ : EntP)] from Rd.lit H531 (n := 1) rfl (by decide)) (by simp only [List.length_cons, List.length_nil]; omega) (by simp only [List.length_cons, List.length_nil]; omega) K538.size
        obtain ⟨A555, c556, rfl⟩ := RdT.form EntP.two (by decide) (OwnT.rd hO551)
        have ob557 : ∀ i, ((Value.slice A555 ((l ++ [(⟨(R.int).1, A504, c505, (((R.int).2).bytes).1⟩ : EntP)]).length) c556)).ownBlock = some i → i ≠ b1 := fun i hi => by rcases hg553 i hi with h | h; (have := obVb1 i h; omega); (have := H539.lt; omega)
        have ob558 : ∀ i, ((Value.slice A555 ((l ++ [(⟨(R.int).1, A504, c505, (((R.int).2).bytes).1⟩ : EntP)]).length) c556)).ownBlock = some i → i ≠ b15 := fun i hi => by rcases hg553 i hi with h | h; (have := obVb15 i h; omega); (have := H540.lt; omega)
        have ob559 : ∀ i, ((Value.slice A555 ((l ++ [(⟨(R.int).1, A504, c505, (((R.int).2).bytes).1⟩ : EntP)]).length) c556)).ownBlock = some i → i ≠ b29 := fun i hi => by rcases hg553 i hi with h | h; (have := obVb29 i h; omega); (have := H541.lt; omega)
        have ob560 : ∀ i, ((Value.slice A555 ((l ++ [(⟨(R.int).1, A504, c505, (((R.int).2).bytes).1⟩ : EntP)]).length) c556)).ownBlock = some i → i ≠ b191 := fun i hi => by rcases hg553 i hi with h | h; (have := obVb191 i h; omega); (have := H542.lt; omega)
        have ob561 : ∀ i, ((Value.slice A555 ((l ++ [(⟨(R.int).1, A504, c505, (((R.int).2).bytes).1⟩ : EntP)]).length) c556)).ownBlock = some i → i ≠ b459 := fun i hi => by rcases hg553 i hi with h | h; (have := ob466 i h; omega); (have := H543.lt; omega)
        have ob562 : ∀ i, ((Value.slice A555 ((l ++ [(⟨(R.int).1, A504, c505, (((R.int).2).bytes).1⟩ : EntP)]).length) c556)).ownBlock = some i → i ≠ b528 := fun i hi => by rcases hg553 i hi with h | h; (have := ob535 i h; omega); (have := H531.lt; omega)
        have oo563 : ∀ i o s, A16 = some ⟨i, o, s⟩ → ((Value.slice A555 ((l ++ [(⟨(R.int).1, A504, c505, (((R.int).2).bytes).1⟩ : EntP)]).length) c556)).ownBlock = some i → False := fun i o s hi hs => by rcases hg553 i hs with h | h; (exact ooVA16 i o s hi h); (have := F544.2 i o s hi; omega)
        have oo564 : ∀ i, ((Value.slice A504 (((((R.int).2).bytes).1).length) c505)).ownBlock = some i → ((Value.slice A555 ((l ++ [(⟨(R.int).1, A504, c505, (((R.int).2).bytes).1⟩ : EntP)]).length) c556)).ownBlock = some i → False := fun i hi hs => by rcases hg553 i hs with h | h; (exact oo503 i hi h); (have := (World.ownsRow.lt F547 i hi).2; omega)
        have oo565 : ∀ i, ((Value.slice A555 ((l ++ [(⟨(R.int).1, A504, c505, (((R.int).2).bytes).1⟩ : EntP)]).length) c556)).ownBlock = some i → ((Value.slice A504 (((((R.int).2).bytes).1).length) c505)).ownBlock = some i → False := fun i hi hs => oo564 i hs hi
        have K554 := hK552
        refine Ops.go (v := (Value.slice A555 ((l ++ [(⟨(R.int).1, A504, c505, (((R.int).2).bytes).1⟩ : EntP)]).length) c556)) (by kernel_rfl) (Runs.append (ts := #[47, 47]) (ty := 47) (vs := [(Value.slice VA l.length vc), (Value.slice (some ⟨b528, 0, none⟩) 1 1)]) (by kernel_rfl) hr550) (d := (some 53)) (by kernel_rfl) rfl ?_
        have hlE566 := EntsMine.lt_add (x := (⟨(R.int).1, A504, c505, (((R.int).2).bytes).1⟩ : EntP)) F546 F547
        have K567 := K538.trans K554 (U := none_) (fun i h1 h2 => h2) (fun i h1 h2 => by have h2 : ((Value.slice VA l.length vc)).ownBlock = some i := h2; exfalso; have := (World.ownsRow.lt F545 i h2).1; omega)
        clear K538
        have H568 := H539.keep K554 (by intro h; change ((Value.slice VA l.length vc)).ownBlock = some b1 at h; have := obVb1 b1 h; omega)
        clear H539
        have H569 := H540.keep K554 (by intro h; change ((Value.slice VA l.length vc)).ownBlock = some b15 at h; have := obVb15 b15 h; omega)
        clear H540
        have H570 := H541.keep K554 (by intro h; change ((Value.slice VA l.length vc)).ownBlock = some b29 at h; have := obVb29 b29 h; omega)
        clear H541
        have H571 := H542.keep K554 (by intro h; change ((Value.slice VA l.length vc)).ownBlock = some b191 at h; have := obVb191 b191 h; omega)
        clear H542
        have H572 := H543.keep K554 (by intro h; change ((Value.slice VA l.length vc)).ownBlock = some b459 at h; have := ob466 b459 h; omega)
        clear H543
        have H573 := H531.keep K554 (by intro h; change ((Value.slice VA l.length vc)).ownBlock = some b528 at h; have := ob535 b528 h; omega)
        clear H531
        have F574 := RdO.keep F544 K554 (fun i _ _ hi hs => by have hs : ((Value.slice VA l.length vc)).ownBlock = some i := hs; exact ooVA16 i _ _ hi hs)
        clear F544
        clear F545
        have F575 := EntsMine.keep2 F546 K554 (fun x hx i o s hA hs => by have hs : ((Value.slice VA l.length vc)).ownBlock = some i := hs; exact hMo x hx i o s hA hs)
        clear F546
        have F576 := own_keep F547 K554 (fun i hi hs => by have hs : ((Value.slice VA l.length vc)).ownBlock = some i := hs; exact oo503 i hi hs)
        clear F547
        have hM577 : EntsMine w549 w.heap.size (Value.slice A555 ((l ++ [(⟨(R.int).1, A504, c505, (((R.int).2).bytes).1⟩ : EntP)]).length) c556) (l ++ [(⟨(R.int).1, A504, c505, (((R.int).2).bytes).1⟩ : EntP)]) := EntsMine.add (x := (⟨(R.int).1, A504, c505, (((R.int).2).bytes).1⟩ : EntP)) F575 F576 hlE566 hg553 (fun g o s hA hv => oo502 g hv (by have hA2 : A504 = some ⟨g, o, s⟩ := hA; rw [hA2]; rfl))
        have oe578 : ∀ y ∈ (l ++ [(⟨(R.int).1, A504, c505, (((R.int).2).bytes).1⟩ : EntP)]), ∀ g o s, y.A = some ⟨g, o, s⟩ → g ≠ b1 := ne_add oeb1 (fun i hi => by have := ob495 i hi; omega)
        have oe579 : ∀ y ∈ (l ++ [(⟨(R.int).1, A504, c505, (((R.int).2).bytes).1⟩ : EntP)]), ∀ g o s, y.A = some ⟨g, o, s⟩ → g ≠ b15 := ne_add oeb15 (fun i hi => by have := ob496 i hi; omega)
        have oe580 : ∀ y ∈ (l ++ [(⟨(R.int).1, A504, c505, (((R.int).2).bytes).1⟩ : EntP)]), ∀ g o s, y.A = some ⟨g, o, s⟩ → g ≠ b29 := ne_add oeb29 (fun i hi => by have := ob497 i hi; omega)
        have oe581 : ∀ y ∈ (l ++ [(⟨(R.int).1, A504, c505, (((R.int).2).bytes).1⟩ : EntP)]), ∀ g o s, y.A = some ⟨g, o, s⟩ → g ≠ b191 := ne_add oeb191 (fun i hi => by have := ob498 i hi; omega)
        have oe582 : ∀ y ∈ (l ++ [(⟨(R.int).1, A504, c505, (((R.int).2).bytes).1⟩ : EntP)]), ∀ g o s, y.A = some ⟨g, o, s⟩ → g ≠ b459 := ne_add oe467 (fun i hi => by have := ob499 i hi; omega)
        have oe583 : ∀ y ∈ (l ++ [(⟨(R.int).1, A504, c505, (((R.int).2).bytes).1⟩ : EntP)]), ∀ g o s, y.A = some ⟨g, o, s⟩ → g ≠ b528 := ne_add oe536 (fun i hi => by have := ob537 i hi; omega)
        clear F575
        clear K554 hr550 hK552 hg553
        refine Ops.regs 1 [(2, (Value.pointer (some ⟨b1, 0, none⟩))), (3, (i64 0)), (4, (Value.pointer (some ⟨b15, 0, none⟩))), (5, (Value.pointer (some ⟨b29, 0, none⟩))), (7, (Value.pointer (some ⟨b191, 0, none⟩))), (8, (Value.pointer (some ⟨b459, 0, none⟩))), (37, (i64 ((((((((((((((((((((((⟨bs, 0, 0⟩ : Rdr).int).2).int).2).int).2).int).2).int).2).int).2).int).2).int).2).bool_).2).sized 4096).1 : Nat) : Int))), (38, (i64 ((i : Nat) : Int))), (39, (Value.bool true)), (42, (Value.bool false)), (53, (Value.slice A555 ((l ++ [(⟨(R.int).1, A504, c505, (((R.int).2).bytes).1⟩ : EntP)]).length) c556)), (54, (Value.pointer (some ⟨b191, 9, none⟩)))] (j := 6) (by kernel_rfl) (by kernel_rfl) ?_
        refine Ops.put (t := 47) (b := b191) (off := 9) (v := (Value.slice A555 ((l ++ [(⟨(R.int).1, A504, c505, (((R.int).2).bytes).1⟩ : EntP)]).length) c556)) (ys := [(i64 0), (i64 0), (i64 0), (i64 0), (i64 (((((((((((⟨bs, 0, 0⟩ : Rdr).int).2).int).2).int).2).int).2).int).1)), (i64 (((((((((((((⟨bs, 0, 0⟩ : Rdr).int).2).int).2).int).2).int).2).int).2).int).1)), (i64 (((((((((((((((⟨bs, 0, 0⟩ : Rdr).int).2).int).2).int).2).int).2).int).2).int).2).int).1)), (i64 (((((((((((((((((⟨bs, 0, 0⟩ : Rdr).int).2).int).2).int).2).int).2).int).2).int).2).int).2).int).1)), (Value.bool (((((((((((((((((((⟨bs, 0, 0⟩ : Rdr).int).2).int).2).int).2).int).2).int).2).int).2).int).2).int).2).bool_).1)), (Value.slice A555 ((l ++ [(⟨(R.int).1, A504, c505, (((R.int).2).bytes).1⟩ : EntP)]).length) c556), (Value.slice none 0 0)]) (by kernel_rfl) (by kernel_rfl) H571 (by kernel_rfl) (d := none) (by kernel_rfl) rfl (fun w584 H585 K586 => ?_)
        clear H571
        have K587 := K567.trans K586 (U := none_) (fun i h1 h2 => h2) (fun i h1 h2 => by have h2 : i = b191 := h2; exfalso; omega)
        clear K567
        have H588 := H568.keep K586 (by intro h; change b1 = b191 at h; omega)
        clear H568
        have H589 := H569.keep K586 (by intro h; change b15 = b191 at h; omega)
        clear H569
        have H590 := H570.keep K586 (by intro h; change b29 = b191 at h; omega)
        clear H570
        have H591 := H572.keep K586 (by intro h; change b459 = b191 at h; omega)
        clear H572
        have H592 := H573.keep K586 (by intro h; change b528 = b191 at h; omega)
        clear H573
        have F593 := RdO.keep F574 K586 (fun i _ _ hi hs => by have hs : i = b191 := hs; have := ob198 i _ _ hi; omega)
        clear F574
        have F594 := own_keep F576 K586 (fun i hi hs => by have hs : i = b191 := hs; have := ob498 i hi; omega)
        clear F576
        have F595 := EntsMine.keep2 hM577 K586 (fun x hx i o s hA hs => by have hs : i = b191 := hs; exact oe581 x hx i o s hA hs)
        clear hM577
        have F596 := own_keep hO551 K586 (fun i hi hs => by have hs : i = b191 := hs; have := ob560 i hi; omega)
        clear hO551
        clear K586
        refine Ops.done (by kernel_rfl) ?_
        refine q_region (by kernel_rfl) ?_
        refine Ops.regs 1 [(2, (Value.pointer (some ⟨b1, 0, none⟩))), (3, (i64 0)), (4, (Value.pointer (some ⟨b15, 0, none⟩))), (5, (Value.pointer (some ⟨b29, 0, none⟩))), (7, (Value.pointer (some ⟨b191, 0, none⟩))), (8, (Value.pointer (some ⟨b459, 0, none⟩))), (37, (i64 ((((((((((((((((((((((⟨bs, 0, 0⟩ : Rdr).int).2).int).2).int).2).int).2).int).2).int).2).int).2).int).2).bool_).2).sized 4096).1 : Nat) : Int))), (38, (i64 ((i : Nat) : Int))), (39, (Value.bool true)), (42, (Value.bool false)), (55, (i64 (IntKind.i64.wrap (((i : Nat) : Int) + 1))))] (j := 1) (by kernel_rfl) (by kernel_rfl) ?_
        have e597 : IntKind.i64.wrap (((i : Nat) : Int) + 1) = ((i + 1 : Nat) : Int) := by rw [wrap_i64 (by omega) (by omega)]; omega
        rw [e597]
        clear e597
        refine Ops.regs 1 [(2, (Value.pointer (some ⟨b1, 0, none⟩))), (3, (i64 0)), (4, (Value.pointer (some ⟨b15, 0, none⟩))), (5, (Value.pointer (some ⟨b29, 0, none⟩))), (7, (Value.pointer (some ⟨b191, 0, none⟩))), (8, (Value.pointer (some ⟨b459, 0, none⟩))), (37, (i64 ((((((((((((((((((((((⟨bs, 0, 0⟩ : Rdr).int).2).int).2).int).2).int).2).int).2).int).2).int).2).int).2).bool_).2).sized 4096).1 : Nat) : Int))), (38, (i64 ((i + 1 : Nat) : Int))), (39, (Value.bool true)), (42, (Value.bool false))] (j := 2) (by kernel_rfl) (by kernel_rfl) ?_
        refine Ops.keep (R := [(2, (Value.pointer (some ⟨b1, 0, none⟩))), (3, (i64 0)), (4, (Value.pointer (some ⟨b15, 0, none⟩))), (5, (Value.pointer (some ⟨b29, 0, none⟩))), (7, (Value.pointer (some ⟨b191, 0, none⟩))), (37, (i64 ((((((((((((((((((((((⟨bs, 0, 0⟩ : Rdr).int).2).int).2).int).2).int).2).int).2).int).2).int).2).int).2).bool_).2).sized 4096).1 : Nat) : Int))), (38, (i64 ((i + 1 : Nat) : Int)))]) (by kernel_rfl) ?_
        refine Ops.done (by kernel_rfl) ?_
        exact ⟨(A555, c556, i + 1, l ++ [(⟨(R.int).1, A504, c505, (((R.int).2).bytes).1⟩ : EntP)], (((R.int).2).bytes).2), ⟨rfl, F593, F596, ob557, ob558, ob559, ob560, oo563, F595, oe578, oe579, oe580, oe581, hok490, (by rw [List.map_append]; exact (Rdr.ents_next hE hF (by omega) (by omega)).1), (Rdr.ents_next hE hF (by omega) (by omega)).2, (by omega), (by simp only [List.length_append, List.length_cons, List.length_nil]; omega), (EntsOk.add hlo (by simp only; omega)), K587, H588, H589, H590, H585⟩, (show (⟨bs, 0, 0⟩ : Rdr).mcnt.1 - (i + 1) < (⟨bs, 0, 0⟩ : Rdr).mcnt.1 - i from by omega)⟩
    · rw [h230]
      have p598 : ¬ (((i : Nat) : Int) < ((((((((((((((((((((((⟨bs, 0, 0⟩ : Rdr).int).2).int).2).int).2).int).2).int).2).int).2).int).2).int).2).bool_).2).sized 4096).1 : Nat) : Int)) := of_decide_eq_false h230
      have hd := Rdr.ents_done hE hF (by omega)
      have hme : (⟨bs, 0, 0⟩ : Rdr).ments = (l.map EntP.key, R) := Prod.ext hd.1 hd.2
      have hmd : (⟨bs, 0, 0⟩ : Rdr).mdata = R.bytes := by unfold Rdr.mdata; rw [hme]
      refine q_exit (id := 2) (by kernel_rfl) ?_
      refine q_seq (by kernel_rfl) ?_
      refine q_region (by kernel_rfl) ?_
      refine Ops.regs 1 [(2, (Value.pointer (some ⟨b1, 0, none⟩))), (3, (i64 0)), (4, (Value.pointer (some ⟨b15, 0, none⟩))), (5, (Value.pointer (some ⟨b29, 0, none⟩))), (7, (Value.pointer (some ⟨b191, 0, none⟩))), (56, (Value.pointer (some ⟨b15, 0, none⟩)))] (j := 1) (by kernel_rfl) (by kernel_rfl) ?_
      refine Ops.call (by kernel_rfl) (d := (some 57)) (by kernel_rfl) (RdBytes_calls _ b15 A16 c17 R hokR H227 hRdA16 hne23 ) ?_
      rintro _ w599 ⟨v604, rfl, K600, hO605, H601⟩
      obtain ⟨A615, c616, hf617⟩ := RdB.form (OwnB.rd hO605)
      subst hf617
      have hok602 : (R.bytes).2.Ok := Rdr.Ok.bytes hokR
      have hu603 := Rdr.bytes_le hokR
      have ob607 : ∀ i, ((Value.slice A615 (((R.bytes).1).length) c616)).ownBlock = some i → i ≠ b1 := fun i hi => by have := (World.ownsRow.lt hO605 i hi).1; have := H226.lt; omega
      have ob608 : ∀ i, ((Value.slice A615 (((R.bytes).1).length) c616)).ownBlock = some i → i ≠ b15 := fun i hi => by have := (World.ownsRow.lt hO605 i hi).1; have := H227.lt; omega
      have ob609 : ∀ i, ((Value.slice A615 (((R.bytes).1).length) c616)).ownBlock = some i → i ≠ b29 := fun i hi => by have := (World.ownsRow.lt hO605 i hi).1; have := H228.lt; omega
      have ob610 : ∀ i, ((Value.slice A615 (((R.bytes).1).length) c616)).ownBlock = some i → i ≠ b191 := fun i hi => by have := (World.ownsRow.lt hO605 i hi).1; have := H229.lt; omega
      have oo611 : ∀ i o s, A16 = some ⟨i, o, s⟩ → ((Value.slice A615 (((R.bytes).1).length) c616)).ownBlock = some i → False := fun i o s hi hs => by have := (World.ownsRow.lt hO605 i hs).1; have := hRdA16.2 i o s hi; omega
      have oo613 : ∀ i, ((Value.slice VA l.length vc)).ownBlock = some i → ((Value.slice A615 (((R.bytes).1).length) c616)).ownBlock = some i → False := fun i hi hs => by have := (World.ownsRow.lt hO605 i hs).1; have := (World.ownsRow.lt hOV i hi).2; omega
      have oo614 : ∀ i, ((Value.slice A615 (((R.bytes).1).length) c616)).ownBlock = some i → ((Value.slice VA l.length vc)).ownBlock = some i → False := fun i hi hs => oo613 i hs hi
      have O606 := own_base hO605 K225.size
      clear hO605
      refine ⟨_, _, rfl, rfl, ?_⟩
      have K618 := K225.trans K600 (U := none_) (fun i h1 h2 => h2) (fun i h1 h2 => by have h2 : i = b15 := h2; exfalso; omega)
      clear K225
      have H619 := H226.keep K600 (by intro h; change b1 = b15 at h; omega)
      clear H226
      have H620 := H228.keep K600 (by intro h; change b29 = b15 at h; omega)
      clear H228
      have H621 := H229.keep K600 (by intro h; change b191 = b15 at h; omega)
      clear H229
      have F622 := RdO.keep hRdA16 K600 (fun i _ _ hi hs => by have hs : i = b15 := hs; have := hne23 i _ _ hi; omega)
      clear hRdA16
      have F623 := own_keep hOV K600 (fun i hi hs => by have hs : i = b15 := hs; have := obVb15 i hi; omega)
      clear hOV
      have F624 := EntsMine.keep2 hM K600 (fun x hx i o s hA hs => by have hs : i = b15 := hs; exact oeb15 x hx i o s hA hs)
      clear hM
      clear K600
      have F625 : RdO w599 A16 c17 (R.bytes).2.bs := by rw [Rdr.bytes_bs]; exact F622
      clear F622
      refine Ops.regs 1 [(2, (Value.pointer (some ⟨b1, 0, none⟩))), (3, (i64 0)), (4, (Value.pointer (some ⟨b15, 0, none⟩))), (5, (Value.pointer (some ⟨b29, 0, none⟩))), (7, (Value.pointer (some ⟨b191, 0, none⟩))), (57, (Value.slice A615 (((R.bytes).1).length) c616)), (58, (Value.pointer (some ⟨b191, 10, none⟩)))] (j := 3) (by kernel_rfl) (by kernel_rfl) ?_
      refine Ops.put (t := 23) (b := b191) (off := 10) (v := (Value.slice A615 (((R.bytes).1).length) c616)) (ys := [(i64 0), (i64 0), (i64 0), (i64 0), (i64 (((((((((((⟨bs, 0, 0⟩ : Rdr).int).2).int).2).int).2).int).2).int).1)), (i64 (((((((((((((⟨bs, 0, 0⟩ : Rdr).int).2).int).2).int).2).int).2).int).2).int).1)), (i64 (((((((((((((((⟨bs, 0, 0⟩ : Rdr).int).2).int).2).int).2).int).2).int).2).int).2).int).1)), (i64 (((((((((((((((((⟨bs, 0, 0⟩ : Rdr).int).2).int).2).int).2).int).2).int).2).int).2).int).2).int).1)), (Value.bool (((((((((((((((((((⟨bs, 0, 0⟩ : Rdr).int).2).int).2).int).2).int).2).int).2).int).2).int).2).int).2).bool_).1)), (Value.slice VA l.length vc), (Value.slice A615 (((R.bytes).1).length) c616)]) (by kernel_rfl) (by kernel_rfl) H621 (by kernel_rfl) (d := none) (by kernel_rfl) rfl (fun w626 H627 K628 => ?_)
      clear H621
      have K629 := K618.trans K628 (U := none_) (fun i h1 h2 => h2) (fun i h1 h2 => by have h2 : i = b191 := h2; exfalso; omega)
      clear K618
      have H630 := H619.keep K628 (by intro h; change b1 = b191 at h; omega)
      clear H619
      have H631 := H601.keep K628 (by intro h; change b15 = b191 at h; omega)
      clear H601
      have H632 := H620.keep K628 (by intro h; change b29 = b191 at h; omega)
      clear H620
      have F633 := RdO.keep F625 K628 (fun i _ _ hi hs => by have hs : i = b191 := hs; have := ob198 i _ _ hi; omega)
      clear F625
      have F634 := own_keep F623 K628 (fun i hi hs => by have hs : i = b191 := hs; have := obVb191 i hi; omega)
      clear F623
      have F635 := EntsMine.keep2 F624 K628 (fun x hx i o s hA hs => by have hs : i = b191 := hs; exact oeb191 x hx i o s hA hs)
      clear F624
      have F636 := own_keep O606 K628 (fun i hi hs => by have hs : i = b191 := hs; have := ob610 i hi; omega)
      clear O606
      clear K628
      refine Ops.done (by kernel_rfl) ?_
      refine q_seq (by kernel_rfl) ?_
      refine q_seq (by kernel_rfl) ?_
      refine q_region (by kernel_rfl) ?_
      refine Ops.regs 1 [(2, (Value.pointer (some ⟨b1, 0, none⟩))), (3, (i64 0)), (5, (Value.pointer (some ⟨b29, 0, none⟩))), (7, (Value.pointer (some ⟨b191, 0, none⟩))), (59, (Value.pointer (some ⟨b15, 0, none⟩)))] (j := 1) (by kernel_rfl) (by kernel_rfl) ?_
      refine Ops.call (by kernel_rfl) (d := (some 60)) (by kernel_rfl) (RdEnd_calls _ b15 A16 c17 ((R.bytes).2) hok602 H631 F633 hne23) ?_
      rintro _ w637 ⟨rfl, K638⟩
      refine ⟨_, _, rfl, rfl, ?_⟩
      have K639 := K629.trans K638 (U := none_) (fun i h1 h2 => h2) (fun i h1 h2 => by exact h2)
      clear K629
      have H640 := H630.keep K638 (fun h => h)
      clear H630
      have H641 := H631.keep K638 (fun h => h)
      clear H631
      have H642 := H632.keep K638 (fun h => h)
      clear H632
      have H643 := H627.keep K638 (fun h => h)
      clear H627
      have F644 := RdO.keep0 F633 K638
      clear F633
      have F645 := own_keep0 F634 K638
      clear F634
      have F646 := F635.keep2 K638 (fun _ _ _ _ _ _ h => h)
      clear F635
      have F647 := own_keep0 F636 K638
      clear F636
      clear K638
      refine Ops.regs 1 [(2, (Value.pointer (some ⟨b1, 0, none⟩))), (3, (i64 0)), (5, (Value.pointer (some ⟨b29, 0, none⟩))), (7, (Value.pointer (some ⟨b191, 0, none⟩))), (9, (i64 (((R.bytes).2).end_)))] (j := 3) (by kernel_rfl) (by kernel_rfl) ?_
      refine Ops.done (by kernel_rfl) ?_
      refine q_seq (by kernel_rfl) ?_
      refine q_region (by kernel_rfl) ?_
      refine Ops.regs 2 [(2, (Value.pointer (some ⟨b1, 0, none⟩))), (3, (i64 0)), (5, (Value.pointer (some ⟨b29, 0, none⟩))), (7, (Value.pointer (some ⟨b191, 0, none⟩))), (9, (i64 (((R.bytes).2).end_))), (62, (Value.bool ((((R.bytes).2).end_) != 0)))] (j := 2) (by kernel_rfl) (by kernel_rfl) ?_
      refine Ops.done (by kernel_rfl) ?_
      refine q_cond (o := .tmp 62) (b := ((((R.bytes).2).end_) != 0)) (by kernel_rfl) rfl (fun h648 => ?_) (fun h648 => ?_)
      · rw [h648]
        have p649 : ¬ (((R.bytes).2).end_ = 0) := of_bne_t h648
        refine q_seq (by kernel_rfl) ?_
        refine q_region (by kernel_rfl) ?_
        refine Ops.regs 2 [(2, (Value.pointer (some ⟨b1, 0, none⟩))), (3, (i64 0)), (5, (Value.pointer (some ⟨b29, 0, none⟩))), (7, (Value.pointer (some ⟨b191, 0, none⟩))), (63, (agg [(i64 0), (i64 0), (i64 0), (i64 0), (i64 0), (i64 0), (i64 0), (i64 0), (Value.bool false), (Value.slice none 0 0), (Value.slice none 0 0)])), (64, (i64 (((R.bytes).2).end_)))] (j := 2) (by kernel_rfl) (by kernel_rfl) ?_
        refine Ops.put (t := 49) (b := b1) (off := 0) (v := (agg [(i64 0), (i64 0), (i64 0), (i64 0), (i64 0), (i64 0), (i64 0), (i64 0), (Value.bool false), (Value.slice none 0 0), (Value.slice none 0 0)])) (ys := [(i64 0), (i64 0), (i64 0), (i64 0), (i64 0), (i64 0), (i64 0), (i64 0), (Value.bool false), (Value.slice none 0 0), (Value.slice none 0 0)]) (by kernel_rfl) (by kernel_rfl) H640 (by kernel_rfl) (d := none) (by kernel_rfl) rfl (fun w650 H651 K652 => ?_)
        clear H640
        have K653 := K639.trans K652 (U := none_) (fun i h1 h2 => h2) (fun i h1 h2 => by have h2 : i = b1 := h2; exfalso; omega)
        clear K639
        have H654 := H641.keep K652 (by intro h; change b15 = b1 at h; omega)
        clear H641
        have H655 := H642.keep K652 (by intro h; change b29 = b1 at h; omega)
        clear H642
        have H656 := H643.keep K652 (by intro h; change b191 = b1 at h; omega)
        clear H643
        have F657 := RdO.keep F644 K652 (fun i _ _ hi hs => by have hs : i = b1 := hs; have := ob26 i _ _ hi; omega)
        clear F644
        have F658 := own_keep F645 K652 (fun i hi hs => by have hs : i = b1 := hs; have := obVb1 i hi; omega)
        clear F645
        have F659 := EntsMine.keep2 F646 K652 (fun x hx i o s hA hs => by have hs : i = b1 := hs; exact oeb1 x hx i o s hA hs)
        clear F646
        have F660 := own_keep F647 K652 (fun i hi hs => by have hs : i = b1 := hs; have := ob607 i hi; omega)
        clear F647
        clear K652
        refine Ops.regs 1 [(2, (Value.pointer (some ⟨b1, 0, none⟩))), (3, (i64 (((R.bytes).2).end_))), (5, (Value.pointer (some ⟨b29, 0, none⟩))), (7, (Value.pointer (some ⟨b191, 0, none⟩)))] (j := 4) (by kernel_rfl) (by kernel_rfl) ?_
        refine Ops.done (by kernel_rfl) ?_
        refine q_ret (by kernel_rfl) ?_
        refine ⟨(Value.tuple #[(agg [(i64 0), (i64 0), (i64 0), (i64 0), (i64 0), (i64 0), (i64 0), (i64 0), (Value.bool false), (Value.slice none 0 0), (Value.slice none 0 0)]), (i64 (((R.bytes).2).end_))]), retv_cell_tmp rfl rfl (H651.loads (by kernel_rfl)) rfl, ?_⟩
        exact ⟨(⟨0, 0, 0, 0, 0, 0, 0, 0, false, [], []⟩ : MsgP), none, none, 0, 0, ((R.bytes).2).end_, rfl, K653, ⟨by (try simp only); omega, by (try simp only); omega, by (try simp only); omega, by (try simp only); omega, by (try simp only); omega, by (try simp only); omega, by (try simp only); omega, by (try simp only); omega, fun x hx => by cases hx⟩, by unfold unmsgB; rw [if_neg (by omega), if_pos (by rw [hmd]; omega), hmd]; rfl, (Rd.nil _ _), (fun x hx => by cases hx), (Rd.nil _ _)⟩
      · rw [h648]
        have p661 : ((R.bytes).2).end_ = 0 := of_bne_f h648
        refine q_skip (by kernel_rfl) ?_
        refine q_seq (by kernel_rfl) ?_
        refine q_region (by kernel_rfl) ?_
        refine Ops.regs 1 [(2, (Value.pointer (some ⟨b1, 0, none⟩))), (3, (i64 0)), (5, (Value.pointer (some ⟨b29, 0, none⟩))), (7, (Value.pointer (some ⟨b191, 0, none⟩))), (10, (Value.func (Fn.func 77) ⟨[]⟩ ⟨[]⟩))] (j := 1) (by kernel_rfl) (by kernel_rfl) ?_
        refine Ops.done (by kernel_rfl) ?_
        refine q_seq (by kernel_rfl) ?_
        refine q_seq (by kernel_rfl) ?_
        refine q_region (by kernel_rfl) ?_
        refine Ops.regs 2 [(2, (Value.pointer (some ⟨b1, 0, none⟩))), (3, (i64 0)), (5, (Value.pointer (some ⟨b29, 0, none⟩))), (7, (Value.pointer (some ⟨b191, 0, none⟩))), (10, (Value.func (Fn.func 77) ⟨[]⟩ ⟨[]⟩)), (65, (Value.func (Fn.func 77) ⟨[]⟩ ⟨[]⟩)), (66, (Value.pointer (some ⟨b29, 0, none⟩)))] (j := 2) (by kernel_rfl) (by kernel_rfl) ?_
        refine Ops.go (v := (i64 (((⟨bs, 0, 0⟩ : Rdr).int).1))) (by kernel_rfl) (Runs.load (t := 2) (a := ⟨b29, 0, none⟩) (by kernel_rfl) (H642.loads (by kernel_rfl))) (d := (some 67)) (by kernel_rfl) rfl ?_
        refine Ops.call (by kernel_rfl) (d := (some 68)) (by kernel_rfl) (in_calls _ (((⟨bs, 0, 0⟩ : Rdr).int).1) 1 6) ?_
        rintro _ _ ⟨t662, rfl, ht663, rfl⟩
        refine ⟨_, _, rfl, rfl, ?_⟩
        refine Ops.regs 2 [(2, (Value.pointer (some ⟨b1, 0, none⟩))), (3, (i64 0)), (5, (Value.pointer (some ⟨b29, 0, none⟩))), (7, (Value.pointer (some ⟨b191, 0, none⟩))), (10, (Value.func (Fn.func 77) ⟨[]⟩ ⟨[]⟩)), (70, (Value.bool (!t662)))] (j := 6) (by kernel_rfl) (by kernel_rfl) ?_
        refine Ops.split (!t662) (fun h664 => ?_) (fun h664 => ?_)
        · rw [h664]
          have p665 : t662 = false := (bnot_true h664)
          try rw [p665]
          have hin666 : ¬ (1 ≤ ((⟨bs, 0, 0⟩ : Rdr).int).1 ∧ ((⟨bs, 0, 0⟩ : Rdr).int).1 ≤ 6) := fun q => by have q := ht663.2 q; rw [(bnot_true h664)] at q; cases q
          refine Ops.regs 20 [(2, (Value.pointer (some ⟨b1, 0, none⟩))), (3, (i64 0)), (5, (Value.pointer (some ⟨b29, 0, none⟩))), (7, (Value.pointer (some ⟨b191, 0, none⟩))), (90, (Value.bool true))] (j := 26) (by kernel_rfl) (by kernel_rfl) ?_
          refine Ops.done (by kernel_rfl) ?_
          refine q_then (o := .tmp 90) (by kernel_rfl) rfl ?_
          refine q_seq (by kernel_rfl) ?_
          refine q_region (by kernel_rfl) ?_
          refine Ops.regs 1 [(2, (Value.pointer (some ⟨b1, 0, none⟩))), (3, (i64 0)), (5, (Value.pointer (some ⟨b29, 0, none⟩))), (7, (Value.pointer (some ⟨b191, 0, none⟩))), (91, (agg [(i64 0), (i64 0), (i64 0), (i64 0), (i64 0), (i64 0), (i64 0), (i64 0), (Value.bool false), (Value.slice none 0 0), (Value.slice none 0 0)]))] (j := 1) (by kernel_rfl) (by kernel_rfl) ?_
          refine Ops.put (t := 49) (b := b1) (off := 0) (v := (agg [(i64 0), (i64 0), (i64 0), (i64 0), (i64 0), (i64 0), (i64 0), (i64 0), (Value.bool false), (Value.slice none 0 0), (Value.slice none 0 0)])) (ys := [(i64 0), (i64 0), (i64 0), (i64 0), (i64 0), (i64 0), (i64 0), (i64 0), (Value.bool false), (Value.slice none 0 0), (Value.slice none 0 0)]) (by kernel_rfl) (by kernel_rfl) H640 (by kernel_rfl) (d := none) (by kernel_rfl) rfl (fun w667 H668 K669 => ?_)
          clear H640
          have K670 := K639.trans K669 (U := none_) (fun i h1 h2 => h2) (fun i h1 h2 => by have h2 : i = b1 := h2; exfalso; omega)
          clear K639
          have H671 := H641.keep K669 (by intro h; change b15 = b1 at h; omega)
          clear H641
          have H672 := H642.keep K669 (by intro h; change b29 = b1 at h; omega)
          clear H642
          have H673 := H643.keep K669 (by intro h; change b191 = b1 at h; omega)
          clear H643
          have F674 := RdO.keep F644 K669 (fun i _ _ hi hs => by have hs : i = b1 := hs; have := ob26 i _ _ hi; omega)
          clear F644
          have F675 := own_keep F645 K669 (fun i hi hs => by have hs : i = b1 := hs; have := obVb1 i hi; omega)
          clear F645
          have F676 := EntsMine.keep2 F646 K669 (fun x hx i o s hA hs => by have hs : i = b1 := hs; exact oeb1 x hx i o s hA hs)
          clear F646
          have F677 := own_keep F647 K669 (fun i hi hs => by have hs : i = b1 := hs; have := ob607 i hi; omega)
          clear F647
          clear K669
          refine Ops.regs 1 [(2, (Value.pointer (some ⟨b1, 0, none⟩))), (3, (i64 1)), (5, (Value.pointer (some ⟨b29, 0, none⟩))), (7, (Value.pointer (some ⟨b191, 0, none⟩)))] (j := 3) (by kernel_rfl) (by kernel_rfl) ?_
          refine Ops.done (by kernel_rfl) ?_
          refine q_ret (by kernel_rfl) ?_
          refine ⟨(Value.tuple #[(agg [(i64 0), (i64 0), (i64 0), (i64 0), (i64 0), (i64 0), (i64 0), (i64 0), (Value.bool false), (Value.slice none 0 0), (Value.slice none 0 0)]), (i64 1)]), retv_cell_tmp rfl rfl (H668.loads (by kernel_rfl)) rfl, ?_⟩
          exact ⟨(⟨0, 0, 0, 0, 0, 0, 0, 0, false, [], []⟩ : MsgP), none, none, 0, 0, 1, rfl, K670, ⟨by (try simp only); omega, by (try simp only); omega, by (try simp only); omega, by (try simp only); omega, by (try simp only); omega, by (try simp only); omega, by (try simp only); omega, by (try simp only); omega, fun x hx => by cases hx⟩, by unfold unmsgB; rw [if_neg (by omega), if_neg (by rw [hmd]; omega), if_neg (fun q => by unfold Rdr.mfit at q; simp only [Rdr.mint, Rdr.nth] at q; omega)]; rfl, (Rd.nil _ _), (fun x hx => by cases hx), (Rd.nil _ _)⟩
        · rw [h664]
          have p678 : t662 = true := (bnot_false h664)
          try rw [p678]
          have hin679 := ht663.1 (bnot_false h664)
          refine Ops.regs 2 [(2, (Value.pointer (some ⟨b1, 0, none⟩))), (3, (i64 0)), (5, (Value.pointer (some ⟨b29, 0, none⟩))), (7, (Value.pointer (some ⟨b191, 0, none⟩))), (10, (Value.func (Fn.func 77) ⟨[]⟩ ⟨[]⟩)), (70, (Value.bool false)), (71, (Value.func (Fn.func 77) ⟨[]⟩ ⟨[]⟩)), (72, (Value.pointer (some ⟨b29, 1, none⟩)))] (j := 8) (by kernel_rfl) (by kernel_rfl) ?_
          refine Ops.go (v := (i64 (((((⟨bs, 0, 0⟩ : Rdr).int).2).int).1))) (by kernel_rfl) (Runs.load (t := 2) (a := ⟨b29, 1, none⟩) (by kernel_rfl) (H642.loads (by kernel_rfl))) (d := (some 73)) (by kernel_rfl) rfl ?_
          refine Ops.call (by kernel_rfl) (d := (some 74)) (by kernel_rfl) (in_calls _ (((((⟨bs, 0, 0⟩ : Rdr).int).2).int).1) 0 3) ?_
          rintro _ _ ⟨t680, rfl, ht681, rfl⟩
          refine ⟨_, _, rfl, rfl, ?_⟩
          refine Ops.regs 3 [(2, (Value.pointer (some ⟨b1, 0, none⟩))), (3, (i64 0)), (5, (Value.pointer (some ⟨b29, 0, none⟩))), (7, (Value.pointer (some ⟨b191, 0, none⟩))), (10, (Value.func (Fn.func 77) ⟨[]⟩ ⟨[]⟩)), (77, (Value.bool (!t680)))] (j := 13) (by kernel_rfl) (by kernel_rfl) ?_
          refine Ops.split (!t680) (fun h682 => ?_) (fun h682 => ?_)
          · rw [h682]
            have p683 : t680 = false := (bnot_true h682)
            try rw [p683]
            have hin684 : ¬ (0 ≤ ((((⟨bs, 0, 0⟩ : Rdr).int).2).int).1 ∧ ((((⟨bs, 0, 0⟩ : Rdr).int).2).int).1 ≤ 3) := fun q => by have q := ht681.2 q; rw [(bnot_true h682)] at q; cases q
            refine Ops.regs 13 [(2, (Value.pointer (some ⟨b1, 0, none⟩))), (3, (i64 0)), (5, (Value.pointer (some ⟨b29, 0, none⟩))), (7, (Value.pointer (some ⟨b191, 0, none⟩))), (90, (Value.bool true))] (j := 26) (by kernel_rfl) (by kernel_rfl) ?_
            refine Ops.done (by kernel_rfl) ?_
            refine q_then (o := .tmp 90) (by kernel_rfl) rfl ?_
            refine q_seq (by kernel_rfl) ?_
            refine q_region (by kernel_rfl) ?_
            refine Ops.regs 1 [(2, (Value.pointer (some ⟨b1, 0, none⟩))), (3, (i64 0)), (5, (Value.pointer (some ⟨b29, 0, none⟩))), (7, (Value.pointer (some ⟨b191, 0, none⟩))), (91, (agg [(i64 0), (i64 0), (i64 0), (i64 0), (i64 0), (i64 0), (i64 0), (i64 0), (Value.bool false), (Value.slice none 0 0), (Value.slice none 0 0)]))] (j := 1) (by kernel_rfl) (by kernel_rfl) ?_
            refine Ops.put (t := 49) (b := b1) (off := 0) (v := (agg [(i64 0), (i64 0), (i64 0), (i64 0), (i64 0), (i64 0), (i64 0), (i64 0), (Value.bool false), (Value.slice none 0 0), (Value.slice none 0 0)])) (ys := [(i64 0), (i64 0), (i64 0), (i64 0), (i64 0), (i64 0), (i64 0), (i64 0), (Value.bool false), (Value.slice none 0 0), (Value.slice none 0 0)]) (by kernel_rfl) (by kernel_rfl) H640 (by kernel_rfl) (d := none) (by kernel_rfl) rfl (fun w685 H686 K687 => ?_)
            clear H640
            have K688 := K639.trans K687 (U := none_) (fun i h1 h2 => h2) (fun i h1 h2 => by have h2 : i = b1 := h2; exfalso; omega)
            clear K639
            have H689 := H641.keep K687 (by intro h; change b15 = b1 at h; omega)
            clear H641
            have H690 := H642.keep K687 (by intro h; change b29 = b1 at h; omega)
            clear H642
            have H691 := H643.keep K687 (by intro h; change b191 = b1 at h; omega)
            clear H643
            have F692 := RdO.keep F644 K687 (fun i _ _ hi hs => by have hs : i = b1 := hs; have := ob26 i _ _ hi; omega)
            clear F644
            have F693 := own_keep F645 K687 (fun i hi hs => by have hs : i = b1 := hs; have := obVb1 i hi; omega)
            clear F645
            have F694 := EntsMine.keep2 F646 K687 (fun x hx i o s hA hs => by have hs : i = b1 := hs; exact oeb1 x hx i o s hA hs)
            clear F646
            have F695 := own_keep F647 K687 (fun i hi hs => by have hs : i = b1 := hs; have := ob607 i hi; omega)
            clear F647
            clear K687
            refine Ops.regs 1 [(2, (Value.pointer (some ⟨b1, 0, none⟩))), (3, (i64 1)), (5, (Value.pointer (some ⟨b29, 0, none⟩))), (7, (Value.pointer (some ⟨b191, 0, none⟩)))] (j := 3) (by kernel_rfl) (by kernel_rfl) ?_
            refine Ops.done (by kernel_rfl) ?_
            refine q_ret (by kernel_rfl) ?_
            refine ⟨(Value.tuple #[(agg [(i64 0), (i64 0), (i64 0), (i64 0), (i64 0), (i64 0), (i64 0), (i64 0), (Value.bool false), (Value.slice none 0 0), (Value.slice none 0 0)]), (i64 1)]), retv_cell_tmp rfl rfl (H686.loads (by kernel_rfl)) rfl, ?_⟩
            exact ⟨(⟨0, 0, 0, 0, 0, 0, 0, 0, false, [], []⟩ : MsgP), none, none, 0, 0, 1, rfl, K688, ⟨by (try simp only); omega, by (try simp only); omega, by (try simp only); omega, by (try simp only); omega, by (try simp only); omega, by (try simp only); omega, by (try simp only); omega, by (try simp only); omega, fun x hx => by cases hx⟩, by unfold unmsgB; rw [if_neg (by omega), if_neg (by rw [hmd]; omega), if_neg (fun q => by unfold Rdr.mfit at q; simp only [Rdr.mint, Rdr.nth] at q; omega)]; rfl, (Rd.nil _ _), (fun x hx => by cases hx), (Rd.nil _ _)⟩
          · rw [h682]
            have p696 : t680 = true := (bnot_false h682)
            try rw [p696]
            have hin697 := ht681.1 (bnot_false h682)
            refine Ops.regs 2 [(2, (Value.pointer (some ⟨b1, 0, none⟩))), (3, (i64 0)), (5, (Value.pointer (some ⟨b29, 0, none⟩))), (7, (Value.pointer (some ⟨b191, 0, none⟩))), (10, (Value.func (Fn.func 77) ⟨[]⟩ ⟨[]⟩)), (77, (Value.bool false)), (78, (Value.func (Fn.func 77) ⟨[]⟩ ⟨[]⟩)), (79, (Value.pointer (some ⟨b29, 2, none⟩)))] (j := 15) (by kernel_rfl) (by kernel_rfl) ?_
            refine Ops.go (v := (i64 (((((((⟨bs, 0, 0⟩ : Rdr).int).2).int).2).int).1))) (by kernel_rfl) (Runs.load (t := 2) (a := ⟨b29, 2, none⟩) (by kernel_rfl) (H642.loads (by kernel_rfl))) (d := (some 80)) (by kernel_rfl) rfl ?_
            refine Ops.call (by kernel_rfl) (d := (some 81)) (by kernel_rfl) (in_calls _ (((((((⟨bs, 0, 0⟩ : Rdr).int).2).int).2).int).1) 0 4) ?_
            rintro _ _ ⟨t698, rfl, ht699, rfl⟩
            refine ⟨_, _, rfl, rfl, ?_⟩
            refine Ops.regs 3 [(2, (Value.pointer (some ⟨b1, 0, none⟩))), (3, (i64 0)), (5, (Value.pointer (some ⟨b29, 0, none⟩))), (7, (Value.pointer (some ⟨b191, 0, none⟩))), (10, (Value.func (Fn.func 77) ⟨[]⟩ ⟨[]⟩)), (84, (Value.bool (!t698)))] (j := 20) (by kernel_rfl) (by kernel_rfl) ?_
            refine Ops.split (!t698) (fun h700 => ?_) (fun h700 => ?_)
            · rw [h700]
              have p701 : t698 = false := (bnot_true h700)
              try rw [p701]
              have hin702 : ¬ (0 ≤ ((((((⟨bs, 0, 0⟩ : Rdr).int).2).int).2).int).1 ∧ ((((((⟨bs, 0, 0⟩ : Rdr).int).2).int).2).int).1 ≤ 4) := fun q => by have q := ht699.2 q; rw [(bnot_true h700)] at q; cases q
              refine Ops.regs 6 [(2, (Value.pointer (some ⟨b1, 0, none⟩))), (3, (i64 0)), (5, (Value.pointer (some ⟨b29, 0, none⟩))), (7, (Value.pointer (some ⟨b191, 0, none⟩))), (90, (Value.bool true))] (j := 26) (by kernel_rfl) (by kernel_rfl) ?_
              refine Ops.done (by kernel_rfl) ?_
              refine q_then (o := .tmp 90) (by kernel_rfl) rfl ?_
              refine q_seq (by kernel_rfl) ?_
              refine q_region (by kernel_rfl) ?_
              refine Ops.regs 1 [(2, (Value.pointer (some ⟨b1, 0, none⟩))), (3, (i64 0)), (5, (Value.pointer (some ⟨b29, 0, none⟩))), (7, (Value.pointer (some ⟨b191, 0, none⟩))), (91, (agg [(i64 0), (i64 0), (i64 0), (i64 0), (i64 0), (i64 0), (i64 0), (i64 0), (Value.bool false), (Value.slice none 0 0), (Value.slice none 0 0)]))] (j := 1) (by kernel_rfl) (by kernel_rfl) ?_
              refine Ops.put (t := 49) (b := b1) (off := 0) (v := (agg [(i64 0), (i64 0), (i64 0), (i64 0), (i64 0), (i64 0), (i64 0), (i64 0), (Value.bool false), (Value.slice none 0 0), (Value.slice none 0 0)])) (ys := [(i64 0), (i64 0), (i64 0), (i64 0), (i64 0), (i64 0), (i64 0), (i64 0), (Value.bool false), (Value.slice none 0 0), (Value.slice none 0 0)]) (by kernel_rfl) (by kernel_rfl) H640 (by kernel_rfl) (d := none) (by kernel_rfl) rfl (fun w703 H704 K705 => ?_)
              clear H640
              have K706 := K639.trans K705 (U := none_) (fun i h1 h2 => h2) (fun i h1 h2 => by have h2 : i = b1 := h2; exfalso; omega)
              clear K639
              have H707 := H641.keep K705 (by intro h; change b15 = b1 at h; omega)
              clear H641
              have H708 := H642.keep K705 (by intro h; change b29 = b1 at h; omega)
              clear H642
              have H709 := H643.keep K705 (by intro h; change b191 = b1 at h; omega)
              clear H643
              have F710 := RdO.keep F644 K705 (fun i _ _ hi hs => by have hs : i = b1 := hs; have := ob26 i _ _ hi; omega)
              clear F644
              have F711 := own_keep F645 K705 (fun i hi hs => by have hs : i = b1 := hs; have := obVb1 i hi; omega)
              clear F645
              have F712 := EntsMine.keep2 F646 K705 (fun x hx i o s hA hs => by have hs : i = b1 := hs; exact oeb1 x hx i o s hA hs)
              clear F646
              have F713 := own_keep F647 K705 (fun i hi hs => by have hs : i = b1 := hs; have := ob607 i hi; omega)
              clear F647
              clear K705
              refine Ops.regs 1 [(2, (Value.pointer (some ⟨b1, 0, none⟩))), (3, (i64 1)), (5, (Value.pointer (some ⟨b29, 0, none⟩))), (7, (Value.pointer (some ⟨b191, 0, none⟩)))] (j := 3) (by kernel_rfl) (by kernel_rfl) ?_
              refine Ops.done (by kernel_rfl) ?_
              refine q_ret (by kernel_rfl) ?_
              refine ⟨(Value.tuple #[(agg [(i64 0), (i64 0), (i64 0), (i64 0), (i64 0), (i64 0), (i64 0), (i64 0), (Value.bool false), (Value.slice none 0 0), (Value.slice none 0 0)]), (i64 1)]), retv_cell_tmp rfl rfl (H704.loads (by kernel_rfl)) rfl, ?_⟩
              exact ⟨(⟨0, 0, 0, 0, 0, 0, 0, 0, false, [], []⟩ : MsgP), none, none, 0, 0, 1, rfl, K706, ⟨by (try simp only); omega, by (try simp only); omega, by (try simp only); omega, by (try simp only); omega, by (try simp only); omega, by (try simp only); omega, by (try simp only); omega, by (try simp only); omega, fun x hx => by cases hx⟩, by unfold unmsgB; rw [if_neg (by omega), if_neg (by rw [hmd]; omega), if_neg (fun q => by unfold Rdr.mfit at q; simp only [Rdr.mint, Rdr.nth] at q; omega)]; rfl, (Rd.nil _ _), (fun x hx => by cases hx), (Rd.nil _ _)⟩
            · rw [h700]
              have p714 : t698 = true := (bnot_false h700)
              try rw [p714]
              have hin715 := ht699.1 (bnot_false h700)
              refine Ops.regs 2 [(2, (Value.pointer (some ⟨b1, 0, none⟩))), (3, (i64 0)), (5, (Value.pointer (some ⟨b29, 0, none⟩))), (7, (Value.pointer (some ⟨b191, 0, none⟩))), (84, (Value.bool false)), (85, (Value.func (Fn.func 77) ⟨[]⟩ ⟨[]⟩)), (86, (Value.pointer (some ⟨b29, 3, none⟩)))] (j := 22) (by kernel_rfl) (by kernel_rfl) ?_
              refine Ops.go (v := (i64 (((((((((⟨bs, 0, 0⟩ : Rdr).int).2).int).2).int).2).int).1))) (by kernel_rfl) (Runs.load (t := 2) (a := ⟨b29, 3, none⟩) (by kernel_rfl) (H642.loads (by kernel_rfl))) (d := (some 87)) (by kernel_rfl) rfl ?_
              refine Ops.call (by kernel_rfl) (d := (some 88)) (by kernel_rfl) (in_calls _ (((((((((⟨bs, 0, 0⟩ : Rdr).int).2).int).2).int).2).int).1) 0 4) ?_
              rintro _ _ ⟨t716, rfl, ht717, rfl⟩
              refine ⟨_, _, rfl, rfl, ?_⟩
              refine Ops.regs 2 [(2, (Value.pointer (some ⟨b1, 0, none⟩))), (3, (i64 0)), (5, (Value.pointer (some ⟨b29, 0, none⟩))), (7, (Value.pointer (some ⟨b191, 0, none⟩))), (90, (Value.bool (!t716)))] (j := 26) (by kernel_rfl) (by kernel_rfl) ?_
              refine Ops.done (by kernel_rfl) ?_
              refine q_cond (o := .tmp 90) (b := (!t716)) (by kernel_rfl) rfl (fun h718 => ?_) (fun h718 => ?_)
              · rw [h718]
                have p719 : t716 = false := (bnot_true h718)
                try rw [p719]
                have hin720 : ¬ (0 ≤ ((((((((⟨bs, 0, 0⟩ : Rdr).int).2).int).2).int).2).int).1 ∧ ((((((((⟨bs, 0, 0⟩ : Rdr).int).2).int).2).int).2).int).1 ≤ 4) := fun q => by have q := ht717.2 q; rw [(bnot_true h718)] at q; cases q
                refine q_seq (by kernel_rfl) ?_
                refine q_region (by kernel_rfl) ?_
                refine Ops.regs 1 [(2, (Value.pointer (some ⟨b1, 0, none⟩))), (3, (i64 0)), (5, (Value.pointer (some ⟨b29, 0, none⟩))), (7, (Value.pointer (some ⟨b191, 0, none⟩))), (91, (agg [(i64 0), (i64 0), (i64 0), (i64 0), (i64 0), (i64 0), (i64 0), (i64 0), (Value.bool false), (Value.slice none 0 0), (Value.slice none 0 0)]))] (j := 1) (by kernel_rfl) (by kernel_rfl) ?_
                refine Ops.put (t := 49) (b := b1) (off := 0) (v := (agg [(i64 0), (i64 0), (i64 0), (i64 0), (i64 0), (i64 0), (i64 0), (i64 0), (Value.bool false), (Value.slice none 0 0), (Value.slice none 0 0)])) (ys := [(i64 0), (i64 0), (i64 0), (i64 0), (i64 0), (i64 0), (i64 0), (i64 0), (Value.bool false), (Value.slice none 0 0), (Value.slice none 0 0)]) (by kernel_rfl) (by kernel_rfl) H640 (by kernel_rfl) (d := none) (by kernel_rfl) rfl (fun w721 H722 K723 => ?_)
                clear H640
                have K724 := K639.trans K723 (U := none_) (fun i h1 h2 => h2) (fun i h1 h2 => by have h2 : i = b1 := h2; exfalso; omega)
                clear K639
                have H725 := H641.keep K723 (by intro h; change b15 = b1 at h; omega)
                clear H641
                have H726 := H642.keep K723 (by intro h; change b29 = b1 at h; omega)
                clear H642
                have H727 := H643.keep K723 (by intro h; change b191 = b1 at h; omega)
                clear H643
                have F728 := RdO.keep F644 K723 (fun i _ _ hi hs => by have hs : i = b1 := hs; have := ob26 i _ _ hi; omega)
                clear F644
                have F729 := own_keep F645 K723 (fun i hi hs => by have hs : i = b1 := hs; have := obVb1 i hi; omega)
                clear F645
                have F730 := EntsMine.keep2 F646 K723 (fun x hx i o s hA hs => by have hs : i = b1 := hs; exact oeb1 x hx i o s hA hs)
                clear F646
                have F731 := own_keep F647 K723 (fun i hi hs => by have hs : i = b1 := hs; have := ob607 i hi; omega)
                clear F647
                clear K723
                refine Ops.regs 1 [(2, (Value.pointer (some ⟨b1, 0, none⟩))), (3, (i64 1)), (5, (Value.pointer (some ⟨b29, 0, none⟩))), (7, (Value.pointer (some ⟨b191, 0, none⟩)))] (j := 3) (by kernel_rfl) (by kernel_rfl) ?_
                refine Ops.done (by kernel_rfl) ?_
                refine q_ret (by kernel_rfl) ?_
                refine ⟨(Value.tuple #[(agg [(i64 0), (i64 0), (i64 0), (i64 0), (i64 0), (i64 0), (i64 0), (i64 0), (Value.bool false), (Value.slice none 0 0), (Value.slice none 0 0)]), (i64 1)]), retv_cell_tmp rfl rfl (H722.loads (by kernel_rfl)) rfl, ?_⟩
                exact ⟨(⟨0, 0, 0, 0, 0, 0, 0, 0, false, [], []⟩ : MsgP), none, none, 0, 0, 1, rfl, K724, ⟨by (try simp only); omega, by (try simp only); omega, by (try simp only); omega, by (try simp only); omega, by (try simp only); omega, by (try simp only); omega, by (try simp only); omega, by (try simp only); omega, fun x hx => by cases hx⟩, by unfold unmsgB; rw [if_neg (by omega), if_neg (by rw [hmd]; omega), if_neg (fun q => by unfold Rdr.mfit at q; simp only [Rdr.mint, Rdr.nth] at q; omega)]; rfl, (Rd.nil _ _), (fun x hx => by cases hx), (Rd.nil _ _)⟩
              · rw [h718]
                have p732 : t716 = true := (bnot_false h718)
                try rw [p732]
                have hin733 := ht717.1 (bnot_false h718)
                refine q_skip (by kernel_rfl) ?_
                refine q_seq (by kernel_rfl) ?_
                refine q_draw (fun wz => Keeps (fun i => i = b191) w637 wz) 16 (by kernel_rfl) (by kernel_rfl) (by kernel_rfl) (fun w734 K735 _ _ => ⟨(K735.mono (fun _ _ h => h.elim)), ?_⟩)
                have K736 := K639.trans K735 (U := none_) (fun i h1 h2 => h2) (fun i h1 h2 => by exact h2)
                clear K639
                have H737 := H640.keep K735 (fun h => h)
                clear H640
                have H738 := H641.keep K735 (fun h => h)
                clear H641
                have H739 := H642.keep K735 (fun h => h)
                clear H642
                have H740 := H643.keep K735 (fun h => h)
                clear H643
                have F741 := RdO.keep0 F644 K735
                clear F644
                have F742 := own_keep0 F645 K735
                clear F645
                have F743 := F646.keep2 K735 (fun _ _ _ _ _ _ h => h)
                clear F646
                have F744 := own_keep0 F647 K735
                clear F647
                refine Dr.strong (S' := (fun wz => Keeps (fun i => i = b191) w734 wz)) ((Keeps.refl w734).mono (fun _ _ h => h.elim)) (fun wz hx => K735.trans hx (fun i _ h => h.elim) (fun _ _ h => h)) ?_
                clear K735
                refine Dr.takes (fuel' := 15) (is' := [0]) [0] [(2, (Value.pointer (some ⟨b1, 0, none⟩))), (3, (i64 0)), (5, (Value.pointer (some ⟨b29, 0, none⟩))), (7, (Value.pointer (some ⟨b191, 0, none⟩))), (92, (Value.pointer (some ⟨b29, 0, none⟩)))] (by kernel_rfl) rfl (by kernel_rfl) ?_
                refine Dr.take (i := 1) (v := (i64 (((⟨bs, 0, 0⟩ : Rdr).int).1))) (by kernel_rfl) (by kernel_rfl) (fun wz hS => Runs.load (t := 2) (a := ⟨b29, 0, none⟩) (by kernel_rfl) ((H739.keep hS (by intro h; change b29 = b191 at h; omega)).loads (by kernel_rfl))) (d := (some 93)) (by kernel_rfl) rfl ?_
                refine Dr.takes (fuel' := 13) (is' := [2, 1, 0]) [2] [(2, (Value.pointer (some ⟨b1, 0, none⟩))), (3, (i64 0)), (5, (Value.pointer (some ⟨b29, 0, none⟩))), (7, (Value.pointer (some ⟨b191, 0, none⟩))), (93, (i64 (((⟨bs, 0, 0⟩ : Rdr).int).1))), (94, (Value.pointer (some ⟨b29, 1, none⟩)))] (by kernel_rfl) rfl (by kernel_rfl) ?_
                refine Dr.take (i := 3) (v := (i64 (((((⟨bs, 0, 0⟩ : Rdr).int).2).int).1))) (by kernel_rfl) (by kernel_rfl) (fun wz hS => Runs.load (t := 2) (a := ⟨b29, 1, none⟩) (by kernel_rfl) ((H739.keep hS (by intro h; change b29 = b191 at h; omega)).loads (by kernel_rfl))) (d := (some 95)) (by kernel_rfl) rfl ?_
                refine Dr.takes (fuel' := 11) (is' := [4, 3, 2, 1, 0]) [4] [(2, (Value.pointer (some ⟨b1, 0, none⟩))), (3, (i64 0)), (5, (Value.pointer (some ⟨b29, 0, none⟩))), (7, (Value.pointer (some ⟨b191, 0, none⟩))), (93, (i64 (((⟨bs, 0, 0⟩ : Rdr).int).1))), (95, (i64 (((((⟨bs, 0, 0⟩ : Rdr).int).2).int).1))), (96, (Value.pointer (some ⟨b29, 2, none⟩)))] (by kernel_rfl) rfl (by kernel_rfl) ?_
                refine Dr.take (i := 5) (v := (i64 (((((((⟨bs, 0, 0⟩ : Rdr).int).2).int).2).int).1))) (by kernel_rfl) (by kernel_rfl) (fun wz hS => Runs.load (t := 2) (a := ⟨b29, 2, none⟩) (by kernel_rfl) ((H739.keep hS (by intro h; change b29 = b191 at h; omega)).loads (by kernel_rfl))) (d := (some 97)) (by kernel_rfl) rfl ?_
                refine Dr.takes (fuel' := 9) (is' := [6, 5, 4, 3, 2, 1, 0]) [6] [(2, (Value.pointer (some ⟨b1, 0, none⟩))), (3, (i64 0)), (7, (Value.pointer (some ⟨b191, 0, none⟩))), (93, (i64 (((⟨bs, 0, 0⟩ : Rdr).int).1))), (95, (i64 (((((⟨bs, 0, 0⟩ : Rdr).int).2).int).1))), (97, (i64 (((((((⟨bs, 0, 0⟩ : Rdr).int).2).int).2).int).1))), (98, (Value.pointer (some ⟨b29, 3, none⟩)))] (by kernel_rfl) rfl (by kernel_rfl) ?_
                refine Dr.take (i := 7) (v := (i64 (((((((((⟨bs, 0, 0⟩ : Rdr).int).2).int).2).int).2).int).1))) (by kernel_rfl) (by kernel_rfl) (fun wz hS => Runs.load (t := 2) (a := ⟨b29, 3, none⟩) (by kernel_rfl) ((H739.keep hS (by intro h; change b29 = b191 at h; omega)).loads (by kernel_rfl))) (d := (some 99)) (by kernel_rfl) rfl ?_
                refine Dr.takes (fuel' := 7) (is' := [8, 7, 6, 5, 4, 3, 2, 1, 0]) [8] [(2, (Value.pointer (some ⟨b1, 0, none⟩))), (3, (i64 0)), (7, (Value.pointer (some ⟨b191, 0, none⟩))), (93, (i64 (((⟨bs, 0, 0⟩ : Rdr).int).1))), (95, (i64 (((((⟨bs, 0, 0⟩ : Rdr).int).2).int).1))), (97, (i64 (((((((⟨bs, 0, 0⟩ : Rdr).int).2).int).2).int).1))), (99, (i64 (((((((((⟨bs, 0, 0⟩ : Rdr).int).2).int).2).int).2).int).1))), (100, (Value.pointer (some ⟨b191, 0, none⟩)))] (by kernel_rfl) rfl (by kernel_rfl) ?_
                refine Dr.put (i := 9) (t := 3) (b := b191) (off := 0) (v := (i64 (((⟨bs, 0, 0⟩ : Rdr).int).1))) (ys := [(i64 (((⟨bs, 0, 0⟩ : Rdr).int).1)), (i64 0), (i64 0), (i64 0), (i64 (((((((((((⟨bs, 0, 0⟩ : Rdr).int).2).int).2).int).2).int).2).int).1)), (i64 (((((((((((((⟨bs, 0, 0⟩ : Rdr).int).2).int).2).int).2).int).2).int).2).int).1)), (i64 (((((((((((((((⟨bs, 0, 0⟩ : Rdr).int).2).int).2).int).2).int).2).int).2).int).2).int).1)), (i64 (((((((((((((((((⟨bs, 0, 0⟩ : Rdr).int).2).int).2).int).2).int).2).int).2).int).2).int).2).int).1)), (Value.bool (((((((((((((((((((⟨bs, 0, 0⟩ : Rdr).int).2).int).2).int).2).int).2).int).2).int).2).int).2).int).2).bool_).1)), (Value.slice VA l.length vc), (Value.slice A615 (((R.bytes).1).length) c616)]) (by kernel_rfl) (by kernel_rfl) (by kernel_rfl) H740 (by kernel_rfl) (d := none) (by kernel_rfl) rfl (fun w745 H746 K747 => ?_)
                clear H740
                have K748 := K736.trans K747 (U := none_) (fun i h1 h2 => h2) (fun i h1 h2 => by have h2 : i = b191 := h2; exfalso; omega)
                clear K736
                have H749 := H737.keep K747 (by intro h; change b1 = b191 at h; omega)
                clear H737
                have H750 := H738.keep K747 (by intro h; change b15 = b191 at h; omega)
                clear H738
                have H751 := H739.keep K747 (by intro h; change b29 = b191 at h; omega)
                clear H739
                have F752 := RdO.keep F741 K747 (fun i _ _ hi hs => by have hs : i = b191 := hs; have := ob198 i _ _ hi; omega)
                clear F741
                have F753 := own_keep F742 K747 (fun i hi hs => by have hs : i = b191 := hs; have := obVb191 i hi; omega)
                clear F742
                have F754 := EntsMine.keep2 F743 K747 (fun x hx i o s hA hs => by have hs : i = b191 := hs; exact oeb191 x hx i o s hA hs)
                clear F743
                have F755 := own_keep F744 K747 (fun i hi hs => by have hs : i = b191 := hs; have := ob610 i hi; omega)
                clear F744
                refine ⟨K747, ?_⟩
                refine Dr.strong (S' := (fun wz => Keeps (fun i => i = b191) w745 wz)) ((Keeps.refl w745).mono (fun _ _ h => h.elim)) (fun wz hx => K747.trans hx (fun i _ h => by have h : i = b191 := h; show i = b191; omega) (fun _ _ h => h)) ?_
                clear K747
                refine Dr.takes (fuel' := 5) (is' := [10, 9, 8, 7, 6, 5, 4, 3, 2, 1, 0]) [10] [(2, (Value.pointer (some ⟨b1, 0, none⟩))), (3, (i64 0)), (7, (Value.pointer (some ⟨b191, 0, none⟩))), (95, (i64 (((((⟨bs, 0, 0⟩ : Rdr).int).2).int).1))), (97, (i64 (((((((⟨bs, 0, 0⟩ : Rdr).int).2).int).2).int).1))), (99, (i64 (((((((((⟨bs, 0, 0⟩ : Rdr).int).2).int).2).int).2).int).1))), (101, (Value.pointer (some ⟨b191, 1, none⟩)))] (by kernel_rfl) rfl (by kernel_rfl) ?_
                refine Dr.put (i := 11) (t := 3) (b := b191) (off := 1) (v := (i64 (((((⟨bs, 0, 0⟩ : Rdr).int).2).int).1))) (ys := [(i64 (((⟨bs, 0, 0⟩ : Rdr).int).1)), (i64 (((((⟨bs, 0, 0⟩ : Rdr).int).2).int).1)), (i64 0), (i64 0), (i64 (((((((((((⟨bs, 0, 0⟩ : Rdr).int).2).int).2).int).2).int).2).int).1)), (i64 (((((((((((((⟨bs, 0, 0⟩ : Rdr).int).2).int).2).int).2).int).2).int).2).int).1)), (i64 (((((((((((((((⟨bs, 0, 0⟩ : Rdr).int).2).int).2).int).2).int).2).int).2).int).2).int).1)), (i64 (((((((((((((((((⟨bs, 0, 0⟩ : Rdr).int).2).int).2).int).2).int).2).int).2).int).2).int).2).int).1)), (Value.bool (((((((((((((((((((⟨bs, 0, 0⟩ : Rdr).int).2).int).2).int).2).int).2).int).2).int).2).int).2).int).2).bool_).1)), (Value.slice VA l.length vc), (Value.slice A615 (((R.bytes).1).length) c616)]) (by kernel_rfl) (by kernel_rfl) (by kernel_rfl) H746 (by kernel_rfl) (d := none) (by kernel_rfl) rfl (fun w756 H757 K758 => ?_)
                clear H746
                have K759 := K748.trans K758 (U := none_) (fun i h1 h2 => h2) (fun i h1 h2 => by have h2 : i = b191 := h2; exfalso; omega)
                clear K748
                have H760 := H749.keep K758 (by intro h; change b1 = b191 at h; omega)
                clear H749
                have H761 := H750.keep K758 (by intro h; change b15 = b191 at h; omega)
                clear H750
                have H762 := H751.keep K758 (by intro h; change b29 = b191 at h; omega)
                clear H751
                have F763 := RdO.keep F752 K758 (fun i _ _ hi hs => by have hs : i = b191 := hs; have := ob198 i _ _ hi; omega)
                clear F752
                have F764 := own_keep F753 K758 (fun i hi hs => by have hs : i = b191 := hs; have := obVb191 i hi; omega)
                clear F753
                have F765 := EntsMine.keep2 F754 K758 (fun x hx i o s hA hs => by have hs : i = b191 := hs; exact oeb191 x hx i o s hA hs)
                clear F754
                have F766 := own_keep F755 K758 (fun i hi hs => by have hs : i = b191 := hs; have := ob610 i hi; omega)
                clear F755
                refine ⟨K758, ?_⟩
                refine Dr.strong (S' := (fun wz => Keeps (fun i => i = b191) w756 wz)) ((Keeps.refl w756).mono (fun _ _ h => h.elim)) (fun wz hx => K758.trans hx (fun i _ h => by have h : i = b191 := h; show i = b191; omega) (fun _ _ h => h)) ?_
                clear K758
                refine Dr.takes (fuel' := 3) (is' := [12, 11, 10, 9, 8, 7, 6, 5, 4, 3, 2, 1, 0]) [12] [(2, (Value.pointer (some ⟨b1, 0, none⟩))), (3, (i64 0)), (7, (Value.pointer (some ⟨b191, 0, none⟩))), (97, (i64 (((((((⟨bs, 0, 0⟩ : Rdr).int).2).int).2).int).1))), (99, (i64 (((((((((⟨bs, 0, 0⟩ : Rdr).int).2).int).2).int).2).int).1))), (102, (Value.pointer (some ⟨b191, 2, none⟩)))] (by kernel_rfl) rfl (by kernel_rfl) ?_
                refine Dr.put (i := 13) (t := 3) (b := b191) (off := 2) (v := (i64 (((((((⟨bs, 0, 0⟩ : Rdr).int).2).int).2).int).1))) (ys := [(i64 (((⟨bs, 0, 0⟩ : Rdr).int).1)), (i64 (((((⟨bs, 0, 0⟩ : Rdr).int).2).int).1)), (i64 (((((((⟨bs, 0, 0⟩ : Rdr).int).2).int).2).int).1)), (i64 0), (i64 (((((((((((⟨bs, 0, 0⟩ : Rdr).int).2).int).2).int).2).int).2).int).1)), (i64 (((((((((((((⟨bs, 0, 0⟩ : Rdr).int).2).int).2).int).2).int).2).int).2).int).1)), (i64 (((((((((((((((⟨bs, 0, 0⟩ : Rdr).int).2).int).2).int).2).int).2).int).2).int).2).int).1)), (i64 (((((((((((((((((⟨bs, 0, 0⟩ : Rdr).int).2).int).2).int).2).int).2).int).2).int).2).int).2).int).1)), (Value.bool (((((((((((((((((((⟨bs, 0, 0⟩ : Rdr).int).2).int).2).int).2).int).2).int).2).int).2).int).2).int).2).bool_).1)), (Value.slice VA l.length vc), (Value.slice A615 (((R.bytes).1).length) c616)]) (by kernel_rfl) (by kernel_rfl) (by kernel_rfl) H757 (by kernel_rfl) (d := none) (by kernel_rfl) rfl (fun w767 H768 K769 => ?_)
                clear H757
                have K770 := K759.trans K769 (U := none_) (fun i h1 h2 => h2) (fun i h1 h2 => by have h2 : i = b191 := h2; exfalso; omega)
                clear K759
                have H771 := H760.keep K769 (by intro h; change b1 = b191 at h; omega)
                clear H760
                have H772 := H761.keep K769 (by intro h; change b15 = b191 at h; omega)
                clear H761
                have H773 := H762.keep K769 (by intro h; change b29 = b191 at h; omega)
                clear H762
                have F774 := RdO.keep F763 K769 (fun i _ _ hi hs => by have hs : i = b191 := hs; have := ob198 i _ _ hi; omega)
                clear F763
                have F775 := own_keep F764 K769 (fun i hi hs => by have hs : i = b191 := hs; have := obVb191 i hi; omega)
                clear F764
                have F776 := EntsMine.keep2 F765 K769 (fun x hx i o s hA hs => by have hs : i = b191 := hs; exact oeb191 x hx i o s hA hs)
                clear F765
                have F777 := own_keep F766 K769 (fun i hi hs => by have hs : i = b191 := hs; have := ob610 i hi; omega)
                clear F766
                refine ⟨K769, ?_⟩
                refine Dr.strong (S' := (fun wz => Keeps (fun i => i = b191) w767 wz)) ((Keeps.refl w767).mono (fun _ _ h => h.elim)) (fun wz hx => K769.trans hx (fun i _ h => by have h : i = b191 := h; show i = b191; omega) (fun _ _ h => h)) ?_
                clear K769
                refine Dr.takes (fuel' := 1) (is' := [14, 13, 12, 11, 10, 9, 8, 7, 6, 5, 4, 3, 2, 1, 0]) [14] [(2, (Value.pointer (some ⟨b1, 0, none⟩))), (3, (i64 0)), (7, (Value.pointer (some ⟨b191, 0, none⟩))), (99, (i64 (((((((((⟨bs, 0, 0⟩ : Rdr).int).2).int).2).int).2).int).1))), (103, (Value.pointer (some ⟨b191, 3, none⟩)))] (by kernel_rfl) rfl (by kernel_rfl) ?_
                refine Dr.put (i := 15) (t := 3) (b := b191) (off := 3) (v := (i64 (((((((((⟨bs, 0, 0⟩ : Rdr).int).2).int).2).int).2).int).1))) (ys := [(i64 (((⟨bs, 0, 0⟩ : Rdr).int).1)), (i64 (((((⟨bs, 0, 0⟩ : Rdr).int).2).int).1)), (i64 (((((((⟨bs, 0, 0⟩ : Rdr).int).2).int).2).int).1)), (i64 (((((((((⟨bs, 0, 0⟩ : Rdr).int).2).int).2).int).2).int).1)), (i64 (((((((((((⟨bs, 0, 0⟩ : Rdr).int).2).int).2).int).2).int).2).int).1)), (i64 (((((((((((((⟨bs, 0, 0⟩ : Rdr).int).2).int).2).int).2).int).2).int).2).int).1)), (i64 (((((((((((((((⟨bs, 0, 0⟩ : Rdr).int).2).int).2).int).2).int).2).int).2).int).2).int).1)), (i64 (((((((((((((((((⟨bs, 0, 0⟩ : Rdr).int).2).int).2).int).2).int).2).int).2).int).2).int).2).int).1)), (Value.bool (((((((((((((((((((⟨bs, 0, 0⟩ : Rdr).int).2).int).2).int).2).int).2).int).2).int).2).int).2).int).2).bool_).1)), (Value.slice VA l.length vc), (Value.slice A615 (((R.bytes).1).length) c616)]) (by kernel_rfl) (by kernel_rfl) (by kernel_rfl) H768 (by kernel_rfl) (d := none) (by kernel_rfl) rfl (fun w778 H779 K780 => ?_)
                clear H768
                have K781 := K770.trans K780 (U := none_) (fun i h1 h2 => h2) (fun i h1 h2 => by have h2 : i = b191 := h2; exfalso; omega)
                clear K770
                have H782 := H771.keep K780 (by intro h; change b1 = b191 at h; omega)
                clear H771
                have H783 := H772.keep K780 (by intro h; change b15 = b191 at h; omega)
                clear H772
                have H784 := H773.keep K780 (by intro h; change b29 = b191 at h; omega)
                clear H773
                have F785 := RdO.keep F774 K780 (fun i _ _ hi hs => by have hs : i = b191 := hs; have := ob198 i _ _ hi; omega)
                clear F774
                have F786 := own_keep F775 K780 (fun i hi hs => by have hs : i = b191 := hs; have := obVb191 i hi; omega)
                clear F775
                have F787 := EntsMine.keep2 F776 K780 (fun x hx i o s hA hs => by have hs : i = b191 := hs; exact oeb191 x hx i o s hA hs)
                clear F776
                have F788 := own_keep F777 K780 (fun i hi hs => by have hs : i = b191 := hs; have := ob610 i hi; omega)
                clear F777
                refine ⟨K780, ?_⟩
                refine Dr.strong (S' := (fun wz => Keeps (fun i => i = b191) w778 wz)) ((Keeps.refl w778).mono (fun _ _ h => h.elim)) (fun wz hx => K780.trans hx (fun i _ h => by have h : i = b191 := h; show i = b191; omega) (fun _ _ h => h)) ?_
                clear K780
                refine Dr.done (by kernel_rfl) ?_
                refine q_seq (by kernel_rfl) ?_
                refine q_region (by kernel_rfl) ?_
                refine Ops.go (v := (agg [(i64 (((⟨bs, 0, 0⟩ : Rdr).int).1)), (i64 (((((⟨bs, 0, 0⟩ : Rdr).int).2).int).1)), (i64 (((((((⟨bs, 0, 0⟩ : Rdr).int).2).int).2).int).1)), (i64 (((((((((⟨bs, 0, 0⟩ : Rdr).int).2).int).2).int).2).int).1)), (i64 (((((((((((⟨bs, 0, 0⟩ : Rdr).int).2).int).2).int).2).int).2).int).1)), (i64 (((((((((((((⟨bs, 0, 0⟩ : Rdr).int).2).int).2).int).2).int).2).int).2).int).1)), (i64 (((((((((((((((⟨bs, 0, 0⟩ : Rdr).int).2).int).2).int).2).int).2).int).2).int).2).int).1)), (i64 (((((((((((((((((⟨bs, 0, 0⟩ : Rdr).int).2).int).2).int).2).int).2).int).2).int).2).int).2).int).1)), (Value.bool (((((((((((((((((((⟨bs, 0, 0⟩ : Rdr).int).2).int).2).int).2).int).2).int).2).int).2).int).2).int).2).bool_).1)), (Value.slice VA l.length vc), (Value.slice A615 (((R.bytes).1).length) c616)])) (by kernel_rfl) (Runs.load (t := 49) (a := ⟨b191, 0, none⟩) (by kernel_rfl) (H779.loads (by kernel_rfl))) (d := (some 104)) (by kernel_rfl) rfl ?_
                refine Ops.put (t := 49) (b := b1) (off := 0) (v := (agg [(i64 (((⟨bs, 0, 0⟩ : Rdr).int).1)), (i64 (((((⟨bs, 0, 0⟩ : Rdr).int).2).int).1)), (i64 (((((((⟨bs, 0, 0⟩ : Rdr).int).2).int).2).int).1)), (i64 (((((((((⟨bs, 0, 0⟩ : Rdr).int).2).int).2).int).2).int).1)), (i64 (((((((((((⟨bs, 0, 0⟩ : Rdr).int).2).int).2).int).2).int).2).int).1)), (i64 (((((((((((((⟨bs, 0, 0⟩ : Rdr).int).2).int).2).int).2).int).2).int).2).int).1)), (i64 (((((((((((((((⟨bs, 0, 0⟩ : Rdr).int).2).int).2).int).2).int).2).int).2).int).2).int).1)), (i64 (((((((((((((((((⟨bs, 0, 0⟩ : Rdr).int).2).int).2).int).2).int).2).int).2).int).2).int).2).int).1)), (Value.bool (((((((((((((((((((⟨bs, 0, 0⟩ : Rdr).int).2).int).2).int).2).int).2).int).2).int).2).int).2).int).2).bool_).1)), (Value.slice VA l.length vc), (Value.slice A615 (((R.bytes).1).length) c616)])) (ys := [(i64 (((⟨bs, 0, 0⟩ : Rdr).int).1)), (i64 (((((⟨bs, 0, 0⟩ : Rdr).int).2).int).1)), (i64 (((((((⟨bs, 0, 0⟩ : Rdr).int).2).int).2).int).1)), (i64 (((((((((⟨bs, 0, 0⟩ : Rdr).int).2).int).2).int).2).int).1)), (i64 (((((((((((⟨bs, 0, 0⟩ : Rdr).int).2).int).2).int).2).int).2).int).1)), (i64 (((((((((((((⟨bs, 0, 0⟩ : Rdr).int).2).int).2).int).2).int).2).int).2).int).1)), (i64 (((((((((((((((⟨bs, 0, 0⟩ : Rdr).int).2).int).2).int).2).int).2).int).2).int).2).int).1)), (i64 (((((((((((((((((⟨bs, 0, 0⟩ : Rdr).int).2).int).2).int).2).int).2).int).2).int).2).int).2).int).1)), (Value.bool (((((((((((((((((((⟨bs, 0, 0⟩ : Rdr).int).2).int).2).int).2).int).2).int).2).int).2).int).2).int).2).bool_).1)), (Value.slice VA l.length vc), (Value.slice A615 (((R.bytes).1).length) c616)]) (by kernel_rfl) (by kernel_rfl) H782 (by kernel_rfl) (d := none) (by kernel_rfl) rfl (fun w789 H790 K791 => ?_)
                clear H782
                have K792 := K781.trans K791 (U := none_) (fun i h1 h2 => h2) (fun i h1 h2 => by have h2 : i = b1 := h2; exfalso; omega)
                clear K781
                have H793 := H783.keep K791 (by intro h; change b15 = b1 at h; omega)
                clear H783
                have H794 := H784.keep K791 (by intro h; change b29 = b1 at h; omega)
                clear H784
                have H795 := H779.keep K791 (by intro h; change b191 = b1 at h; omega)
                clear H779
                have F796 := RdO.keep F785 K791 (fun i _ _ hi hs => by have hs : i = b1 := hs; have := ob26 i _ _ hi; omega)
                clear F785
                have F797 := own_keep F786 K791 (fun i hi hs => by have hs : i = b1 := hs; have := obVb1 i hi; omega)
                clear F786
                have F798 := EntsMine.keep2 F787 K791 (fun x hx i o s hA hs => by have hs : i = b1 := hs; exact oeb1 x hx i o s hA hs)
                clear F787
                have F799 := own_keep F788 K791 (fun i hi hs => by have hs : i = b1 := hs; have := ob607 i hi; omega)
                clear F788
                clear K791
                refine Ops.regs 1 [(2, (Value.pointer (some ⟨b1, 0, none⟩))), (3, (i64 0))] (j := 3) (by kernel_rfl) (by kernel_rfl) ?_
                refine Ops.done (by kernel_rfl) ?_
                refine q_ret (by kernel_rfl) ?_
                refine ⟨(Value.tuple #[(agg [(i64 (((⟨bs, 0, 0⟩ : Rdr).int).1)), (i64 (((((⟨bs, 0, 0⟩ : Rdr).int).2).int).1)), (i64 (((((((⟨bs, 0, 0⟩ : Rdr).int).2).int).2).int).1)), (i64 (((((((((⟨bs, 0, 0⟩ : Rdr).int).2).int).2).int).2).int).1)), (i64 (((((((((((⟨bs, 0, 0⟩ : Rdr).int).2).int).2).int).2).int).2).int).1)), (i64 (((((((((((((⟨bs, 0, 0⟩ : Rdr).int).2).int).2).int).2).int).2).int).2).int).1)), (i64 (((((((((((((((⟨bs, 0, 0⟩ : Rdr).int).2).int).2).int).2).int).2).int).2).int).2).int).1)), (i64 (((((((((((((((((⟨bs, 0, 0⟩ : Rdr).int).2).int).2).int).2).int).2).int).2).int).2).int).2).int).1)), (Value.bool (((((((((((((((((((⟨bs, 0, 0⟩ : Rdr).int).2).int).2).int).2).int).2).int).2).int).2).int).2).int).2).bool_).1)), (Value.slice VA l.length vc), (Value.slice A615 (((R.bytes).1).length) c616)]), (i64 0)]), retv_cell_tmp rfl rfl (H790.loads (by kernel_rfl)) rfl, ?_⟩
                exact ⟨(⟨((⟨bs, 0, 0⟩ : Rdr).int).1, ((((⟨bs, 0, 0⟩ : Rdr).int).2).int).1, ((((((⟨bs, 0, 0⟩ : Rdr).int).2).int).2).int).1, ((((((((⟨bs, 0, 0⟩ : Rdr).int).2).int).2).int).2).int).1, ((((((((((⟨bs, 0, 0⟩ : Rdr).int).2).int).2).int).2).int).2).int).1, ((((((((((((⟨bs, 0, 0⟩ : Rdr).int).2).int).2).int).2).int).2).int).2).int).1, ((((((((((((((⟨bs, 0, 0⟩ : Rdr).int).2).int).2).int).2).int).2).int).2).int).2).int).1, ((((((((((((((((⟨bs, 0, 0⟩ : Rdr).int).2).int).2).int).2).int).2).int).2).int).2).int).2).int).1, (((((((((((((((((((⟨bs, 0, 0⟩ : Rdr).int).2).int).2).int).2).int).2).int).2).int).2).int).2).int).2).bool_).1), l, (R.bytes).1⟩ : MsgP), VA, A615, vc, c616, 0, rfl, K792, ⟨by (try simp only); omega, by (try simp only); omega, by (try simp only); omega, by (try simp only); omega, by (try simp only); omega, by (try simp only); omega, by (try simp only); omega, by (try simp only); omega, hlo⟩, by unfold unmsgB; rw [if_neg (by omega), if_neg (by rw [hmd]; omega), if_pos (by unfold Rdr.mfit; simp only [Rdr.mint, Rdr.nth]; omega), hme, hmd]; rfl, (OwnT.rd F797), (EntsMine.ins F798), (OwnB.rd F799)⟩
end Go.Proofs.Ytnepjfnkaigakaa
