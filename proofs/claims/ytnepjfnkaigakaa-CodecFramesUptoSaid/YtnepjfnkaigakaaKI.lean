/- messages are read -/
import Derived.Test.YtnepjfnkaigakaaProg
import Derived.Test.YtnepjfnkaigakaaLT
import Derived.Test.YtnepjfnkaigakaaKC
set_option linter.unusedVariables false
namespace Go.Proofs.Ytnepjfnkaigakaa
open Go.Q Go.RowKit
theorem tyE : ElemTy Try.prog 47 97 2 32 := elemTy (by kernel_rfl)

theorem in_calls (w : World) (n lo hi : Int)  : Calls Try.prog 77 ⟨[(i64 n), (i64 lo), (i64 hi)]⟩ w (fun e w' => ∃ t, e = .returned (.bool t) ∧ (t = true ↔ lo ≤ n ∧ n ≤ hi) ∧ w = w') := by
  refine q_calls Try.func77 (by kernel_rfl) (by kernel_rfl) ?_
  refine q_seq (by kernel_rfl) ?_
  refine q_region (by kernel_rfl) ?_
  refine Ops.regs 1 [(0, (i64 n)), (1, (i64 lo)), (2, (i64 hi)), (6, (Value.bool false))] (j := 1) (by kernel_rfl) (by kernel_rfl) ?_
  refine Ops.done (by kernel_rfl) ?_
  refine q_seq (by kernel_rfl) ?_
  refine q_region (by kernel_rfl) ?_
  refine Ops.regs 4 [(0, (i64 n)), (2, (i64 hi)), (6, (Value.bool false)), (10, (Value.bool (decide (n ≥ lo))))] (j := 4) (by kernel_rfl) (by kernel_rfl) ?_
  refine Ops.split (decide (n ≥ lo)) (fun h1 => ?_) (fun h1 => ?_)
  · rw [h1]
    have p2 : n ≥ lo := of_decide_eq_true h1
    refine Ops.regs 5 [(6, (Value.bool (decide (n ≤ hi))))] (j := 9) (by kernel_rfl) (by kernel_rfl) ?_
    refine Ops.done (by kernel_rfl) ?_
    refine q_ret (by kernel_rfl) ?_
    refine ⟨(Value.bool (decide (n ≤ hi))), retv_tmp rfl rfl, ?_⟩
    exact ⟨_, rfl, ⟨fun h => ⟨by omega, of_decide_eq_true h⟩, fun h => decide_eq_true h.2⟩, rfl⟩
  · rw [h1]
    have p3 : ¬ (n ≥ lo) := of_decide_eq_false h1
    refine Ops.regs 5 [(6, (Value.bool false))] (j := 9) (by kernel_rfl) (by kernel_rfl) ?_
    refine Ops.done (by kernel_rfl) ?_
    refine q_ret (by kernel_rfl) ?_
    refine ⟨(Value.bool false), retv_tmp rfl rfl, ?_⟩
    exact ⟨false, rfl, ⟨fun h => (by cases h), fun h => by exfalso; omega⟩, rfl⟩

set_option maxHeartbeats 4000000 in
theorem Unmsg_own (w : World) (B : Option Addr) (bc : Nat) (bs : List UInt8) (hB : RdB w (.slice B bs.length bc) bs) (hbl : bs.length ≤ 140737488351232) : Calls Try.prog 51 ⟨[(Value.slice B bs.length bc)]⟩ w (fun e w' => ∃ (m : MsgP) (E D : Option Addr) (ec dc : Nat) (er : Int), e = .returned (.tuple #[agg [i64 m.kind, i64 m.group, i64 m.frm, i64 m.to, i64 m.term, i64 m.index, i64 m.logTerm, i64 m.commit, .bool m.ok, .slice E m.entries.length ec, .slice D m.data.length dc], i64 er]) ∧ Keeps none_ w w' ∧ m.Ok ∧ (m.core, er) = unmsgB bs ∧ OwnE w' w.heap.size 97 (.slice E m.entries.length ec) m.entries ∧ EntsMine 5 w' w.heap.size (.slice E m.entries.length ec) m.entries ∧ OwnB w' w.heap.size 5 (.slice D m.data.length dc) m.data ∧ EntsApart m.entries ∧ (∀ y ∈ m.entries, ∀ g o s, y.A = some ⟨g, o, s⟩ → (Value.slice D m.data.length dc).ownBlock = some g → False) ∧ (∀ i, (Value.slice E m.entries.length ec).ownBlock = some i → (Value.slice D m.data.length dc).ownBlock = some i → False)) := by
  have K0 : Keeps none_ w w := Keeps.refl w
  refine q_calls Try.func51 (by kernel_rfl) (by kernel_rfl) ?_
  refine q_seq (by kernel_rfl) ?_
  refine q_region (by kernel_rfl) ?_
  refine Ops.new (o := rowL [(i64 0), (i64 0), (i64 0), (i64 0), (i64 0), (i64 0), (i64 0), (i64 0), (Value.bool false), (Value.slice none 0 0), (Value.slice none 0 0)] 49) (V := fun b => (ptr b)) (by kernel_rfl) (d := (some 2)) (by kernel_rfl) (fun b => rfl) (fun b1 w2 hb3 H4 K5 hs6 => ?_)
  have nb1 : w.heap.size ≤ b1 := by have := K0.size; omega
  replace K0 := K0.trans K5 (U := none_) (fun i h1 h2 => h2) (fun i h1 h2 => by exact h2)
  clear K5 hs6
  refine Ops.regs 1 [(0, (Value.slice B bs.length bc)), (2, (ptr b1)), (3, (i64 0))] (j := 2) (by kernel_rfl) (by kernel_rfl) ?_
  refine Ops.done (by kernel_rfl) ?_
  refine q_seq (by kernel_rfl) ?_
  refine q_seq (by kernel_rfl) ?_
  refine q_region (by kernel_rfl) ?_
  refine Ops.regs 3 [(0, (Value.slice B bs.length bc)), (2, (ptr b1)), (3, (i64 0)), (13, (Value.bool (decide (((bs.length : Nat) : Int) > 1048576))))] (j := 3) (by kernel_rfl) (by kernel_rfl) ?_
  refine Ops.done (by kernel_rfl) ?_
  refine q_cond (o := .tmp 13) (b := (decide (((bs.length : Nat) : Int) > 1048576))) (by kernel_rfl) rfl (fun h7 => ?_) (fun h7 => ?_)
  · rw [h7]
    have p8 : ((bs.length : Nat) : Int) > 1048576 := of_decide_eq_true h7
    refine q_seq (by kernel_rfl) ?_
    refine q_region (by kernel_rfl) ?_
    refine Ops.regs 1 [(0, (Value.slice B bs.length bc)), (2, (ptr b1)), (3, (i64 0)), (14, (agg [(i64 0), (i64 0), (i64 0), (i64 0), (i64 0), (i64 0), (i64 0), (i64 0), (Value.bool false), (Value.slice none 0 0), (Value.slice none 0 0)]))] (j := 1) (by kernel_rfl) (by kernel_rfl) ?_
    refine Ops.put (t := 49) (b := b1) (off := 0) (v := (agg [(i64 0), (i64 0), (i64 0), (i64 0), (i64 0), (i64 0), (i64 0), (i64 0), (Value.bool false), (Value.slice none 0 0), (Value.slice none 0 0)])) (ys := [(i64 0), (i64 0), (i64 0), (i64 0), (i64 0), (i64 0), (i64 0), (i64 0), (Value.bool false), (Value.slice none 0 0), (Value.slice none 0 0)]) (by kernel_rfl) (by kernel_rfl) H4 (by kernel_rfl) (d := none) (by kernel_rfl) rfl (fun w9 H10 K11 => ?_)
    clear H4
    replace K0 := K0.trans K11 (U := none_) (fun i h1 h2 => h2) (fun i h1 h2 => by have h2 : i = b1 := h2; exfalso; omega)
    clear K11
    refine Ops.regs 1 [(0, (Value.slice B bs.length bc)), (2, (ptr b1)), (3, (i64 3))] (j := 3) (by kernel_rfl) (by kernel_rfl) ?_
    refine Ops.done (by kernel_rfl) ?_
    refine q_ret (by kernel_rfl) ?_
    refine ⟨(Value.tuple #[(agg [(i64 0), (i64 0), (i64 0), (i64 0), (i64 0), (i64 0), (i64 0), (i64 0), (Value.bool false), (Value.slice none 0 0), (Value.slice none 0 0)]), (i64 3)]), retv_cell_tmp rfl rfl (H10.loads (by kernel_rfl)) rfl, ?_⟩
    exact ⟨(⟨0, 0, 0, 0, 0, 0, 0, 0, false, [], []⟩ : MsgP), none, none, 0, 0, 3, rfl, K0, ⟨by (try simp only); omega, by (try simp only); omega, by (try simp only); omega, by (try simp only); omega, by (try simp only); omega, by (try simp only); omega, by (try simp only); omega, by (try simp only); omega, fun x hx => by cases hx⟩, by unfold unmsgB; rw [if_pos (by omega)]; rfl, (OwnT.nil _ _ _ _ _), (EntsMine.nil _ _ _), (World.ownsRow_nil _ _ _ _), EntsApart.nil, (fun y hy => by cases hy), (fun _ h => by cases h)⟩
  · rw [h7]
    have p12 : ¬ (((bs.length : Nat) : Int) > 1048576) := of_decide_eq_false h7
    refine q_skip (by kernel_rfl) ?_
    refine q_seq (by kernel_rfl) ?_
    refine q_region (by kernel_rfl) ?_
    refine Ops.regs 1 [(2, (ptr b1)), (3, (i64 0)), (15, (Value.slice B bs.length bc))] (j := 1) (by kernel_rfl) (by kernel_rfl) ?_
    refine Ops.call (by kernel_rfl) (d := (some 16)) (by kernel_rfl) (NewReader_calls _ (Value.slice B bs.length bc) bs (hB.keep0 (by omega) K0) (by first | omega | decide)) ?_
    rintro _ w17 ⟨b13, A14, c15, rfl, q16, K18, H19, hr20, hne21, hge22⟩
    have nb13 : w.heap.size ≤ b13 := by have := K0.size; omega
    have lb13b1 : b1 < b13 := by have := H4.lt; omega
    have ob24 : ∀ i o s, A14 = some ⟨i, o, s⟩ → i ≠ b1 := fun i o s hi => by have := hge22 i o s hi; have := H4.lt; omega
    have hok23 : Rdr.Ok (⟨bs, 0, 0⟩ : Rdr) := ⟨Nat.zero_le _, by show bs.length ≤ _; first | omega | decide⟩
    clear q16 hge22
    refine ⟨_, _, rfl, rfl, ?_⟩
    replace K0 := K0.trans K18 (U := none_) (fun i h1 h2 => h2) (fun i h1 h2 => by exact h2)
    replace H4 := H4.keep K18 (fun h => h)
    clear K18
    refine Ops.regs 1 [(2, (ptr b1)), (3, (i64 0)), (4, (ptr b13))] (j := 3) (by kernel_rfl) (by kernel_rfl) ?_
    refine Ops.done (by kernel_rfl) ?_
    refine q_seq (by kernel_rfl) ?_
    refine q_region (by kernel_rfl) ?_
    refine Ops.new (o := rowL [(i64 0), (i64 0), (i64 0), (i64 0), (i64 0), (i64 0), (i64 0), (i64 0)] 104) (V := fun b => (ptr b)) (by kernel_rfl) (d := (some 5)) (by kernel_rfl) (fun b => rfl) (fun b25 w26 hb27 H28 K29 hs30 => ?_)
    have lb25b1 : b1 < b25 := by have := H4.lt; omega
    have lb25b13 : b13 < b25 := by have := H19.lt; omega
    have nb25 : w.heap.size ≤ b25 := by have := K0.size; omega
    have ob31 : ∀ i o s, A14 = some ⟨i, o, s⟩ → i ≠ b25 := fun i o s hi => by have := hr20.2 i o s hi; omega
    replace K0 := K0.trans K29 (U := none_) (fun i h1 h2 => h2) (fun i h1 h2 => by exact h2)
    replace H4 := H4.keep K29 (fun h => h)
    replace H19 := H19.keep K29 (fun h => h)
    replace hr20 := RdO.keep0 hr20 K29
    clear K29 hs30
    refine Ops.done (by kernel_rfl) ?_
    refine q_seq (by kernel_rfl) ?_
    refine q_seq (by kernel_rfl) ?_
    refine q_region (by kernel_rfl) ?_
    refine Ops.regs 1 [(2, (ptr b1)), (3, (i64 0)), (4, (ptr b13)), (5, (ptr b25)), (17, (i64 0))] (j := 1) (by kernel_rfl) (by kernel_rfl) ?_
    refine Ops.done (by kernel_rfl) ?_
    refine q_block (id := 0) (by kernel_rfl) ?_
    refine q_roll 9 (by kernel_rfl) ?_
    refine roll_step ?_
    refine q_seq (by kernel_rfl) ?_
    refine q_region (by kernel_rfl) ?_
    refine Ops.regs 1 [(2, (ptr b1)), (3, (i64 0)), (4, (ptr b13)), (5, (ptr b25)), (17, (i64 0)), (18, (Value.bool true))] (j := 1) (by kernel_rfl) (by kernel_rfl) ?_
    refine Ops.done (by kernel_rfl) ?_
    refine q_seq (by kernel_rfl) ?_
    refine q_then (o := .tmp 18) (by kernel_rfl) rfl ?_
    refine q_skip (by kernel_rfl) ?_
    refine q_seq (by kernel_rfl) ?_
    refine q_block (id := 1) (by kernel_rfl) ?_
    refine q_seq (by kernel_rfl) ?_
    refine q_region (by kernel_rfl) ?_
    refine Ops.regs 2 [(2, (ptr b1)), (3, (i64 0)), (4, (ptr b13)), (5, (ptr b25)), (6, (i64 0)), (17, (i64 0)), (18, (Value.bool true))] (j := 2) (by kernel_rfl) (by kernel_rfl) ?_
    refine Ops.done (by kernel_rfl) ?_
    refine q_region (by kernel_rfl) ?_
    refine Ops.regs 2 [(2, (ptr b1)), (3, (i64 0)), (4, (ptr b13)), (5, (ptr b25)), (6, (i64 0)), (17, (i64 0)), (18, (Value.bool true)), (20, (i64 0)), (21, (ptr b13))] (j := 2) (by kernel_rfl) (by kernel_rfl) ?_
    refine Ops.call (by kernel_rfl) (d := (some 22)) (by kernel_rfl) (RdInt_calls _ b13 A14 c15 (⟨bs, 0, 0⟩ : Rdr) hok23 H19 hr20 hne21 ) ?_
    rintro _ w32 ⟨rfl, K33, H34⟩
    have hok35 : ((⟨bs, 0, 0⟩ : Rdr).int).2.Ok := Rdr.Ok.int hok23
    have hu36 := Rdr.int_range (⟨bs, 0, 0⟩ : Rdr)
    refine ⟨_, _, rfl, rfl, ?_⟩
    replace K0 := K0.trans K33 (U := none_) (fun i h1 h2 => h2) (fun i h1 h2 => by have h2 : i = b13 := h2; exfalso; omega)
    replace H4 := H4.keep K33 (by intro h; change b1 = b13 at h; omega)
    replace H28 := H28.keep K33 (by intro h; change b25 = b13 at h; omega)
    replace hr20 := RdO.keep hr20 K33 (fun i _ _ hi hs => by have hs : i = b13 := hs; have := hne21 i _ _ hi; omega)
    clear K33
    have F37 : RdO w32 A14 c15 ((⟨bs, 0, 0⟩ : Rdr).int).2.bs := by rw [Rdr.int_bs]; exact hr20
    clear hr20
    refine Ops.regs 1 [(2, (ptr b1)), (3, (i64 0)), (4, (ptr b13)), (5, (ptr b25)), (6, (i64 0)), (17, (i64 0)), (18, (Value.bool true)), (22, (i64 (((⟨bs, 0, 0⟩ : Rdr).int).1))), (23, (ptr b25))] (j := 4) (by kernel_rfl) (by kernel_rfl) ?_
    refine Ops.put (t := 2) (b := b25) (off := 0) (v := (i64 (((⟨bs, 0, 0⟩ : Rdr).int).1))) (ys := [(i64 (((⟨bs, 0, 0⟩ : Rdr).int).1)), (i64 0), (i64 0), (i64 0), (i64 0), (i64 0), (i64 0), (i64 0)]) (by kernel_rfl) (by kernel_rfl) H28 (by kernel_rfl) (d := none) (by kernel_rfl) rfl (fun w38 H39 K40 => ?_)
    clear H28
    replace K0 := K0.trans K40 (U := none_) (fun i h1 h2 => h2) (fun i h1 h2 => by have h2 : i = b25 := h2; exfalso; omega)
    replace H4 := H4.keep K40 (by intro h; change b1 = b25 at h; omega)
    replace H34 := H34.keep K40 (by intro h; change b13 = b25 at h; omega)
    replace F37 := RdO.keep F37 K40 (fun i _ _ hi hs => by have hs : i = b25 := hs; have := ob31 i _ _ hi; omega)
    clear K40
    refine Ops.done (by kernel_rfl) ?_
    refine q_region (by kernel_rfl) ?_
    refine Ops.regs 2 [(2, (ptr b1)), (3, (i64 0)), (4, (ptr b13)), (5, (ptr b25)), (6, (i64 0)), (17, (i64 1)), (18, (Value.bool true))] (j := 2) (by kernel_rfl) (by kernel_rfl) ?_
    refine Ops.done (by kernel_rfl) ?_
    refine roll_step ?_
    refine q_seq (by kernel_rfl) ?_
    refine q_region (by kernel_rfl) ?_
    refine Ops.regs 1 [(2, (ptr b1)), (3, (i64 0)), (4, (ptr b13)), (5, (ptr b25)), (6, (i64 0)), (17, (i64 1)), (18, (Value.bool true))] (j := 1) (by kernel_rfl) (by kernel_rfl) ?_
    refine Ops.done (by kernel_rfl) ?_
    refine q_seq (by kernel_rfl) ?_
    refine q_then (o := .tmp 18) (by kernel_rfl) rfl ?_
    refine q_skip (by kernel_rfl) ?_
    refine q_seq (by kernel_rfl) ?_
    refine q_block (id := 1) (by kernel_rfl) ?_
    refine q_seq (by kernel_rfl) ?_
    refine q_region (by kernel_rfl) ?_
    refine Ops.regs 2 [(2, (ptr b1)), (3, (i64 0)), (4, (ptr b13)), (5, (ptr b25)), (6, (i64 1)), (17, (i64 1)), (18, (Value.bool true))] (j := 2) (by kernel_rfl) (by kernel_rfl) ?_
    refine Ops.done (by kernel_rfl) ?_
    refine q_region (by kernel_rfl) ?_
    refine Ops.regs 2 [(2, (ptr b1)), (3, (i64 0)), (4, (ptr b13)), (5, (ptr b25)), (6, (i64 1)), (17, (i64 1)), (18, (Value.bool true)), (20, (i64 1)), (21, (ptr b13))] (j := 2) (by kernel_rfl) (by kernel_rfl) ?_
    refine Ops.call (by kernel_rfl) (d := (some 22)) (by kernel_rfl) (RdInt_calls _ b13 A14 c15 (((⟨bs, 0, 0⟩ : Rdr).int).2) hok35 H34 F37 hne21 ) ?_
    rintro _ w41 ⟨rfl, K42, H43⟩
    have hok44 : ((((⟨bs, 0, 0⟩ : Rdr).int).2).int).2.Ok := Rdr.Ok.int hok35
    have hu45 := Rdr.int_range (((⟨bs, 0, 0⟩ : Rdr).int).2)
    refine ⟨_, _, rfl, rfl, ?_⟩
    replace K0 := K0.trans K42 (U := none_) (fun i h1 h2 => h2) (fun i h1 h2 => by have h2 : i = b13 := h2; exfalso; omega)
    replace H4 := H4.keep K42 (by intro h; change b1 = b13 at h; omega)
    replace H39 := H39.keep K42 (by intro h; change b25 = b13 at h; omega)
    replace F37 := RdO.keep F37 K42 (fun i _ _ hi hs => by have hs : i = b13 := hs; have := hne21 i _ _ hi; omega)
    clear K42
    have F46 : RdO w41 A14 c15 ((((⟨bs, 0, 0⟩ : Rdr).int).2).int).2.bs := by rw [Rdr.int_bs]; exact F37
    clear F37
    refine Ops.regs 1 [(2, (ptr b1)), (3, (i64 0)), (4, (ptr b13)), (5, (ptr b25)), (6, (i64 1)), (17, (i64 1)), (18, (Value.bool true)), (22, (i64 (((((⟨bs, 0, 0⟩ : Rdr).int).2).int).1))), (23, (Value.pointer (some ⟨b25, 1, none⟩)))] (j := 4) (by kernel_rfl) (by kernel_rfl) ?_
    refine Ops.put (t := 2) (b := b25) (off := 1) (v := (i64 (((((⟨bs, 0, 0⟩ : Rdr).int).2).int).1))) (ys := [(i64 (((⟨bs, 0, 0⟩ : Rdr).int).1)), (i64 (((((⟨bs, 0, 0⟩ : Rdr).int).2).int).1)), (i64 0), (i64 0), (i64 0), (i64 0), (i64 0), (i64 0)]) (by kernel_rfl) (by kernel_rfl) H39 (by kernel_rfl) (d := none) (by kernel_rfl) rfl (fun w47 H48 K49 => ?_)
    clear H39
    replace K0 := K0.trans K49 (U := none_) (fun i h1 h2 => h2) (fun i h1 h2 => by have h2 : i = b25 := h2; exfalso; omega)
    replace H4 := H4.keep K49 (by intro h; change b1 = b25 at h; omega)
    replace H43 := H43.keep K49 (by intro h; change b13 = b25 at h; omega)
    replace F46 := RdO.keep F46 K49 (fun i _ _ hi hs => by have hs : i = b25 := hs; have := ob31 i _ _ hi; omega)
    clear K49
    refine Ops.done (by kernel_rfl) ?_
    refine q_region (by kernel_rfl) ?_
    refine Ops.regs 2 [(2, (ptr b1)), (3, (i64 0)), (4, (ptr b13)), (5, (ptr b25)), (6, (i64 1)), (17, (i64 2)), (18, (Value.bool true))] (j := 2) (by kernel_rfl) (by kernel_rfl) ?_
    refine Ops.done (by kernel_rfl) ?_
    refine roll_step ?_
    refine q_seq (by kernel_rfl) ?_
    refine q_region (by kernel_rfl) ?_
    refine Ops.regs 1 [(2, (ptr b1)), (3, (i64 0)), (4, (ptr b13)), (5, (ptr b25)), (6, (i64 1)), (17, (i64 2)), (18, (Value.bool true))] (j := 1) (by kernel_rfl) (by kernel_rfl) ?_
    refine Ops.done (by kernel_rfl) ?_
    refine q_seq (by kernel_rfl) ?_
    refine q_then (o := .tmp 18) (by kernel_rfl) rfl ?_
    refine q_skip (by kernel_rfl) ?_
    refine q_seq (by kernel_rfl) ?_
    refine q_block (id := 1) (by kernel_rfl) ?_
    refine q_seq (by kernel_rfl) ?_
    refine q_region (by kernel_rfl) ?_
    refine Ops.regs 2 [(2, (ptr b1)), (3, (i64 0)), (4, (ptr b13)), (5, (ptr b25)), (6, (i64 2)), (17, (i64 2)), (18, (Value.bool true))] (j := 2) (by kernel_rfl) (by kernel_rfl) ?_
    refine Ops.done (by kernel_rfl) ?_
    refine q_region (by kernel_rfl) ?_
    refine Ops.regs 2 [(2, (ptr b1)), (3, (i64 0)), (4, (ptr b13)), (5, (ptr b25)), (6, (i64 2)), (17, (i64 2)), (18, (Value.bool true)), (20, (i64 2)), (21, (ptr b13))] (j := 2) (by kernel_rfl) (by kernel_rfl) ?_
    refine Ops.call (by kernel_rfl) (d := (some 22)) (by kernel_rfl) (RdInt_calls _ b13 A14 c15 (((((⟨bs, 0, 0⟩ : Rdr).int).2).int).2) hok44 H43 F46 hne21 ) ?_
    rintro _ w50 ⟨rfl, K51, H52⟩
    have hok53 : ((((((⟨bs, 0, 0⟩ : Rdr).int).2).int).2).int).2.Ok := Rdr.Ok.int hok44
    have hu54 := Rdr.int_range (((((⟨bs, 0, 0⟩ : Rdr).int).2).int).2)
    refine ⟨_, _, rfl, rfl, ?_⟩
    replace K0 := K0.trans K51 (U := none_) (fun i h1 h2 => h2) (fun i h1 h2 => by have h2 : i = b13 := h2; exfalso; omega)
    replace H4 := H4.keep K51 (by intro h; change b1 = b13 at h; omega)
    replace H48 := H48.keep K51 (by intro h; change b25 = b13 at h; omega)
    replace F46 := RdO.keep F46 K51 (fun i _ _ hi hs => by have hs : i = b13 := hs; have := hne21 i _ _ hi; omega)
    clear K51
    have F55 : RdO w50 A14 c15 ((((((⟨bs, 0, 0⟩ : Rdr).int).2).int).2).int).2.bs := by rw [Rdr.int_bs]; exact F46
    clear F46
    refine Ops.regs 1 [(2, (ptr b1)), (3, (i64 0)), (4, (ptr b13)), (5, (ptr b25)), (6, (i64 2)), (17, (i64 2)), (18, (Value.bool true)), (22, (i64 (((((((⟨bs, 0, 0⟩ : Rdr).int).2).int).2).int).1))), (23, (Value.pointer (some ⟨b25, 2, none⟩)))] (j := 4) (by kernel_rfl) (by kernel_rfl) ?_
    refine Ops.put (t := 2) (b := b25) (off := 2) (v := (i64 (((((((⟨bs, 0, 0⟩ : Rdr).int).2).int).2).int).1))) (ys := [(i64 (((⟨bs, 0, 0⟩ : Rdr).int).1)), (i64 (((((⟨bs, 0, 0⟩ : Rdr).int).2).int).1)), (i64 (((((((⟨bs, 0, 0⟩ : Rdr).int).2).int).2).int).1)), (i64 0), (i64 0), (i64 0), (i64 0), (i64 0)]) (by kernel_rfl) (by kernel_rfl) H48 (by kernel_rfl) (d := none) (by kernel_rfl) rfl (fun w56 H57 K58 => ?_)
    clear H48
    replace K0 := K0.trans K58 (U := none_) (fun i h1 h2 => h2) (fun i h1 h2 => by have h2 : i = b25 := h2; exfalso; omega)
    replace H4 := H4.keep K58 (by intro h; change b1 = b25 at h; omega)
    replace H52 := H52.keep K58 (by intro h; change b13 = b25 at h; omega)
    replace F55 := RdO.keep F55 K58 (fun i _ _ hi hs => by have hs : i = b25 := hs; have := ob31 i _ _ hi; omega)
    clear K58
    refine Ops.done (by kernel_rfl) ?_
    refine q_region (by kernel_rfl) ?_
    refine Ops.regs 2 [(2, (ptr b1)), (3, (i64 0)), (4, (ptr b13)), (5, (ptr b25)), (6, (i64 2)), (17, (i64 3)), (18, (Value.bool true))] (j := 2) (by kernel_rfl) (by kernel_rfl) ?_
    refine Ops.done (by kernel_rfl) ?_
    refine roll_step ?_
    refine q_seq (by kernel_rfl) ?_
    refine q_region (by kernel_rfl) ?_
    refine Ops.regs 1 [(2, (ptr b1)), (3, (i64 0)), (4, (ptr b13)), (5, (ptr b25)), (6, (i64 2)), (17, (i64 3)), (18, (Value.bool true))] (j := 1) (by kernel_rfl) (by kernel_rfl) ?_
    refine Ops.done (by kernel_rfl) ?_
    refine q_seq (by kernel_rfl) ?_
    refine q_then (o := .tmp 18) (by kernel_rfl) rfl ?_
    refine q_skip (by kernel_rfl) ?_
    refine q_seq (by kernel_rfl) ?_
    refine q_block (id := 1) (by kernel_rfl) ?_
    refine q_seq (by kernel_rfl) ?_
    refine q_region (by kernel_rfl) ?_
    refine Ops.regs 2 [(2, (ptr b1)), (3, (i64 0)), (4, (ptr b13)), (5, (ptr b25)), (6, (i64 3)), (17, (i64 3)), (18, (Value.bool true))] (j := 2) (by kernel_rfl) (by kernel_rfl) ?_
    refine Ops.done (by kernel_rfl) ?_
    refine q_region (by kernel_rfl) ?_
    refine Ops.regs 2 [(2, (ptr b1)), (3, (i64 0)), (4, (ptr b13)), (5, (ptr b25)), (6, (i64 3)), (17, (i64 3)), (18, (Value.bool true)), (20, (i64 3)), (21, (ptr b13))] (j := 2) (by kernel_rfl) (by kernel_rfl) ?_
    refine Ops.call (by kernel_rfl) (d := (some 22)) (by kernel_rfl) (RdInt_calls _ b13 A14 c15 (((((((⟨bs, 0, 0⟩ : Rdr).int).2).int).2).int).2) hok53 H52 F55 hne21 ) ?_
    rintro _ w59 ⟨rfl, K60, H61⟩
    have hok62 : ((((((((⟨bs, 0, 0⟩ : Rdr).int).2).int).2).int).2).int).2.Ok := Rdr.Ok.int hok53
    have hu63 := Rdr.int_range (((((((⟨bs, 0, 0⟩ : Rdr).int).2).int).2).int).2)
    refine ⟨_, _, rfl, rfl, ?_⟩
    replace K0 := K0.trans K60 (U := none_) (fun i h1 h2 => h2) (fun i h1 h2 => by have h2 : i = b13 := h2; exfalso; omega)
    replace H4 := H4.keep K60 (by intro h; change b1 = b13 at h; omega)
    replace H57 := H57.keep K60 (by intro h; change b25 = b13 at h; omega)
    replace F55 := RdO.keep F55 K60 (fun i _ _ hi hs => by have hs : i = b13 := hs; have := hne21 i _ _ hi; omega)
    clear K60
    have F64 : RdO w59 A14 c15 ((((((((⟨bs, 0, 0⟩ : Rdr).int).2).int).2).int).2).int).2.bs := by rw [Rdr.int_bs]; exact F55
    clear F55
    refine Ops.regs 1 [(2, (ptr b1)), (3, (i64 0)), (4, (ptr b13)), (5, (ptr b25)), (6, (i64 3)), (17, (i64 3)), (18, (Value.bool true)), (22, (i64 (((((((((⟨bs, 0, 0⟩ : Rdr).int).2).int).2).int).2).int).1))), (23, (Value.pointer (some ⟨b25, 3, none⟩)))] (j := 4) (by kernel_rfl) (by kernel_rfl) ?_
    refine Ops.put (t := 2) (b := b25) (off := 3) (v := (i64 (((((((((⟨bs, 0, 0⟩ : Rdr).int).2).int).2).int).2).int).1))) (ys := [(i64 (((⟨bs, 0, 0⟩ : Rdr).int).1)), (i64 (((((⟨bs, 0, 0⟩ : Rdr).int).2).int).1)), (i64 (((((((⟨bs, 0, 0⟩ : Rdr).int).2).int).2).int).1)), (i64 (((((((((⟨bs, 0, 0⟩ : Rdr).int).2).int).2).int).2).int).1)), (i64 0), (i64 0), (i64 0), (i64 0)]) (by kernel_rfl) (by kernel_rfl) H57 (by kernel_rfl) (d := none) (by kernel_rfl) rfl (fun w65 H66 K67 => ?_)
    clear H57
    replace K0 := K0.trans K67 (U := none_) (fun i h1 h2 => h2) (fun i h1 h2 => by have h2 : i = b25 := h2; exfalso; omega)
    replace H4 := H4.keep K67 (by intro h; change b1 = b25 at h; omega)
    replace H61 := H61.keep K67 (by intro h; change b13 = b25 at h; omega)
    replace F64 := RdO.keep F64 K67 (fun i _ _ hi hs => by have hs : i = b25 := hs; have := ob31 i _ _ hi; omega)
    clear K67
    refine Ops.done (by kernel_rfl) ?_
    refine q_region (by kernel_rfl) ?_
    refine Ops.regs 2 [(2, (ptr b1)), (3, (i64 0)), (4, (ptr b13)), (5, (ptr b25)), (6, (i64 3)), (17, (i64 4)), (18, (Value.bool true))] (j := 2) (by kernel_rfl) (by kernel_rfl) ?_
    refine Ops.done (by kernel_rfl) ?_
    refine roll_step ?_
    refine q_seq (by kernel_rfl) ?_
    refine q_region (by kernel_rfl) ?_
    refine Ops.regs 1 [(2, (ptr b1)), (3, (i64 0)), (4, (ptr b13)), (5, (ptr b25)), (6, (i64 3)), (17, (i64 4)), (18, (Value.bool true))] (j := 1) (by kernel_rfl) (by kernel_rfl) ?_
    refine Ops.done (by kernel_rfl) ?_
    refine q_seq (by kernel_rfl) ?_
    refine q_then (o := .tmp 18) (by kernel_rfl) rfl ?_
    refine q_skip (by kernel_rfl) ?_
    refine q_seq (by kernel_rfl) ?_
    refine q_block (id := 1) (by kernel_rfl) ?_
    refine q_seq (by kernel_rfl) ?_
    refine q_region (by kernel_rfl) ?_
    refine Ops.regs 2 [(2, (ptr b1)), (3, (i64 0)), (4, (ptr b13)), (5, (ptr b25)), (6, (i64 4)), (17, (i64 4)), (18, (Value.bool true))] (j := 2) (by kernel_rfl) (by kernel_rfl) ?_
    refine Ops.done (by kernel_rfl) ?_
    refine q_region (by kernel_rfl) ?_
    refine Ops.regs 2 [(2, (ptr b1)), (3, (i64 0)), (4, (ptr b13)), (5, (ptr b25)), (6, (i64 4)), (17, (i64 4)), (18, (Value.bool true)), (20, (i64 4)), (21, (ptr b13))] (j := 2) (by kernel_rfl) (by kernel_rfl) ?_
    refine Ops.call (by kernel_rfl) (d := (some 22)) (by kernel_rfl) (RdInt_calls _ b13 A14 c15 (((((((((⟨bs, 0, 0⟩ : Rdr).int).2).int).2).int).2).int).2) hok62 H61 F64 hne21 ) ?_
    rintro _ w68 ⟨rfl, K69, H70⟩
    have hok71 : ((((((((((⟨bs, 0, 0⟩ : Rdr).int).2).int).2).int).2).int).2).int).2.Ok := Rdr.Ok.int hok62
    have hu72 := Rdr.int_range (((((((((⟨bs, 0, 0⟩ : Rdr).int).2).int).2).int).2).int).2)
    refine ⟨_, _, rfl, rfl, ?_⟩
    replace K0 := K0.trans K69 (U := none_) (fun i h1 h2 => h2) (fun i h1 h2 => by have h2 : i = b13 := h2; exfalso; omega)
    replace H4 := H4.keep K69 (by intro h; change b1 = b13 at h; omega)
    replace H66 := H66.keep K69 (by intro h; change b25 = b13 at h; omega)
    replace F64 := RdO.keep F64 K69 (fun i _ _ hi hs => by have hs : i = b13 := hs; have := hne21 i _ _ hi; omega)
    clear K69
    have F73 : RdO w68 A14 c15 ((((((((((⟨bs, 0, 0⟩ : Rdr).int).2).int).2).int).2).int).2).int).2.bs := by rw [Rdr.int_bs]; exact F64
    clear F64
    refine Ops.regs 1 [(2, (ptr b1)), (3, (i64 0)), (4, (ptr b13)), (5, (ptr b25)), (6, (i64 4)), (17, (i64 4)), (18, (Value.bool true)), (22, (i64 (((((((((((⟨bs, 0, 0⟩ : Rdr).int).2).int).2).int).2).int).2).int).1))), (23, (Value.pointer (some ⟨b25, 4, none⟩)))] (j := 4) (by kernel_rfl) (by kernel_rfl) ?_
    refine Ops.put (t := 2) (b := b25) (off := 4) (v := (i64 (((((((((((⟨bs, 0, 0⟩ : Rdr).int).2).int).2).int).2).int).2).int).1))) (ys := [(i64 (((⟨bs, 0, 0⟩ : Rdr).int).1)), (i64 (((((⟨bs, 0, 0⟩ : Rdr).int).2).int).1)), (i64 (((((((⟨bs, 0, 0⟩ : Rdr).int).2).int).2).int).1)), (i64 (((((((((⟨bs, 0, 0⟩ : Rdr).int).2).int).2).int).2).int).1)), (i64 (((((((((((⟨bs, 0, 0⟩ : Rdr).int).2).int).2).int).2).int).2).int).1)), (i64 0), (i64 0), (i64 0)]) (by kernel_rfl) (by kernel_rfl) H66 (by kernel_rfl) (d := none) (by kernel_rfl) rfl (fun w74 H75 K76 => ?_)
    clear H66
    replace K0 := K0.trans K76 (U := none_) (fun i h1 h2 => h2) (fun i h1 h2 => by have h2 : i = b25 := h2; exfalso; omega)
    replace H4 := H4.keep K76 (by intro h; change b1 = b25 at h; omega)
    replace H70 := H70.keep K76 (by intro h; change b13 = b25 at h; omega)
    replace F73 := RdO.keep F73 K76 (fun i _ _ hi hs => by have hs : i = b25 := hs; have := ob31 i _ _ hi; omega)
    clear K76
    refine Ops.done (by kernel_rfl) ?_
    refine q_region (by kernel_rfl) ?_
    refine Ops.regs 2 [(2, (ptr b1)), (3, (i64 0)), (4, (ptr b13)), (5, (ptr b25)), (6, (i64 4)), (17, (i64 5)), (18, (Value.bool true))] (j := 2) (by kernel_rfl) (by kernel_rfl) ?_
    refine Ops.done (by kernel_rfl) ?_
    refine roll_step ?_
    refine q_seq (by kernel_rfl) ?_
    refine q_region (by kernel_rfl) ?_
    refine Ops.regs 1 [(2, (ptr b1)), (3, (i64 0)), (4, (ptr b13)), (5, (ptr b25)), (6, (i64 4)), (17, (i64 5)), (18, (Value.bool true))] (j := 1) (by kernel_rfl) (by kernel_rfl) ?_
    refine Ops.done (by kernel_rfl) ?_
    refine q_seq (by kernel_rfl) ?_
    refine q_then (o := .tmp 18) (by kernel_rfl) rfl ?_
    refine q_skip (by kernel_rfl) ?_
    refine q_seq (by kernel_rfl) ?_
    refine q_block (id := 1) (by kernel_rfl) ?_
    refine q_seq (by kernel_rfl) ?_
    refine q_region (by kernel_rfl) ?_
    refine Ops.regs 2 [(2, (ptr b1)), (3, (i64 0)), (4, (ptr b13)), (5, (ptr b25)), (6, (i64 5)), (17, (i64 5)), (18, (Value.bool true))] (j := 2) (by kernel_rfl) (by kernel_rfl) ?_
    refine Ops.done (by kernel_rfl) ?_
    refine q_region (by kernel_rfl) ?_
    refine Ops.regs 2 [(2, (ptr b1)), (3, (i64 0)), (4, (ptr b13)), (5, (ptr b25)), (6, (i64 5)), (17, (i64 5)), (18, (Value.bool true)), (20, (i64 5)), (21, (ptr b13))] (j := 2) (by kernel_rfl) (by kernel_rfl) ?_
    refine Ops.call (by kernel_rfl) (d := (some 22)) (by kernel_rfl) (RdInt_calls _ b13 A14 c15 (((((((((((⟨bs, 0, 0⟩ : Rdr).int).2).int).2).int).2).int).2).int).2) hok71 H70 F73 hne21 ) ?_
    rintro _ w77 ⟨rfl, K78, H79⟩
    have hok80 : ((((((((((((⟨bs, 0, 0⟩ : Rdr).int).2).int).2).int).2).int).2).int).2).int).2.Ok := Rdr.Ok.int hok71
    have hu81 := Rdr.int_range (((((((((((⟨bs, 0, 0⟩ : Rdr).int).2).int).2).int).2).int).2).int).2)
    refine ⟨_, _, rfl, rfl, ?_⟩
    replace K0 := K0.trans K78 (U := none_) (fun i h1 h2 => h2) (fun i h1 h2 => by have h2 : i = b13 := h2; exfalso; omega)
    replace H4 := H4.keep K78 (by intro h; change b1 = b13 at h; omega)
    replace H75 := H75.keep K78 (by intro h; change b25 = b13 at h; omega)
    replace F73 := RdO.keep F73 K78 (fun i _ _ hi hs => by have hs : i = b13 := hs; have := hne21 i _ _ hi; omega)
    clear K78
    have F82 : RdO w77 A14 c15 ((((((((((((⟨bs, 0, 0⟩ : Rdr).int).2).int).2).int).2).int).2).int).2).int).2.bs := by rw [Rdr.int_bs]; exact F73
    clear F73
    refine Ops.regs 1 [(2, (ptr b1)), (3, (i64 0)), (4, (ptr b13)), (5, (ptr b25)), (6, (i64 5)), (17, (i64 5)), (18, (Value.bool true)), (22, (i64 (((((((((((((⟨bs, 0, 0⟩ : Rdr).int).2).int).2).int).2).int).2).int).2).int).1))), (23, (Value.pointer (some ⟨b25, 5, none⟩)))] (j := 4) (by kernel_rfl) (by kernel_rfl) ?_
    refine Ops.put (t := 2) (b := b25) (off := 5) (v := (i64 (((((((((((((⟨bs, 0, 0⟩ : Rdr).int).2).int).2).int).2).int).2).int).2).int).1))) (ys := [(i64 (((⟨bs, 0, 0⟩ : Rdr).int).1)), (i64 (((((⟨bs, 0, 0⟩ : Rdr).int).2).int).1)), (i64 (((((((⟨bs, 0, 0⟩ : Rdr).int).2).int).2).int).1)), (i64 (((((((((⟨bs, 0, 0⟩ : Rdr).int).2).int).2).int).2).int).1)), (i64 (((((((((((⟨bs, 0, 0⟩ : Rdr).int).2).int).2).int).2).int).2).int).1)), (i64 (((((((((((((⟨bs, 0, 0⟩ : Rdr).int).2).int).2).int).2).int).2).int).2).int).1)), (i64 0), (i64 0)]) (by kernel_rfl) (by kernel_rfl) H75 (by kernel_rfl) (d := none) (by kernel_rfl) rfl (fun w83 H84 K85 => ?_)
    clear H75
    replace K0 := K0.trans K85 (U := none_) (fun i h1 h2 => h2) (fun i h1 h2 => by have h2 : i = b25 := h2; exfalso; omega)
    replace H4 := H4.keep K85 (by intro h; change b1 = b25 at h; omega)
    replace H79 := H79.keep K85 (by intro h; change b13 = b25 at h; omega)
    replace F82 := RdO.keep F82 K85 (fun i _ _ hi hs => by have hs : i = b25 := hs; have := ob31 i _ _ hi; omega)
    clear K85
    refine Ops.done (by kernel_rfl) ?_
    refine q_region (by kernel_rfl) ?_
    refine Ops.regs 2 [(2, (ptr b1)), (3, (i64 0)), (4, (ptr b13)), (5, (ptr b25)), (6, (i64 5)), (17, (i64 6)), (18, (Value.bool true))] (j := 2) (by kernel_rfl) (by kernel_rfl) ?_
    refine Ops.done (by kernel_rfl) ?_
    refine roll_step ?_
    refine q_seq (by kernel_rfl) ?_
    refine q_region (by kernel_rfl) ?_
    refine Ops.regs 1 [(2, (ptr b1)), (3, (i64 0)), (4, (ptr b13)), (5, (ptr b25)), (6, (i64 5)), (17, (i64 6)), (18, (Value.bool true))] (j := 1) (by kernel_rfl) (by kernel_rfl) ?_
    refine Ops.done (by kernel_rfl) ?_
    refine q_seq (by kernel_rfl) ?_
    refine q_then (o := .tmp 18) (by kernel_rfl) rfl ?_
    refine q_skip (by kernel_rfl) ?_
    refine q_seq (by kernel_rfl) ?_
    refine q_block (id := 1) (by kernel_rfl) ?_
    refine q_seq (by kernel_rfl) ?_
    refine q_region (by kernel_rfl) ?_
    refine Ops.regs 2 [(2, (ptr b1)), (3, (i64 0)), (4, (ptr b13)), (5, (ptr b25)), (6, (i64 6)), (17, (i64 6)), (18, (Value.bool true))] (j := 2) (by kernel_rfl) (by kernel_rfl) ?_
    refine Ops.done (by kernel_rfl) ?_
    refine q_region (by kernel_rfl) ?_
    refine Ops.regs 2 [(2, (ptr b1)), (3, (i64 0)), (4, (ptr b13)), (5, (ptr b25)), (6, (i64 6)), (17, (i64 6)), (18, (Value.bool true)), (20, (i64 6)), (21, (ptr b13))] (j := 2) (by kernel_rfl) (by kernel_rfl) ?_
    refine Ops.call (by kernel_rfl) (d := (some 22)) (by kernel_rfl) (RdInt_calls _ b13 A14 c15 (((((((((((((⟨bs, 0, 0⟩ : Rdr).int).2).int).2).int).2).int).2).int).2).int).2) hok80 H79 F82 hne21 ) ?_
    rintro _ w86 ⟨rfl, K87, H88⟩
    have hok89 : ((((((((((((((⟨bs, 0, 0⟩ : Rdr).int).2).int).2).int).2).int).2).int).2).int).2).int).2.Ok := Rdr.Ok.int hok80
    have hu90 := Rdr.int_range (((((((((((((⟨bs, 0, 0⟩ : Rdr).int).2).int).2).int).2).int).2).int).2).int).2)
    refine ⟨_, _, rfl, rfl, ?_⟩
    replace K0 := K0.trans K87 (U := none_) (fun i h1 h2 => h2) (fun i h1 h2 => by have h2 : i = b13 := h2; exfalso; omega)
    replace H4 := H4.keep K87 (by intro h; change b1 = b13 at h; omega)
    replace H84 := H84.keep K87 (by intro h; change b25 = b13 at h; omega)
    replace F82 := RdO.keep F82 K87 (fun i _ _ hi hs => by have hs : i = b13 := hs; have := hne21 i _ _ hi; omega)
    clear K87
    have F91 : RdO w86 A14 c15 ((((((((((((((⟨bs, 0, 0⟩ : Rdr).int).2).int).2).int).2).int).2).int).2).int).2).int).2.bs := by rw [Rdr.int_bs]; exact F82
    clear F82
    refine Ops.regs 1 [(2, (ptr b1)), (3, (i64 0)), (4, (ptr b13)), (5, (ptr b25)), (6, (i64 6)), (17, (i64 6)), (18, (Value.bool true)), (22, (i64 (((((((((((((((⟨bs, 0, 0⟩ : Rdr).int).2).int).2).int).2).int).2).int).2).int).2).int).1))), (23, (Value.pointer (some ⟨b25, 6, none⟩)))] (j := 4) (by kernel_rfl) (by kernel_rfl) ?_
    refine Ops.put (t := 2) (b := b25) (off := 6) (v := (i64 (((((((((((((((⟨bs, 0, 0⟩ : Rdr).int).2).int).2).int).2).int).2).int).2).int).2).int).1))) (ys := [(i64 (((⟨bs, 0, 0⟩ : Rdr).int).1)), (i64 (((((⟨bs, 0, 0⟩ : Rdr).int).2).int).1)), (i64 (((((((⟨bs, 0, 0⟩ : Rdr).int).2).int).2).int).1)), (i64 (((((((((⟨bs, 0, 0⟩ : Rdr).int).2).int).2).int).2).int).1)), (i64 (((((((((((⟨bs, 0, 0⟩ : Rdr).int).2).int).2).int).2).int).2).int).1)), (i64 (((((((((((((⟨bs, 0, 0⟩ : Rdr).int).2).int).2).int).2).int).2).int).2).int).1)), (i64 (((((((((((((((⟨bs, 0, 0⟩ : Rdr).int).2).int).2).int).2).int).2).int).2).int).2).int).1)), (i64 0)]) (by kernel_rfl) (by kernel_rfl) H84 (by kernel_rfl) (d := none) (by kernel_rfl) rfl (fun w92 H93 K94 => ?_)
    clear H84
    replace K0 := K0.trans K94 (U := none_) (fun i h1 h2 => h2) (fun i h1 h2 => by have h2 : i = b25 := h2; exfalso; omega)
    replace H4 := H4.keep K94 (by intro h; change b1 = b25 at h; omega)
    replace H88 := H88.keep K94 (by intro h; change b13 = b25 at h; omega)
    replace F91 := RdO.keep F91 K94 (fun i _ _ hi hs => by have hs : i = b25 := hs; have := ob31 i _ _ hi; omega)
    clear K94
    refine Ops.done (by kernel_rfl) ?_
    refine q_region (by kernel_rfl) ?_
    refine Ops.regs 2 [(2, (ptr b1)), (3, (i64 0)), (4, (ptr b13)), (5, (ptr b25)), (6, (i64 6)), (17, (i64 7)), (18, (Value.bool true))] (j := 2) (by kernel_rfl) (by kernel_rfl) ?_
    refine Ops.done (by kernel_rfl) ?_
    refine roll_step ?_
    refine q_seq (by kernel_rfl) ?_
    refine q_region (by kernel_rfl) ?_
    refine Ops.regs 1 [(2, (ptr b1)), (3, (i64 0)), (4, (ptr b13)), (5, (ptr b25)), (6, (i64 6)), (17, (i64 7)), (18, (Value.bool true))] (j := 1) (by kernel_rfl) (by kernel_rfl) ?_
    refine Ops.done (by kernel_rfl) ?_
    refine q_seq (by kernel_rfl) ?_
    refine q_then (o := .tmp 18) (by kernel_rfl) rfl ?_
    refine q_skip (by kernel_rfl) ?_
    refine q_seq (by kernel_rfl) ?_
    refine q_block (id := 1) (by kernel_rfl) ?_
    refine q_seq (by kernel_rfl) ?_
    refine q_region (by kernel_rfl) ?_
    refine Ops.regs 2 [(2, (ptr b1)), (3, (i64 0)), (4, (ptr b13)), (5, (ptr b25)), (6, (i64 7)), (17, (i64 7)), (18, (Value.bool true))] (j := 2) (by kernel_rfl) (by kernel_rfl) ?_
    refine Ops.done (by kernel_rfl) ?_
    refine q_region (by kernel_rfl) ?_
    refine Ops.regs 2 [(2, (ptr b1)), (3, (i64 0)), (4, (ptr b13)), (5, (ptr b25)), (6, (i64 7)), (17, (i64 7)), (18, (Value.bool true)), (20, (i64 7)), (21, (ptr b13))] (j := 2) (by kernel_rfl) (by kernel_rfl) ?_
    refine Ops.call (by kernel_rfl) (d := (some 22)) (by kernel_rfl) (RdInt_calls _ b13 A14 c15 (((((((((((((((⟨bs, 0, 0⟩ : Rdr).int).2).int).2).int).2).int).2).int).2).int).2).int).2) hok89 H88 F91 hne21 ) ?_
    rintro _ w95 ⟨rfl, K96, H97⟩
    have hok98 : ((((((((((((((((⟨bs, 0, 0⟩ : Rdr).int).2).int).2).int).2).int).2).int).2).int).2).int).2).int).2.Ok := Rdr.Ok.int hok89
    have hu99 := Rdr.int_range (((((((((((((((⟨bs, 0, 0⟩ : Rdr).int).2).int).2).int).2).int).2).int).2).int).2).int).2)
    refine ⟨_, _, rfl, rfl, ?_⟩
    replace K0 := K0.trans K96 (U := none_) (fun i h1 h2 => h2) (fun i h1 h2 => by have h2 : i = b13 := h2; exfalso; omega)
    replace H4 := H4.keep K96 (by intro h; change b1 = b13 at h; omega)
    replace H93 := H93.keep K96 (by intro h; change b25 = b13 at h; omega)
    replace F91 := RdO.keep F91 K96 (fun i _ _ hi hs => by have hs : i = b13 := hs; have := hne21 i _ _ hi; omega)
    clear K96
    have F100 : RdO w95 A14 c15 ((((((((((((((((⟨bs, 0, 0⟩ : Rdr).int).2).int).2).int).2).int).2).int).2).int).2).int).2).int).2.bs := by rw [Rdr.int_bs]; exact F91
    clear F91
    refine Ops.regs 1 [(2, (ptr b1)), (3, (i64 0)), (4, (ptr b13)), (5, (ptr b25)), (6, (i64 7)), (17, (i64 7)), (18, (Value.bool true)), (22, (i64 (((((((((((((((((⟨bs, 0, 0⟩ : Rdr).int).2).int).2).int).2).int).2).int).2).int).2).int).2).int).1))), (23, (Value.pointer (some ⟨b25, 7, none⟩)))] (j := 4) (by kernel_rfl) (by kernel_rfl) ?_
    refine Ops.put (t := 2) (b := b25) (off := 7) (v := (i64 (((((((((((((((((⟨bs, 0, 0⟩ : Rdr).int).2).int).2).int).2).int).2).int).2).int).2).int).2).int).1))) (ys := [(i64 (((⟨bs, 0, 0⟩ : Rdr).int).1)), (i64 (((((⟨bs, 0, 0⟩ : Rdr).int).2).int).1)), (i64 (((((((⟨bs, 0, 0⟩ : Rdr).int).2).int).2).int).1)), (i64 (((((((((⟨bs, 0, 0⟩ : Rdr).int).2).int).2).int).2).int).1)), (i64 (((((((((((⟨bs, 0, 0⟩ : Rdr).int).2).int).2).int).2).int).2).int).1)), (i64 (((((((((((((⟨bs, 0, 0⟩ : Rdr).int).2).int).2).int).2).int).2).int).2).int).1)), (i64 (((((((((((((((⟨bs, 0, 0⟩ : Rdr).int).2).int).2).int).2).int).2).int).2).int).2).int).1)), (i64 (((((((((((((((((⟨bs, 0, 0⟩ : Rdr).int).2).int).2).int).2).int).2).int).2).int).2).int).2).int).1))]) (by kernel_rfl) (by kernel_rfl) H93 (by kernel_rfl) (d := none) (by kernel_rfl) rfl (fun w101 H102 K103 => ?_)
    clear H93
    replace K0 := K0.trans K103 (U := none_) (fun i h1 h2 => h2) (fun i h1 h2 => by have h2 : i = b25 := h2; exfalso; omega)
    replace H4 := H4.keep K103 (by intro h; change b1 = b25 at h; omega)
    replace H97 := H97.keep K103 (by intro h; change b13 = b25 at h; omega)
    replace F100 := RdO.keep F100 K103 (fun i _ _ hi hs => by have hs : i = b25 := hs; have := ob31 i _ _ hi; omega)
    clear K103
    refine Ops.done (by kernel_rfl) ?_
    refine q_region (by kernel_rfl) ?_
    refine Ops.regs 2 [(2, (ptr b1)), (3, (i64 0)), (4, (ptr b13)), (5, (ptr b25)), (6, (i64 7)), (17, (i64 8)), (18, (Value.bool true))] (j := 2) (by kernel_rfl) (by kernel_rfl) ?_
    refine Ops.done (by kernel_rfl) ?_
    refine roll_step ?_
    refine q_seq (by kernel_rfl) ?_
    refine q_region (by kernel_rfl) ?_
    refine Ops.regs 1 [(2, (ptr b1)), (3, (i64 0)), (4, (ptr b13)), (5, (ptr b25)), (6, (i64 7)), (17, (i64 8)), (18, (Value.bool false))] (j := 1) (by kernel_rfl) (by kernel_rfl) ?_
    refine Ops.done (by kernel_rfl) ?_
    refine q_seq (by kernel_rfl) ?_
    refine q_else (o := .tmp 18) (by kernel_rfl) rfl ?_
    refine q_exit (id := 0) (by kernel_rfl) ?_
    refine q_seq (by kernel_rfl) ?_
    refine q_draw (fun wz => Keeps (fun i => i = b13) w101 wz) 13 (by kernel_rfl) (by kernel_rfl) (by kernel_rfl) (fun w104 K105 _ _ => ⟨(K105.mono (fun _ _ h => h.elim)), ?_⟩)
    replace K0 := K0.trans K105 (U := none_) (fun i h1 h2 => h2) (fun i h1 h2 => by exact h2)
    replace H4 := H4.keep K105 (fun h => h)
    replace H97 := H97.keep K105 (fun h => h)
    replace H102 := H102.keep K105 (fun h => h)
    replace F100 := RdO.keep0 F100 K105
    refine Dr.strong (S' := (fun wz => Keeps (fun i => i = b13) w104 wz)) ((Keeps.refl w104).mono (fun _ _ h => h.elim)) (fun wz hx => K105.trans hx (fun i _ h => h.elim) (fun _ _ h => h)) ?_
    clear K105
    refine Dr.takes (fuel' := 12) (is' := [0]) [0] [(2, (ptr b1)), (3, (i64 0)), (4, (ptr b13)), (5, (ptr b25)), (25, (Value.pointer (some ⟨b25, 4, none⟩)))] (by kernel_rfl) rfl (by kernel_rfl) ?_
    refine Dr.take (i := 1) (v := (i64 (((((((((((⟨bs, 0, 0⟩ : Rdr).int).2).int).2).int).2).int).2).int).1))) (by kernel_rfl) (by kernel_rfl) (fun wz hS => Runs.load (t := 2) (a := ⟨b25, 4, none⟩) (by kernel_rfl) ((H102.keep hS (by intro h; change b25 = b13 at h; omega)).loads (by kernel_rfl))) (d := (some 26)) (by kernel_rfl) rfl ?_
    refine Dr.takes (fuel' := 10) (is' := [2, 1, 0]) [2] [(2, (ptr b1)), (3, (i64 0)), (4, (ptr b13)), (5, (ptr b25)), (26, (i64 (((((((((((⟨bs, 0, 0⟩ : Rdr).int).2).int).2).int).2).int).2).int).1))), (27, (Value.pointer (some ⟨b25, 5, none⟩)))] (by kernel_rfl) rfl (by kernel_rfl) ?_
    refine Dr.take (i := 3) (v := (i64 (((((((((((((⟨bs, 0, 0⟩ : Rdr).int).2).int).2).int).2).int).2).int).2).int).1))) (by kernel_rfl) (by kernel_rfl) (fun wz hS => Runs.load (t := 2) (a := ⟨b25, 5, none⟩) (by kernel_rfl) ((H102.keep hS (by intro h; change b25 = b13 at h; omega)).loads (by kernel_rfl))) (d := (some 28)) (by kernel_rfl) rfl ?_
    refine Dr.takes (fuel' := 8) (is' := [4, 3, 2, 1, 0]) [4] [(2, (ptr b1)), (3, (i64 0)), (4, (ptr b13)), (5, (ptr b25)), (26, (i64 (((((((((((⟨bs, 0, 0⟩ : Rdr).int).2).int).2).int).2).int).2).int).1))), (28, (i64 (((((((((((((⟨bs, 0, 0⟩ : Rdr).int).2).int).2).int).2).int).2).int).2).int).1))), (29, (Value.pointer (some ⟨b25, 6, none⟩)))] (by kernel_rfl) rfl (by kernel_rfl) ?_
    refine Dr.take (i := 5) (v := (i64 (((((((((((((((⟨bs, 0, 0⟩ : Rdr).int).2).int).2).int).2).int).2).int).2).int).2).int).1))) (by kernel_rfl) (by kernel_rfl) (fun wz hS => Runs.load (t := 2) (a := ⟨b25, 6, none⟩) (by kernel_rfl) ((H102.keep hS (by intro h; change b25 = b13 at h; omega)).loads (by kernel_rfl))) (d := (some 30)) (by kernel_rfl) rfl ?_
    refine Dr.takes (fuel' := 6) (is' := [6, 5, 4, 3, 2, 1, 0]) [6] [(2, (ptr b1)), (3, (i64 0)), (4, (ptr b13)), (5, (ptr b25)), (26, (i64 (((((((((((⟨bs, 0, 0⟩ : Rdr).int).2).int).2).int).2).int).2).int).1))), (28, (i64 (((((((((((((⟨bs, 0, 0⟩ : Rdr).int).2).int).2).int).2).int).2).int).2).int).1))), (30, (i64 (((((((((((((((⟨bs, 0, 0⟩ : Rdr).int).2).int).2).int).2).int).2).int).2).int).2).int).1))), (31, (Value.pointer (some ⟨b25, 7, none⟩)))] (by kernel_rfl) rfl (by kernel_rfl) ?_
    refine Dr.take (i := 7) (v := (i64 (((((((((((((((((⟨bs, 0, 0⟩ : Rdr).int).2).int).2).int).2).int).2).int).2).int).2).int).2).int).1))) (by kernel_rfl) (by kernel_rfl) (fun wz hS => Runs.load (t := 2) (a := ⟨b25, 7, none⟩) (by kernel_rfl) ((H102.keep hS (by intro h; change b25 = b13 at h; omega)).loads (by kernel_rfl))) (d := (some 32)) (by kernel_rfl) rfl ?_
    refine Dr.takes (fuel' := 4) (is' := [8, 7, 6, 5, 4, 3, 2, 1, 0]) [8] [(2, (ptr b1)), (3, (i64 0)), (4, (ptr b13)), (5, (ptr b25)), (26, (i64 (((((((((((⟨bs, 0, 0⟩ : Rdr).int).2).int).2).int).2).int).2).int).1))), (28, (i64 (((((((((((((⟨bs, 0, 0⟩ : Rdr).int).2).int).2).int).2).int).2).int).2).int).1))), (30, (i64 (((((((((((((((⟨bs, 0, 0⟩ : Rdr).int).2).int).2).int).2).int).2).int).2).int).2).int).1))), (32, (i64 (((((((((((((((((⟨bs, 0, 0⟩ : Rdr).int).2).int).2).int).2).int).2).int).2).int).2).int).2).int).1))), (33, (ptr b13))] (by kernel_rfl) rfl (by kernel_rfl) ?_
    refine Dr.call_new (fuel := 1) (i := 9) (j := 11) (rb := b13) (new := rowL (rdrL A14 c15 (((((((((((((((((((⟨bs, 0, 0⟩ : Rdr).int).2).int).2).int).2).int).2).int).2).int).2).int).2).int).2).bool_).2)) 88) (val := (Value.bool (((((((((((((((((((⟨bs, 0, 0⟩ : Rdr).int).2).int).2).int).2).int).2).int).2).int).2).int).2).int).2).bool_).1))) (o := rowL [(i64 0), (i64 0), (i64 0), (i64 0), (i64 0), (i64 0), (i64 0), (i64 0), (Value.bool false), (Value.slice none 0 0), (Value.slice none 0 0)] 49) (V := fun b => (ptr b)) (La := [(2, (ptr b1)), (3, (i64 0)), (4, (ptr b13)), (5, (ptr b25)), (35, (agg [(i64 0), (i64 0), (i64 0), (i64 0), (i64 (((((((((((⟨bs, 0, 0⟩ : Rdr).int).2).int).2).int).2).int).2).int).1)), (i64 (((((((((((((⟨bs, 0, 0⟩ : Rdr).int).2).int).2).int).2).int).2).int).2).int).1)), (i64 (((((((((((((((⟨bs, 0, 0⟩ : Rdr).int).2).int).2).int).2).int).2).int).2).int).2).int).1)), (i64 (((((((((((((((((⟨bs, 0, 0⟩ : Rdr).int).2).int).2).int).2).int).2).int).2).int).2).int).2).int).1)), (Value.bool (((((((((((((((((((⟨bs, 0, 0⟩ : Rdr).int).2).int).2).int).2).int).2).int).2).int).2).int).2).int).2).bool_).1)), (Value.slice none 0 0), (Value.slice none 0 0)]))]) (Rl := fun b => [(2, (ptr b1)), (3, (i64 0)), (4, (ptr b13)), (5, (ptr b25)), (7, (ptr b)), (35, (agg [(i64 0), (i64 0), (i64 0), (i64 0), (i64 (((((((((((⟨bs, 0, 0⟩ : Rdr).int).2).int).2).int).2).int).2).int).1)), (i64 (((((((((((((⟨bs, 0, 0⟩ : Rdr).int).2).int).2).int).2).int).2).int).2).int).1)), (i64 (((((((((((((((⟨bs, 0, 0⟩ : Rdr).int).2).int).2).int).2).int).2).int).2).int).2).int).1)), (i64 (((((((((((((((((⟨bs, 0, 0⟩ : Rdr).int).2).int).2).int).2).int).2).int).2).int).2).int).2).int).1)), (Value.bool (((((((((((((((((((⟨bs, 0, 0⟩ : Rdr).int).2).int).2).int).2).int).2).int).2).int).2).int).2).int).2).bool_).1)), (Value.slice none 0 0), (Value.slice none 0 0)]))]) [10] (by kernel_rfl) (.inl rfl) (by kernel_rfl) (di := (some 34)) (by kernel_rfl) rfl (by kernel_rfl) (by kernel_rfl) (by kernel_rfl) (dj := (some 7)) (by kernel_rfl) (fun b => rfl) (by kernel_rfl) (fun b => rfl) (by kernel_rfl) (fun b => by kernel_rfl) (fun b => rfl) (fun b => by kernel_rfl) (by kernel_rfl) H97 (fun w1 kz => RdBool_calls _ b13 A14 c15 (((((((((((((((((⟨bs, 0, 0⟩ : Rdr).int).2).int).2).int).2).int).2).int).2).int).2).int).2).int).2) hok98 (H97.keep kz (fun h => h)) (RdO.keep0 F100 kz) hne21 ) (fun w1 kz => kz) ?_
    intro b114 w115 K116 H117 H118 q119
    have hok109 : ((((((((((((((((((⟨bs, 0, 0⟩ : Rdr).int).2).int).2).int).2).int).2).int).2).int).2).int).2).int).2).bool_).2.Ok := Rdr.Ok.bool_ hok98
    have lb114b1 : b1 < b114 := by have := H4.lt; omega
    have lb114b13 : b13 < b114 := by have := H97.lt; omega
    have lb114b25 : b25 < b114 := by have := H102.lt; omega
    have nb114 : w.heap.size ≤ b114 := by have := K0.size; omega
    have ob121 : ∀ i o s, A14 = some ⟨i, o, s⟩ → i ≠ b114 := fun i o s hi => by have := F100.2 i o s hi; omega
    replace K0 := K0.trans K116 (U := none_) (fun i h1 h2 => h2) (fun i h1 h2 => by have h2 : i = b13 := h2; exfalso; omega)
    replace H4 := H4.keep K116 (by intro h; change b1 = b13 at h; omega)
    replace H102 := H102.keep K116 (by intro h; change b25 = b13 at h; omega)
    replace F100 := RdO.keep F100 K116 (fun i _ _ hi hs => by have hs : i = b13 := hs; have := hne21 i _ _ hi; omega)
    have F122 : RdO w115 A14 c15 ((((((((((((((((((⟨bs, 0, 0⟩ : Rdr).int).2).int).2).int).2).int).2).int).2).int).2).int).2).int).2).bool_).2.bs := by rw [Rdr.bool_bs]; exact F100
    clear F100
    refine Dr.strong (S' := (fun wz => Keeps (fun i => i = b13 ∨ i = b114) w115 wz)) ((Keeps.refl w115).mono (fun _ _ h => h.elim)) (fun wz hx => K116.trans hx (U := (fun i => i = b13)) (fun i _ h => by have h : i = b13 := h; show i = b13; omega) (fun i hi h => by have h : i = b13 ∨ i = b114 := h; show i = b13; omega)) ?_
    refine Dr.put (i := 12) (t := 49) (b := b114) (off := 0) (v := (agg [(i64 0), (i64 0), (i64 0), (i64 0), (i64 (((((((((((⟨bs, 0, 0⟩ : Rdr).int).2).int).2).int).2).int).2).int).1)), (i64 (((((((((((((⟨bs, 0, 0⟩ : Rdr).int).2).int).2).int).2).int).2).int).2).int).1)), (i64 (((((((((((((((⟨bs, 0, 0⟩ : Rdr).int).2).int).2).int).2).int).2).int).2).int).2).int).1)), (i64 (((((((((((((((((⟨bs, 0, 0⟩ : Rdr).int).2).int).2).int).2).int).2).int).2).int).2).int).2).int).1)), (Value.bool (((((((((((((((((((⟨bs, 0, 0⟩ : Rdr).int).2).int).2).int).2).int).2).int).2).int).2).int).2).int).2).bool_).1)), (Value.slice none 0 0), (Value.slice none 0 0)])) (ys := [(i64 0), (i64 0), (i64 0), (i64 0), (i64 (((((((((((⟨bs, 0, 0⟩ : Rdr).int).2).int).2).int).2).int).2).int).1)), (i64 (((((((((((((⟨bs, 0, 0⟩ : Rdr).int).2).int).2).int).2).int).2).int).2).int).1)), (i64 (((((((((((((((⟨bs, 0, 0⟩ : Rdr).int).2).int).2).int).2).int).2).int).2).int).2).int).1)), (i64 (((((((((((((((((⟨bs, 0, 0⟩ : Rdr).int).2).int).2).int).2).int).2).int).2).int).2).int).2).int).1)), (Value.bool (((((((((((((((((((⟨bs, 0, 0⟩ : Rdr).int).2).int).2).int).2).int).2).int).2).int).2).int).2).int).2).bool_).1)), (Value.slice none 0 0), (Value.slice none 0 0)]) (by kernel_rfl) (by kernel_rfl) (by kernel_rfl) H118 (by kernel_rfl) (d := none) (by kernel_rfl) rfl (fun w123 H124 K125 => ?_)
    clear H118
    replace K0 := K0.trans K125 (U := none_) (fun i h1 h2 => h2) (fun i h1 h2 => by have h2 : i = b114 := h2; exfalso; omega)
    replace H4 := H4.keep K125 (by intro h; change b1 = b114 at h; omega)
    replace H117 := H117.keep K125 (by intro h; change b13 = b114 at h; omega)
    replace H102 := H102.keep K125 (by intro h; change b25 = b114 at h; omega)
    replace F122 := RdO.keep F122 K125 (fun i _ _ hi hs => by have hs : i = b114 := hs; have := ob121 i _ _ hi; omega)
    refine ⟨(K125.mono (fun i _ h => by have h : i = b114 := h; show i = b13 ∨ i = b114; omega)), ?_⟩
    refine Dr.strong (S' := (fun wz => Keeps (fun i => i = b13 ∨ i = b114) w123 wz)) ((Keeps.refl w123).mono (fun _ _ h => h.elim)) (fun wz hx => K125.trans hx (fun i _ h => by have h : i = b114 := h; show i = b13 ∨ i = b114; omega) (fun _ _ h => h)) ?_
    clear K125
    refine Dr.done (by kernel_rfl) ?_
    refine q_seq (by kernel_rfl) ?_
    refine q_seq (by kernel_rfl) ?_
    refine q_region (by kernel_rfl) ?_
    refine Ops.regs 1 [(2, (ptr b1)), (3, (i64 0)), (4, (ptr b13)), (5, (ptr b25)), (7, (ptr b114)), (36, (ptr b13))] (j := 1) (by kernel_rfl) (by kernel_rfl) ?_
    refine Ops.call (by kernel_rfl) (d := (some 37)) (by kernel_rfl) (Count_calls _ b13 A14 c15 (((((((((((((((((((⟨bs, 0, 0⟩ : Rdr).int).2).int).2).int).2).int).2).int).2).int).2).int).2).int).2).bool_).2) hok109 H117 F122 hne21 4096 (by omega)) ?_
    rintro _ w126 ⟨rfl, K127, H128⟩
    have hok129 : ((((((((((((((((((((⟨bs, 0, 0⟩ : Rdr).int).2).int).2).int).2).int).2).int).2).int).2).int).2).int).2).bool_).2).sized 4096).2.Ok := Rdr.Ok.sized hok109 4096
    have hu130 := Rdr.sized_le hok109 4096
    have hu131 := Rdr.sized_lt (((((((((((((((((((⟨bs, 0, 0⟩ : Rdr).int).2).int).2).int).2).int).2).int).2).int).2).int).2).int).2).bool_).2) 4096
    refine ⟨_, _, rfl, rfl, ?_⟩
    replace K0 := K0.trans K127 (U := none_) (fun i h1 h2 => h2) (fun i h1 h2 => by have h2 : i = b13 := h2; exfalso; omega)
    replace H4 := H4.keep K127 (by intro h; change b1 = b13 at h; omega)
    replace H102 := H102.keep K127 (by intro h; change b25 = b13 at h; omega)
    replace H124 := H124.keep K127 (by intro h; change b114 = b13 at h; omega)
    replace F122 := RdO.keep F122 K127 (fun i _ _ hi hs => by have hs : i = b13 := hs; have := hne21 i _ _ hi; omega)
    clear K127
    have F132 : RdO w126 A14 c15 ((((((((((((((((((((⟨bs, 0, 0⟩ : Rdr).int).2).int).2).int).2).int).2).int).2).int).2).int).2).int).2).bool_).2).sized 4096).2.bs := by rw [Rdr.sized_bs]; exact F122
    clear F122
    refine Ops.regs 1 [(2, (ptr b1)), (3, (i64 0)), (4, (ptr b13)), (5, (ptr b25)), (7, (ptr b114)), (37, (i64 ((((((((((((((((((((((⟨bs, 0, 0⟩ : Rdr).int).2).int).2).int).2).int).2).int).2).int).2).int).2).int).2).bool_).2).sized 4096).1 : Nat) : Int))), (38, (i64 0))] (j := 3) (by kernel_rfl) (by kernel_rfl) ?_
    refine Ops.done (by kernel_rfl) ?_
    refine q_block (id := 2) (by kernel_rfl) ?_
    have hN : (⟨bs, 0, 0⟩ : Rdr).mcnt.1 = ((((((((((((((((((((⟨bs, 0, 0⟩ : Rdr).int).2).int).2).int).2).int).2).int).2).int).2).int).2).int).2).bool_).2).sized 4096).1 := rfl
    have hNle : (⟨bs, 0, 0⟩ : Rdr).mcnt.1 ≤ 4096 := by have := Rdr.sized_most (⟨bs, 0, 0⟩ : Rdr).mok.2 4096; show ((⟨bs, 0, 0⟩ : Rdr).mok.2.sized 4096).1 ≤ 4096; omega
    refine q_keep (R := [(2, (ptr b1)), (3, (i64 0)), (4, (ptr b13)), (5, (ptr b25)), (7, (ptr b114)), (37, (i64 ((((((((((((((((((((((⟨bs, 0, 0⟩ : Rdr).int).2).int).2).int).2).int).2).int).2).int).2).int).2).int).2).bool_).2).sized 4096).1 : Nat) : Int))), (38, (i64 0))]) (by kernel_rfl) ?_
    refine q_loop (fun (gs : (Option Addr) × Nat × Nat × (List EntP) × Rdr) L (wx : World) => match gs with | (VA, vc, i, l, R) => L = [(2, (ptr b1)), (3, (i64 0)), (4, (ptr b13)), (5, (ptr b25)), (7, (ptr b114)), (37, (i64 ((((((((((((((((((((((⟨bs, 0, 0⟩ : Rdr).int).2).int).2).int).2).int).2).int).2).int).2).int).2).int).2).bool_).2).sized 4096).1 : Nat) : Int))), (38, (i64 ((i : Nat) : Int)))] ∧ RdO wx A14 c15 R.bs ∧ OwnE wx w.heap.size 97 (Value.slice VA l.length vc) l ∧ (∀ i, ((Value.slice VA l.length vc)).ownBlock = some i → i ≠ b1) ∧ (∀ i, ((Value.slice VA l.length vc)).ownBlock = some i → i ≠ b13) ∧ (∀ i, ((Value.slice VA l.length vc)).ownBlock = some i → i ≠ b25) ∧ (∀ i, ((Value.slice VA l.length vc)).ownBlock = some i → i ≠ b114) ∧ (∀ i o s, A14 = some ⟨i, o, s⟩ → ((Value.slice VA l.length vc)).ownBlock = some i → False) ∧ EntsMine 5 wx w.heap.size (.slice VA l.length vc) l ∧ (∀ x ∈ l, ∀ g o s, x.A = some ⟨g, o, s⟩ → g ≠ b1) ∧ (∀ x ∈ l, ∀ g o s, x.A = some ⟨g, o, s⟩ → g ≠ b13) ∧ (∀ x ∈ l, ∀ g o s, x.A = some ⟨g, o, s⟩ → g ≠ b25) ∧ (∀ x ∈ l, ∀ g o s, x.A = some ⟨g, o, s⟩ → g ≠ b114) ∧ R.Ok ∧ l.map EntP.key ++ (Rdr.ents ((⟨bs, 0, 0⟩ : Rdr).mcnt.1 - i) R).1 = (Rdr.ents (⟨bs, 0, 0⟩ : Rdr).mcnt.1 (⟨bs, 0, 0⟩ : Rdr).mcnt.2).1 ∧ (Rdr.ents ((⟨bs, 0, 0⟩ : Rdr).mcnt.1 - i) R).2 = (Rdr.ents (⟨bs, 0, 0⟩ : Rdr).mcnt.1 (⟨bs, 0, 0⟩ : Rdr).mcnt.2).2 ∧ i ≤ (⟨bs, 0, 0⟩ : Rdr).mcnt.1 ∧ l.length ≤ i ∧ EntsOk l ∧ EntsApart l ∧ Keeps none_ w wx ∧ Has wx b1 (rowL [(i64 0), (i64 0), (i64 0), (i64 0), (i64 0), (i64 0), (i64 0), (i64 0), (Value.bool false), (Value.slice none 0 0), (Value.slice none 0 0)] 49) ∧ Has wx b13 (rowL (rdrL A14 c15 R) 88) ∧ Has wx b25 (rowL [(i64 (((⟨bs, 0, 0⟩ : Rdr).int).1)), (i64 (((((⟨bs, 0, 0⟩ : Rdr).int).2).int).1)), (i64 (((((((⟨bs, 0, 0⟩ : Rdr).int).2).int).2).int).1)), (i64 (((((((((⟨bs, 0, 0⟩ : Rdr).int).2).int).2).int).2).int).1)), (i64 (((((((((((⟨bs, 0, 0⟩ : Rdr).int).2).int).2).int).2).int).2).int).1)), (i64 (((((((((((((⟨bs, 0, 0⟩ : Rdr).int).2).int).2).int).2).int).2).int).2).int).1)), (i64 (((((((((((((((⟨bs, 0, 0⟩ : Rdr).int).2).int).2).int).2).int).2).int).2).int).2).int).1)), (i64 (((((((((((((((((⟨bs, 0, 0⟩ : Rdr).int).2).int).2).int).2).int).2).int).2).int).2).int).2).int).1))] 104) ∧ Has wx b114 (rowL [(i64 0), (i64 0), (i64 0), (i64 0), (i64 (((((((((((⟨bs, 0, 0⟩ : Rdr).int).2).int).2).int).2).int).2).int).1)), (i64 (((((((((((((⟨bs, 0, 0⟩ : Rdr).int).2).int).2).int).2).int).2).int).2).int).1)), (i64 (((((((((((((((⟨bs, 0, 0⟩ : Rdr).int).2).int).2).int).2).int).2).int).2).int).2).int).1)), (i64 (((((((((((((((((⟨bs, 0, 0⟩ : Rdr).int).2).int).2).int).2).int).2).int).2).int).2).int).2).int).1)), (Value.bool (((((((((((((((((((⟨bs, 0, 0⟩ : Rdr).int).2).int).2).int).2).int).2).int).2).int).2).int).2).int).2).bool_).1)), (Value.slice VA l.length vc), (Value.slice none 0 0)] 49)) (fun (gs : (Option Addr) × Nat × Nat × (List EntP) × Rdr) => match gs with | (VA, vc, i, l, R) => (⟨bs, 0, 0⟩ : Rdr).mcnt.1 - i) (none, 0, 0, [], ((((((((((((((((((((⟨bs, 0, 0⟩ : Rdr).int).2).int).2).int).2).int).2).int).2).int).2).int).2).int).2).bool_).2).sized 4096).2) (by kernel_rfl) ⟨rfl, F132, (OwnT.nil _ _ _ _ _), (fun i hi => by cases hi), (fun i hi => by cases hi), (fun i hi => by cases hi), (fun i hi => by cases hi), (fun _ _ _ _ h => by cases h), (EntsMine.nil _ _ _), (fun y hy => by cases hy), (fun y hy => by cases hy), (fun y hy => by cases hy), (fun y hy => by cases hy), hok129, rfl, rfl, Nat.zero_le _, Nat.le_refl _, (fun y hy => by cases hy), EntsApart.nil, K0, H4, H128, H102, H124⟩ ?_
    clear H4 H128 H102 H124 F132 K0
    rintro ⟨VA, vc, i, l, R⟩ _ w133 ⟨rfl, hRdA14, hOV, obVb1, obVb13, obVb25, obVb114, ooVA14, hM, oeb1, oeb13, oeb25, oeb114, hokR, hE, hF, hi, hll, hlo, hpw, K134, H135, H136, H137, H138⟩
    have hMo := hM.own
    have hNle2 := hNle
    refine q_seq (by kernel_rfl) ?_
    refine q_region (by kernel_rfl) ?_
    refine Ops.regs 1 [(2, (ptr b1)), (3, (i64 0)), (4, (ptr b13)), (5, (ptr b25)), (7, (ptr b114)), (37, (i64 ((((((((((((((((((((((⟨bs, 0, 0⟩ : Rdr).int).2).int).2).int).2).int).2).int).2).int).2).int).2).int).2).bool_).2).sized 4096).1 : Nat) : Int))), (38, (i64 ((i : Nat) : Int))), (39, (Value.bool (decide (((i : Nat) : Int) < ((((((((((((((((((((((⟨bs, 0, 0⟩ : Rdr).int).2).int).2).int).2).int).2).int).2).int).2).int).2).int).2).bool_).2).sized 4096).1 : Nat) : Int)))))] (j := 1) (by kernel_rfl) (by kernel_rfl) ?_
    refine Ops.done (by kernel_rfl) ?_
    refine q_seq (by kernel_rfl) ?_
    refine q_cond (o := .tmp 39) (b := (decide (((i : Nat) : Int) < ((((((((((((((((((((((⟨bs, 0, 0⟩ : Rdr).int).2).int).2).int).2).int).2).int).2).int).2).int).2).int).2).bool_).2).sized 4096).1 : Nat) : Int)))) (by kernel_rfl) rfl (fun h139 => ?_) (fun h139 => ?_)
    · rw [h139]
      have p140 : ((i : Nat) : Int) < ((((((((((((((((((((((⟨bs, 0, 0⟩ : Rdr).int).2).int).2).int).2).int).2).int).2).int).2).int).2).int).2).bool_).2).sized 4096).1 : Nat) : Int) := of_decide_eq_true h139
      refine q_skip (by kernel_rfl) ?_
      refine q_seq (by kernel_rfl) ?_
      refine q_block (id := 3) (by kernel_rfl) ?_
      refine q_seq (by kernel_rfl) ?_
      refine q_seq (by kernel_rfl) ?_
      refine q_region (by kernel_rfl) ?_
      refine Ops.regs 1 [(2, (ptr b1)), (3, (i64 0)), (4, (ptr b13)), (5, (ptr b25)), (7, (ptr b114)), (37, (i64 ((((((((((((((((((((((⟨bs, 0, 0⟩ : Rdr).int).2).int).2).int).2).int).2).int).2).int).2).int).2).int).2).bool_).2).sized 4096).1 : Nat) : Int))), (38, (i64 ((i : Nat) : Int))), (39, (Value.bool true)), (40, (ptr b13))] (j := 1) (by kernel_rfl) (by kernel_rfl) ?_
      refine Ops.call (by kernel_rfl) (d := (some 41)) (by kernel_rfl) (ok_calls _ b13 A14 c15 R hokR H136 hRdA14 hne21) ?_
      rintro _ w141 ⟨rfl, K142⟩
      refine ⟨_, _, rfl, rfl, ?_⟩
      replace K134 := K134.trans K142 (U := none_) (fun i h1 h2 => h2) (fun i h1 h2 => by exact h2)
      replace H135 := H135.keep K142 (fun h => h)
      replace H136 := H136.keep K142 (fun h => h)
      replace H137 := H137.keep K142 (fun h => h)
      replace H138 := H138.keep K142 (fun h => h)
      replace hRdA14 := RdO.keep0 hRdA14 K142
      replace hOV := own_keep0 hOV K142
      replace hM := hM.keep2 K142 (fun _ _ _ _ _ _ h => h)
      clear K142
      refine Ops.regs 1 [(2, (ptr b1)), (3, (i64 0)), (4, (ptr b13)), (5, (ptr b25)), (7, (ptr b114)), (37, (i64 ((((((((((((((((((((((⟨bs, 0, 0⟩ : Rdr).int).2).int).2).int).2).int).2).int).2).int).2).int).2).int).2).bool_).2).sized 4096).1 : Nat) : Int))), (38, (i64 ((i : Nat) : Int))), (39, (Value.bool true)), (42, (Value.bool (!(R.why == 0))))] (j := 3) (by kernel_rfl) (by kernel_rfl) ?_
      refine Ops.done (by kernel_rfl) ?_
      refine q_cond (o := .tmp 42) (b := (!(R.why == 0))) (by kernel_rfl) rfl (fun h143 => ?_) (fun h143 => ?_)
      · rw [h143]
        have p144 : ¬ (R.why = 0) := of_beq_f (bnot_true h143)
        have hd := Rdr.ents_done hE hF (by omega)
        have hme : (⟨bs, 0, 0⟩ : Rdr).ments = (l.map EntP.key, R) := Prod.ext hd.1 hd.2
        have hmd : (⟨bs, 0, 0⟩ : Rdr).mdata = R.bytes := by unfold Rdr.mdata; rw [hme]
        refine q_exit (id := 2) (by kernel_rfl) ?_
        refine q_seq (by kernel_rfl) ?_
        refine q_region (by kernel_rfl) ?_
        refine Ops.regs 1 [(2, (ptr b1)), (3, (i64 0)), (4, (ptr b13)), (5, (ptr b25)), (7, (ptr b114)), (56, (ptr b13))] (j := 1) (by kernel_rfl) (by kernel_rfl) ?_
        refine Ops.call (by kernel_rfl) (d := (some 57)) (by kernel_rfl) (RdBytes_calls _ b13 A14 c15 R hokR H136 hRdA14 hne21 ) ?_
        rintro _ w145 ⟨v150, rfl, K146, hO151, H147⟩
        obtain ⟨A162, c163, hf164⟩ := RdB.form (OwnB.rd hO151)
        subst hf164
        have hok148 : (R.bytes).2.Ok := Rdr.Ok.bytes hokR
        have hu149 := Rdr.bytes_le hokR
        have ob153 : ∀ i, ((Value.slice A162 (((R.bytes).1).length) c163)).ownBlock = some i → i ≠ b1 := fun i hi => by have := (World.ownsRow.lt hO151 i hi).1; have := H135.lt; omega
        have ob154 : ∀ i, ((Value.slice A162 (((R.bytes).1).length) c163)).ownBlock = some i → i ≠ b13 := fun i hi => by have := (World.ownsRow.lt hO151 i hi).1; have := H136.lt; omega
        have ob155 : ∀ i, ((Value.slice A162 (((R.bytes).1).length) c163)).ownBlock = some i → i ≠ b25 := fun i hi => by have := (World.ownsRow.lt hO151 i hi).1; have := H137.lt; omega
        have ob156 : ∀ i, ((Value.slice A162 (((R.bytes).1).length) c163)).ownBlock = some i → i ≠ b114 := fun i hi => by have := (World.ownsRow.lt hO151 i hi).1; have := H138.lt; omega
        have oo157 : ∀ i o s, A14 = some ⟨i, o, s⟩ → ((Value.slice A162 (((R.bytes).1).length) c163)).ownBlock = some i → False := fun i o s hi hs => by have := (World.ownsRow.lt hO151 i hs).1; have := hRdA14.2 i o s hi; omega
        have oo159 : ∀ i, ((Value.slice VA l.length vc)).ownBlock = some i → ((Value.slice A162 (((R.bytes).1).length) c163)).ownBlock = some i → False := fun i hi hs => by have := (World.ownsRow.lt hO151 i hs).1; have := (World.ownsRow.lt hOV i hi).2; omega
        have oo160 : ∀ i, ((Value.slice A162 (((R.bytes).1).length) c163)).ownBlock = some i → ((Value.slice VA l.length vc)).ownBlock = some i → False := fun i hi hs => oo159 i hs hi
        have oo161 : ∀ y ∈ (l), ∀ g o s, y.A = some ⟨g, o, s⟩ → ((Value.slice A162 (((R.bytes).1).length) c163)).ownBlock = some g → False := fun y hy g o s hA hs => by have := (World.ownsRow.lt hO151 g hs).1; have := EntsMine.lt hM y hy g o s hA; omega
        have O152 := own_base hO151 K134.size
        clear hO151
        refine ⟨_, _, rfl, rfl, ?_⟩
        replace K134 := K134.trans K146 (U := none_) (fun i h1 h2 => h2) (fun i h1 h2 => by have h2 : i = b13 := h2; exfalso; omega)
        replace H135 := H135.keep K146 (by intro h; change b1 = b13 at h; omega)
        replace H137 := H137.keep K146 (by intro h; change b25 = b13 at h; omega)
        replace H138 := H138.keep K146 (by intro h; change b114 = b13 at h; omega)
        replace hRdA14 := RdO.keep hRdA14 K146 (fun i _ _ hi hs => by have hs : i = b13 := hs; have := hne21 i _ _ hi; omega)
        replace hOV := own_keep hOV K146 (fun i hi hs => by have hs : i = b13 := hs; have := obVb13 i hi; omega)
        replace hM := EntsMine.keep2 hM K146 (fun x hx i o s hA hs => by have hs : i = b13 := hs; exact oeb13 x hx i o s hA hs)
        clear K146
        have F165 : RdO w145 A14 c15 (R.bytes).2.bs := by rw [Rdr.bytes_bs]; exact hRdA14
        clear hRdA14
        refine Ops.regs 1 [(2, (ptr b1)), (3, (i64 0)), (4, (ptr b13)), (5, (ptr b25)), (7, (ptr b114)), (57, (Value.slice A162 (((R.bytes).1).length) c163)), (58, (Value.pointer (some ⟨b114, 10, none⟩)))] (j := 3) (by kernel_rfl) (by kernel_rfl) ?_
        refine Ops.put (t := 23) (b := b114) (off := 10) (v := (Value.slice A162 (((R.bytes).1).length) c163)) (ys := [(i64 0), (i64 0), (i64 0), (i64 0), (i64 (((((((((((⟨bs, 0, 0⟩ : Rdr).int).2).int).2).int).2).int).2).int).1)), (i64 (((((((((((((⟨bs, 0, 0⟩ : Rdr).int).2).int).2).int).2).int).2).int).2).int).1)), (i64 (((((((((((((((⟨bs, 0, 0⟩ : Rdr).int).2).int).2).int).2).int).2).int).2).int).2).int).1)), (i64 (((((((((((((((((⟨bs, 0, 0⟩ : Rdr).int).2).int).2).int).2).int).2).int).2).int).2).int).2).int).1)), (Value.bool (((((((((((((((((((⟨bs, 0, 0⟩ : Rdr).int).2).int).2).int).2).int).2).int).2).int).2).int).2).int).2).bool_).1)), (Value.slice VA l.length vc), (Value.slice A162 (((R.bytes).1).length) c163)]) (by kernel_rfl) (by kernel_rfl) H138 (by kernel_rfl) (d := none) (by kernel_rfl) rfl (fun w166 H167 K168 => ?_)
        clear H138
        replace K134 := K134.trans K168 (U := none_) (fun i h1 h2 => h2) (fun i h1 h2 => by have h2 : i = b114 := h2; exfalso; omega)
        replace H135 := H135.keep K168 (by intro h; change b1 = b114 at h; omega)
        replace H147 := H147.keep K168 (by intro h; change b13 = b114 at h; omega)
        replace H137 := H137.keep K168 (by intro h; change b25 = b114 at h; omega)
        replace F165 := RdO.keep F165 K168 (fun i _ _ hi hs => by have hs : i = b114 := hs; have := ob121 i _ _ hi; omega)
        replace hOV := own_keep hOV K168 (fun i hi hs => by have hs : i = b114 := hs; have := obVb114 i hi; omega)
        replace hM := EntsMine.keep2 hM K168 (fun x hx i o s hA hs => by have hs : i = b114 := hs; exact oeb114 x hx i o s hA hs)
        replace O152 := own_keep O152 K168 (fun i hi hs => by have hs : i = b114 := hs; have := ob156 i hi; omega)
        clear K168
        refine Ops.done (by kernel_rfl) ?_
        refine q_seq (by kernel_rfl) ?_
        refine q_seq (by kernel_rfl) ?_
        refine q_region (by kernel_rfl) ?_
        refine Ops.regs 1 [(2, (ptr b1)), (3, (i64 0)), (5, (ptr b25)), (7, (ptr b114)), (59, (ptr b13))] (j := 1) (by kernel_rfl) (by kernel_rfl) ?_
        refine Ops.call (by kernel_rfl) (d := (some 60)) (by kernel_rfl) (RdEnd_calls _ b13 A14 c15 ((R.bytes).2) hok148 H147 F165 hne21) ?_
        rintro _ w169 ⟨rfl, K170⟩
        refine ⟨_, _, rfl, rfl, ?_⟩
        replace K134 := K134.trans K170 (U := none_) (fun i h1 h2 => h2) (fun i h1 h2 => by exact h2)
        replace H135 := H135.keep K170 (fun h => h)
        replace H147 := H147.keep K170 (fun h => h)
        replace H137 := H137.keep K170 (fun h => h)
        replace H167 := H167.keep K170 (fun h => h)
        replace F165 := RdO.keep0 F165 K170
        replace hOV := own_keep0 hOV K170
        replace hM := hM.keep2 K170 (fun _ _ _ _ _ _ h => h)
        replace O152 := own_keep0 O152 K170
        clear K170
        refine Ops.regs 1 [(2, (ptr b1)), (3, (i64 0)), (5, (ptr b25)), (7, (ptr b114)), (9, (i64 (((R.bytes).2).end_)))] (j := 3) (by kernel_rfl) (by kernel_rfl) ?_
        refine Ops.done (by kernel_rfl) ?_
        refine q_seq (by kernel_rfl) ?_
        refine q_region (by kernel_rfl) ?_
        refine Ops.regs 2 [(2, (ptr b1)), (3, (i64 0)), (5, (ptr b25)), (7, (ptr b114)), (9, (i64 (((R.bytes).2).end_))), (62, (Value.bool ((((R.bytes).2).end_) != 0)))] (j := 2) (by kernel_rfl) (by kernel_rfl) ?_
        refine Ops.done (by kernel_rfl) ?_
        refine q_cond (o := .tmp 62) (b := ((((R.bytes).2).end_) != 0)) (by kernel_rfl) rfl (fun h171 => ?_) (fun h171 => ?_)
        · rw [h171]
          have p172 : ¬ (((R.bytes).2).end_ = 0) := of_bne_t h171
          refine q_seq (by kernel_rfl) ?_
          refine q_region (by kernel_rfl) ?_
          refine Ops.regs 2 [(2, (ptr b1)), (3, (i64 0)), (5, (ptr b25)), (7, (ptr b114)), (63, (agg [(i64 0), (i64 0), (i64 0), (i64 0), (i64 0), (i64 0), (i64 0), (i64 0), (Value.bool false), (Value.slice none 0 0), (Value.slice none 0 0)])), (64, (i64 (((R.bytes).2).end_)))] (j := 2) (by kernel_rfl) (by kernel_rfl) ?_
          refine Ops.put (t := 49) (b := b1) (off := 0) (v := (agg [(i64 0), (i64 0), (i64 0), (i64 0), (i64 0), (i64 0), (i64 0), (i64 0), (Value.bool false), (Value.slice none 0 0), (Value.slice none 0 0)])) (ys := [(i64 0), (i64 0), (i64 0), (i64 0), (i64 0), (i64 0), (i64 0), (i64 0), (Value.bool false), (Value.slice none 0 0), (Value.slice none 0 0)]) (by kernel_rfl) (by kernel_rfl) H135 (by kernel_rfl) (d := none) (by kernel_rfl) rfl (fun w173 H174 K175 => ?_)
          clear H135
          replace K134 := K134.trans K175 (U := none_) (fun i h1 h2 => h2) (fun i h1 h2 => by have h2 : i = b1 := h2; exfalso; omega)
          replace H147 := H147.keep K175 (by intro h; change b13 = b1 at h; omega)
          replace H137 := H137.keep K175 (by intro h; change b25 = b1 at h; omega)
          replace H167 := H167.keep K175 (by intro h; change b114 = b1 at h; omega)
          replace F165 := RdO.keep F165 K175 (fun i _ _ hi hs => by have hs : i = b1 := hs; have := ob24 i _ _ hi; omega)
          replace hOV := own_keep hOV K175 (fun i hi hs => by have hs : i = b1 := hs; have := obVb1 i hi; omega)
          replace hM := EntsMine.keep2 hM K175 (fun x hx i o s hA hs => by have hs : i = b1 := hs; exact oeb1 x hx i o s hA hs)
          replace O152 := own_keep O152 K175 (fun i hi hs => by have hs : i = b1 := hs; have := ob153 i hi; omega)
          clear K175
          refine Ops.regs 1 [(2, (ptr b1)), (3, (i64 (((R.bytes).2).end_))), (5, (ptr b25)), (7, (ptr b114))] (j := 4) (by kernel_rfl) (by kernel_rfl) ?_
          refine Ops.done (by kernel_rfl) ?_
          refine q_ret (by kernel_rfl) ?_
          refine ⟨(Value.tuple #[(agg [(i64 0), (i64 0), (i64 0), (i64 0), (i64 0), (i64 0), (i64 0), (i64 0), (Value.bool false), (Value.slice none 0 0), (Value.slice none 0 0)]), (i64 (((R.bytes).2).end_))]), retv_cell_tmp rfl rfl (H174.loads (by kernel_rfl)) rfl, ?_⟩
          exact ⟨(⟨0, 0, 0, 0, 0, 0, 0, 0, false, [], []⟩ : MsgP), none, none, 0, 0, ((R.bytes).2).end_, rfl, K134, ⟨by (try simp only); omega, by (try simp only); omega, by (try simp only); omega, by (try simp only); omega, by (try simp only); omega, by (try simp only); omega, by (try simp only); omega, by (try simp only); omega, fun x hx => by cases hx⟩, by unfold unmsgB; rw [if_neg (by omega), if_pos (by rw [hmd]; omega), hmd]; rfl, (OwnT.nil _ _ _ _ _), (EntsMine.nil _ _ _), (World.ownsRow_nil _ _ _ _), EntsApart.nil, (fun y hy => by cases hy), (fun _ h => by cases h)⟩
        · rw [h171]
          have p176 : ((R.bytes).2).end_ = 0 := of_bne_f h171
          refine q_skip (by kernel_rfl) ?_
          refine q_seq (by kernel_rfl) ?_
          refine q_region (by kernel_rfl) ?_
          refine Ops.regs 1 [(2, (ptr b1)), (3, (i64 0)), (5, (ptr b25)), (7, (ptr b114)), (10, (Value.func (Fn.func 77) ⟨[]⟩ ⟨[]⟩))] (j := 1) (by kernel_rfl) (by kernel_rfl) ?_
          refine Ops.done (by kernel_rfl) ?_
          refine q_seq (by kernel_rfl) ?_
          refine q_seq (by kernel_rfl) ?_
          refine q_region (by kernel_rfl) ?_
          refine Ops.regs 2 [(2, (ptr b1)), (3, (i64 0)), (5, (ptr b25)), (7, (ptr b114)), (10, (Value.func (Fn.func 77) ⟨[]⟩ ⟨[]⟩)), (65, (Value.func (Fn.func 77) ⟨[]⟩ ⟨[]⟩)), (66, (ptr b25))] (j := 2) (by kernel_rfl) (by kernel_rfl) ?_
          refine Ops.go (v := (i64 (((⟨bs, 0, 0⟩ : Rdr).int).1))) (by kernel_rfl) (Runs.load (t := 2) (a := ⟨b25, 0, none⟩) (by kernel_rfl) (H137.loads (by kernel_rfl))) (d := (some 67)) (by kernel_rfl) rfl ?_
          refine Ops.call (by kernel_rfl) (d := (some 68)) (by kernel_rfl) (in_calls _ (((⟨bs, 0, 0⟩ : Rdr).int).1) 1 6) ?_
          rintro _ _ ⟨t177, rfl, ht178, rfl⟩
          refine ⟨_, _, rfl, rfl, ?_⟩
          refine Ops.regs 2 [(2, (ptr b1)), (3, (i64 0)), (5, (ptr b25)), (7, (ptr b114)), (10, (Value.func (Fn.func 77) ⟨[]⟩ ⟨[]⟩)), (70, (Value.bool (!t177)))] (j := 6) (by kernel_rfl) (by kernel_rfl) ?_
          refine Ops.split (!t177) (fun h179 => ?_) (fun h179 => ?_)
          · rw [h179]
            have p180 : t177 = false := (bnot_true h179)
            try rw [p180]
            have hin181 : ¬ (1 ≤ ((⟨bs, 0, 0⟩ : Rdr).int).1 ∧ ((⟨bs, 0, 0⟩ : Rdr).int).1 ≤ 6) := fun q => by have q := ht178.2 q; rw [(bnot_true h179)] at q; cases q
            refine Ops.regs 20 [(2, (ptr b1)), (3, (i64 0)), (5, (ptr b25)), (7, (ptr b114)), (90, (Value.bool true))] (j := 26) (by kernel_rfl) (by kernel_rfl) ?_
            refine Ops.done (by kernel_rfl) ?_
            refine q_then (o := .tmp 90) (by kernel_rfl) rfl ?_
            refine q_seq (by kernel_rfl) ?_
            refine q_region (by kernel_rfl) ?_
            refine Ops.regs 1 [(2, (ptr b1)), (3, (i64 0)), (5, (ptr b25)), (7, (ptr b114)), (91, (agg [(i64 0), (i64 0), (i64 0), (i64 0), (i64 0), (i64 0), (i64 0), (i64 0), (Value.bool false), (Value.slice none 0 0), (Value.slice none 0 0)]))] (j := 1) (by kernel_rfl) (by kernel_rfl) ?_
            refine Ops.put (t := 49) (b := b1) (off := 0) (v := (agg [(i64 0), (i64 0), (i64 0), (i64 0), (i64 0), (i64 0), (i64 0), (i64 0), (Value.bool false), (Value.slice none 0 0), (Value.slice none 0 0)])) (ys := [(i64 0), (i64 0), (i64 0), (i64 0), (i64 0), (i64 0), (i64 0), (i64 0), (Value.bool false), (Value.slice none 0 0), (Value.slice none 0 0)]) (by kernel_rfl) (by kernel_rfl) H135 (by kernel_rfl) (d := none) (by kernel_rfl) rfl (fun w182 H183 K184 => ?_)
            clear H135
            replace K134 := K134.trans K184 (U := none_) (fun i h1 h2 => h2) (fun i h1 h2 => by have h2 : i = b1 := h2; exfalso; omega)
            replace H147 := H147.keep K184 (by intro h; change b13 = b1 at h; omega)
            replace H137 := H137.keep K184 (by intro h; change b25 = b1 at h; omega)
            replace H167 := H167.keep K184 (by intro h; change b114 = b1 at h; omega)
            replace F165 := RdO.keep F165 K184 (fun i _ _ hi hs => by have hs : i = b1 := hs; have := ob24 i _ _ hi; omega)
            replace hOV := own_keep hOV K184 (fun i hi hs => by have hs : i = b1 := hs; have := obVb1 i hi; omega)
            replace hM := EntsMine.keep2 hM K184 (fun x hx i o s hA hs => by have hs : i = b1 := hs; exact oeb1 x hx i o s hA hs)
            replace O152 := own_keep O152 K184 (fun i hi hs => by have hs : i = b1 := hs; have := ob153 i hi; omega)
            clear K184
            refine Ops.regs 1 [(2, (ptr b1)), (3, (i64 1)), (5, (ptr b25)), (7, (ptr b114))] (j := 3) (by kernel_rfl) (by kernel_rfl) ?_
            refine Ops.done (by kernel_rfl) ?_
            refine q_ret (by kernel_rfl) ?_
            refine ⟨(Value.tuple #[(agg [(i64 0), (i64 0), (i64 0), (i64 0), (i64 0), (i64 0), (i64 0), (i64 0), (Value.bool false), (Value.slice none 0 0), (Value.slice none 0 0)]), (i64 1)]), retv_cell_tmp rfl rfl (H183.loads (by kernel_rfl)) rfl, ?_⟩
            exact ⟨(⟨0, 0, 0, 0, 0, 0, 0, 0, false, [], []⟩ : MsgP), none, none, 0, 0, 1, rfl, K134, ⟨by (try simp only); omega, by (try simp only); omega, by (try simp only); omega, by (try simp only); omega, by (try simp only); omega, by (try simp only); omega, by (try simp only); omega, by (try simp only); omega, fun x hx => by cases hx⟩, by unfold unmsgB; rw [if_neg (by omega), if_neg (by rw [hmd]; omega), if_neg (fun q => by unfold Rdr.mfit at q; simp only [Rdr.mint, Rdr.nth] at q; omega)]; rfl, (OwnT.nil _ _ _ _ _), (EntsMine.nil _ _ _), (World.ownsRow_nil _ _ _ _), EntsApart.nil, (fun y hy => by cases hy), (fun _ h => by cases h)⟩
          · rw [h179]
            have p185 : t177 = true := (bnot_false h179)
            try rw [p185]
            have hin186 := ht178.1 (bnot_false h179)
            refine Ops.regs 2 [(2, (ptr b1)), (3, (i64 0)), (5, (ptr b25)), (7, (ptr b114)), (10, (Value.func (Fn.func 77) ⟨[]⟩ ⟨[]⟩)), (70, (Value.bool false)), (71, (Value.func (Fn.func 77) ⟨[]⟩ ⟨[]⟩)), (72, (Value.pointer (some ⟨b25, 1, none⟩)))] (j := 8) (by kernel_rfl) (by kernel_rfl) ?_
            refine Ops.go (v := (i64 (((((⟨bs, 0, 0⟩ : Rdr).int).2).int).1))) (by kernel_rfl) (Runs.load (t := 2) (a := ⟨b25, 1, none⟩) (by kernel_rfl) (H137.loads (by kernel_rfl))) (d := (some 73)) (by kernel_rfl) rfl ?_
            refine Ops.call (by kernel_rfl) (d := (some 74)) (by kernel_rfl) (in_calls _ (((((⟨bs, 0, 0⟩ : Rdr).int).2).int).1) 0 3) ?_
            rintro _ _ ⟨t187, rfl, ht188, rfl⟩
            refine ⟨_, _, rfl, rfl, ?_⟩
            refine Ops.regs 3 [(2, (ptr b1)), (3, (i64 0)), (5, (ptr b25)), (7, (ptr b114)), (10, (Value.func (Fn.func 77) ⟨[]⟩ ⟨[]⟩)), (77, (Value.bool (!t187)))] (j := 13) (by kernel_rfl) (by kernel_rfl) ?_
            refine Ops.split (!t187) (fun h189 => ?_) (fun h189 => ?_)
            · rw [h189]
              have p190 : t187 = false := (bnot_true h189)
              try rw [p190]
              have hin191 : ¬ (0 ≤ ((((⟨bs, 0, 0⟩ : Rdr).int).2).int).1 ∧ ((((⟨bs, 0, 0⟩ : Rdr).int).2).int).1 ≤ 3) := fun q => by have q := ht188.2 q; rw [(bnot_true h189)] at q; cases q
              refine Ops.regs 13 [(2, (ptr b1)), (3, (i64 0)), (5, (ptr b25)), (7, (ptr b114)), (90, (Value.bool true))] (j := 26) (by kernel_rfl) (by kernel_rfl) ?_
              refine Ops.done (by kernel_rfl) ?_
              refine q_then (o := .tmp 90) (by kernel_rfl) rfl ?_
              refine q_seq (by kernel_rfl) ?_
              refine q_region (by kernel_rfl) ?_
              refine Ops.regs 1 [(2, (ptr b1)), (3, (i64 0)), (5, (ptr b25)), (7, (ptr b114)), (91, (agg [(i64 0), (i64 0), (i64 0), (i64 0), (i64 0), (i64 0), (i64 0), (i64 0), (Value.bool false), (Value.slice none 0 0), (Value.slice none 0 0)]))] (j := 1) (by kernel_rfl) (by kernel_rfl) ?_
              refine Ops.put (t := 49) (b := b1) (off := 0) (v := (agg [(i64 0), (i64 0), (i64 0), (i64 0), (i64 0), (i64 0), (i64 0), (i64 0), (Value.bool false), (Value.slice none 0 0), (Value.slice none 0 0)])) (ys := [(i64 0), (i64 0), (i64 0), (i64 0), (i64 0), (i64 0), (i64 0), (i64 0), (Value.bool false), (Value.slice none 0 0), (Value.slice none 0 0)]) (by kernel_rfl) (by kernel_rfl) H135 (by kernel_rfl) (d := none) (by kernel_rfl) rfl (fun w192 H193 K194 => ?_)
              clear H135
              replace K134 := K134.trans K194 (U := none_) (fun i h1 h2 => h2) (fun i h1 h2 => by have h2 : i = b1 := h2; exfalso; omega)
              replace H147 := H147.keep K194 (by intro h; change b13 = b1 at h; omega)
              replace H137 := H137.keep K194 (by intro h; change b25 = b1 at h; omega)
              replace H167 := H167.keep K194 (by intro h; change b114 = b1 at h; omega)
              replace F165 := RdO.keep F165 K194 (fun i _ _ hi hs => by have hs : i = b1 := hs; have := ob24 i _ _ hi; omega)
              replace hOV := own_keep hOV K194 (fun i hi hs => by have hs : i = b1 := hs; have := obVb1 i hi; omega)
              replace hM := EntsMine.keep2 hM K194 (fun x hx i o s hA hs => by have hs : i = b1 := hs; exact oeb1 x hx i o s hA hs)
              replace O152 := own_keep O152 K194 (fun i hi hs => by have hs : i = b1 := hs; have := ob153 i hi; omega)
              clear K194
              refine Ops.regs 1 [(2, (ptr b1)), (3, (i64 1)), (5, (ptr b25)), (7, (ptr b114))] (j := 3) (by kernel_rfl) (by kernel_rfl) ?_
              refine Ops.done (by kernel_rfl) ?_
              refine q_ret (by kernel_rfl) ?_
              refine ⟨(Value.tuple #[(agg [(i64 0), (i64 0), (i64 0), (i64 0), (i64 0), (i64 0), (i64 0), (i64 0), (Value.bool false), (Value.slice none 0 0), (Value.slice none 0 0)]), (i64 1)]), retv_cell_tmp rfl rfl (H193.loads (by kernel_rfl)) rfl, ?_⟩
              exact ⟨(⟨0, 0, 0, 0, 0, 0, 0, 0, false, [], []⟩ : MsgP), none, none, 0, 0, 1, rfl, K134, ⟨by (try simp only); omega, by (try simp only); omega, by (try simp only); omega, by (try simp only); omega, by (try simp only); omega, by (try simp only); omega, by (try simp only); omega, by (try simp only); omega, fun x hx => by cases hx⟩, by unfold unmsgB; rw [if_neg (by omega), if_neg (by rw [hmd]; omega), if_neg (fun q => by unfold Rdr.mfit at q; simp only [Rdr.mint, Rdr.nth] at q; omega)]; rfl, (OwnT.nil _ _ _ _ _), (EntsMine.nil _ _ _), (World.ownsRow_nil _ _ _ _), EntsApart.nil, (fun y hy => by cases hy), (fun _ h => by cases h)⟩
            · rw [h189]
              have p195 : t187 = true := (bnot_false h189)
              try rw [p195]
              have hin196 := ht188.1 (bnot_false h189)
              refine Ops.regs 2 [(2, (ptr b1)), (3, (i64 0)), (5, (ptr b25)), (7, (ptr b114)), (10, (Value.func (Fn.func 77) ⟨[]⟩ ⟨[]⟩)), (77, (Value.bool false)), (78, (Value.func (Fn.func 77) ⟨[]⟩ ⟨[]⟩)), (79, (Value.pointer (some ⟨b25, 2, none⟩)))] (j := 15) (by kernel_rfl) (by kernel_rfl) ?_
              refine Ops.go (v := (i64 (((((((⟨bs, 0, 0⟩ : Rdr).int).2).int).2).int).1))) (by kernel_rfl) (Runs.load (t := 2) (a := ⟨b25, 2, none⟩) (by kernel_rfl) (H137.loads (by kernel_rfl))) (d := (some 80)) (by kernel_rfl) rfl ?_
              refine Ops.call (by kernel_rfl) (d := (some 81)) (by kernel_rfl) (in_calls _ (((((((⟨bs, 0, 0⟩ : Rdr).int).2).int).2).int).1) 0 4) ?_
              rintro _ _ ⟨t197, rfl, ht198, rfl⟩
              refine ⟨_, _, rfl, rfl, ?_⟩
              refine Ops.regs 3 [(2, (ptr b1)), (3, (i64 0)), (5, (ptr b25)), (7, (ptr b114)), (10, (Value.func (Fn.func 77) ⟨[]⟩ ⟨[]⟩)), (84, (Value.bool (!t197)))] (j := 20) (by kernel_rfl) (by kernel_rfl) ?_
              refine Ops.split (!t197) (fun h199 => ?_) (fun h199 => ?_)
              · rw [h199]
                have p200 : t197 = false := (bnot_true h199)
                try rw [p200]
                have hin201 : ¬ (0 ≤ ((((((⟨bs, 0, 0⟩ : Rdr).int).2).int).2).int).1 ∧ ((((((⟨bs, 0, 0⟩ : Rdr).int).2).int).2).int).1 ≤ 4) := fun q => by have q := ht198.2 q; rw [(bnot_true h199)] at q; cases q
                refine Ops.regs 6 [(2, (ptr b1)), (3, (i64 0)), (5, (ptr b25)), (7, (ptr b114)), (90, (Value.bool true))] (j := 26) (by kernel_rfl) (by kernel_rfl) ?_
                refine Ops.done (by kernel_rfl) ?_
                refine q_then (o := .tmp 90) (by kernel_rfl) rfl ?_
                refine q_seq (by kernel_rfl) ?_
                refine q_region (by kernel_rfl) ?_
                refine Ops.regs 1 [(2, (ptr b1)), (3, (i64 0)), (5, (ptr b25)), (7, (ptr b114)), (91, (agg [(i64 0), (i64 0), (i64 0), (i64 0), (i64 0), (i64 0), (i64 0), (i64 0), (Value.bool false), (Value.slice none 0 0), (Value.slice none 0 0)]))] (j := 1) (by kernel_rfl) (by kernel_rfl) ?_
                refine Ops.put (t := 49) (b := b1) (off := 0) (v := (agg [(i64 0), (i64 0), (i64 0), (i64 0), (i64 0), (i64 0), (i64 0), (i64 0), (Value.bool false), (Value.slice none 0 0), (Value.slice none 0 0)])) (ys := [(i64 0), (i64 0), (i64 0), (i64 0), (i64 0), (i64 0), (i64 0), (i64 0), (Value.bool false), (Value.slice none 0 0), (Value.slice none 0 0)]) (by kernel_rfl) (by kernel_rfl) H135 (by kernel_rfl) (d := none) (by kernel_rfl) rfl (fun w202 H203 K204 => ?_)
                clear H135
                replace K134 := K134.trans K204 (U := none_) (fun i h1 h2 => h2) (fun i h1 h2 => by have h2 : i = b1 := h2; exfalso; omega)
                replace H147 := H147.keep K204 (by intro h; change b13 = b1 at h; omega)
                replace H137 := H137.keep K204 (by intro h; change b25 = b1 at h; omega)
                replace H167 := H167.keep K204 (by intro h; change b114 = b1 at h; omega)
                replace F165 := RdO.keep F165 K204 (fun i _ _ hi hs => by have hs : i = b1 := hs; have := ob24 i _ _ hi; omega)
                replace hOV := own_keep hOV K204 (fun i hi hs => by have hs : i = b1 := hs; have := obVb1 i hi; omega)
                replace hM := EntsMine.keep2 hM K204 (fun x hx i o s hA hs => by have hs : i = b1 := hs; exact oeb1 x hx i o s hA hs)
                replace O152 := own_keep O152 K204 (fun i hi hs => by have hs : i = b1 := hs; have := ob153 i hi; omega)
                clear K204
                refine Ops.regs 1 [(2, (ptr b1)), (3, (i64 1)), (5, (ptr b25)), (7, (ptr b114))] (j := 3) (by kernel_rfl) (by kernel_rfl) ?_
                refine Ops.done (by kernel_rfl) ?_
                refine q_ret (by kernel_rfl) ?_
                refine ⟨(Value.tuple #[(agg [(i64 0), (i64 0), (i64 0), (i64 0), (i64 0), (i64 0), (i64 0), (i64 0), (Value.bool false), (Value.slice none 0 0), (Value.slice none 0 0)]), (i64 1)]), retv_cell_tmp rfl rfl (H203.loads (by kernel_rfl)) rfl, ?_⟩
                exact ⟨(⟨0, 0, 0, 0, 0, 0, 0, 0, false, [], []⟩ : MsgP), none, none, 0, 0, 1, rfl, K134, ⟨by (try simp only); omega, by (try simp only); omega, by (try simp only); omega, by (try simp only); omega, by (try simp only); omega, by (try simp only); omega, by (try simp only); omega, by (try simp only); omega, fun x hx => by cases hx⟩, by unfold unmsgB; rw [if_neg (by omega), if_neg (by rw [hmd]; omega), if_neg (fun q => by unfold Rdr.mfit at q; simp only [Rdr.mint, Rdr.nth] at q; omega)]; rfl, (OwnT.nil _ _ _ _ _), (EntsMine.nil _ _ _), (World.ownsRow_nil _ _ _ _), EntsApart.nil, (fun y hy => by cases hy), (fun _ h => by cases h)⟩
              · rw [h199]
                have p205 : t197 = true := (bnot_false h199)
                try rw [p205]
                have hin206 := ht198.1 (bnot_false h199)
                refine Ops.regs 2 [(2, (ptr b1)), (3, (i64 0)), (5, (ptr b25)), (7, (ptr b114)), (84, (Value.bool false)), (85, (Value.func (Fn.func 77) ⟨[]⟩ ⟨[]⟩)), (86, (Value.pointer (some ⟨b25, 3, none⟩)))] (j := 22) (by kernel_rfl) (by kernel_rfl) ?_
                refine Ops.go (v := (i64 (((((((((⟨bs, 0, 0⟩ : Rdr).int).2).int).2).int).2).int).1))) (by kernel_rfl) (Runs.load (t := 2) (a := ⟨b25, 3, none⟩) (by kernel_rfl) (H137.loads (by kernel_rfl))) (d := (some 87)) (by kernel_rfl) rfl ?_
                refine Ops.call (by kernel_rfl) (d := (some 88)) (by kernel_rfl) (in_calls _ (((((((((⟨bs, 0, 0⟩ : Rdr).int).2).int).2).int).2).int).1) 0 4) ?_
                rintro _ _ ⟨t207, rfl, ht208, rfl⟩
                refine ⟨_, _, rfl, rfl, ?_⟩
                refine Ops.regs 2 [(2, (ptr b1)), (3, (i64 0)), (5, (ptr b25)), (7, (ptr b114)), (90, (Value.bool (!t207)))] (j := 26) (by kernel_rfl) (by kernel_rfl) ?_
                refine Ops.done (by kernel_rfl) ?_
                refine q_cond (o := .tmp 90) (b := (!t207)) (by kernel_rfl) rfl (fun h209 => ?_) (fun h209 => ?_)
                · rw [h209]
                  have p210 : t207 = false := (bnot_true h209)
                  try rw [p210]
                  have hin211 : ¬ (0 ≤ ((((((((⟨bs, 0, 0⟩ : Rdr).int).2).int).2).int).2).int).1 ∧ ((((((((⟨bs, 0, 0⟩ : Rdr).int).2).int).2).int).2).int).1 ≤ 4) := fun q => by have q := ht208.2 q; rw [(bnot_true h209)] at q; cases q
                  refine q_seq (by kernel_rfl) ?_
                  refine q_region (by kernel_rfl) ?_
                  refine Ops.regs 1 [(2, (ptr b1)), (3, (i64 0)), (5, (ptr b25)), (7, (ptr b114)), (91, (agg [(i64 0), (i64 0), (i64 0), (i64 0), (i64 0), (i64 0), (i64 0), (i64 0), (Value.bool false), (Value.slice none 0 0), (Value.slice none 0 0)]))] (j := 1) (by kernel_rfl) (by kernel_rfl) ?_
                  refine Ops.put (t := 49) (b := b1) (off := 0) (v := (agg [(i64 0), (i64 0), (i64 0), (i64 0), (i64 0), (i64 0), (i64 0), (i64 0), (Value.bool false), (Value.slice none 0 0), (Value.slice none 0 0)])) (ys := [(i64 0), (i64 0), (i64 0), (i64 0), (i64 0), (i64 0), (i64 0), (i64 0), (Value.bool false), (Value.slice none 0 0), (Value.slice none 0 0)]) (by kernel_rfl) (by kernel_rfl) H135 (by kernel_rfl) (d := none) (by kernel_rfl) rfl (fun w212 H213 K214 => ?_)
                  clear H135
                  replace K134 := K134.trans K214 (U := none_) (fun i h1 h2 => h2) (fun i h1 h2 => by have h2 : i = b1 := h2; exfalso; omega)
                  replace H147 := H147.keep K214 (by intro h; change b13 = b1 at h; omega)
                  replace H137 := H137.keep K214 (by intro h; change b25 = b1 at h; omega)
                  replace H167 := H167.keep K214 (by intro h; change b114 = b1 at h; omega)
                  replace F165 := RdO.keep F165 K214 (fun i _ _ hi hs => by have hs : i = b1 := hs; have := ob24 i _ _ hi; omega)
                  replace hOV := own_keep hOV K214 (fun i hi hs => by have hs : i = b1 := hs; have := obVb1 i hi; omega)
                  replace hM := EntsMine.keep2 hM K214 (fun x hx i o s hA hs => by have hs : i = b1 := hs; exact oeb1 x hx i o s hA hs)
                  replace O152 := own_keep O152 K214 (fun i hi hs => by have hs : i = b1 := hs; have := ob153 i hi; omega)
                  clear K214
                  refine Ops.regs 1 [(2, (ptr b1)), (3, (i64 1)), (5, (ptr b25)), (7, (ptr b114))] (j := 3) (by kernel_rfl) (by kernel_rfl) ?_
                  refine Ops.done (by kernel_rfl) ?_
                  refine q_ret (by kernel_rfl) ?_
                  refine ⟨(Value.tuple #[(agg [(i64 0), (i64 0), (i64 0), (i64 0), (i64 0), (i64 0), (i64 0), (i64 0), (Value.bool false), (Value.slice none 0 0), (Value.slice none 0 0)]), (i64 1)]), retv_cell_tmp rfl rfl (H213.loads (by kernel_rfl)) rfl, ?_⟩
                  exact ⟨(⟨0, 0, 0, 0, 0, 0, 0, 0, false, [], []⟩ : MsgP), none, none, 0, 0, 1, rfl, K134, ⟨by (try simp only); omega, by (try simp only); omega, by (try simp only); omega, by (try simp only); omega, by (try simp only); omega, by (try simp only); omega, by (try simp only); omega, by (try simp only); omega, fun x hx => by cases hx⟩, by unfold unmsgB; rw [if_neg (by omega), if_neg (by rw [hmd]; omega), if_neg (fun q => by unfold Rdr.mfit at q; simp only [Rdr.mint, Rdr.nth] at q; omega)]; rfl, (OwnT.nil _ _ _ _ _), (EntsMine.nil _ _ _), (World.ownsRow_nil _ _ _ _), EntsApart.nil, (fun y hy => by cases hy), (fun _ h => by cases h)⟩
                · rw [h209]
                  have p215 : t207 = true := (bnot_false h209)
                  try rw [p215]
                  have hin216 := ht208.1 (bnot_false h209)
                  refine q_skip (by kernel_rfl) ?_
                  refine q_seq (by kernel_rfl) ?_
                  refine q_draw (fun wz => Keeps (fun i => i = b114) w169 wz) 16 (by kernel_rfl) (by kernel_rfl) (by kernel_rfl) (fun w217 K218 _ _ => ⟨(K218.mono (fun _ _ h => h.elim)), ?_⟩)
                  replace K134 := K134.trans K218 (U := none_) (fun i h1 h2 => h2) (fun i h1 h2 => by exact h2)
                  replace H135 := H135.keep K218 (fun h => h)
                  replace H147 := H147.keep K218 (fun h => h)
                  replace H137 := H137.keep K218 (fun h => h)
                  replace H167 := H167.keep K218 (fun h => h)
                  replace F165 := RdO.keep0 F165 K218
                  replace hOV := own_keep0 hOV K218
                  replace hM := hM.keep2 K218 (fun _ _ _ _ _ _ h => h)
                  replace O152 := own_keep0 O152 K218
                  refine Dr.strong (S' := (fun wz => Keeps (fun i => i = b114) w217 wz)) ((Keeps.refl w217).mono (fun _ _ h => h.elim)) (fun wz hx => K218.trans hx (fun i _ h => h.elim) (fun _ _ h => h)) ?_
                  clear K218
                  refine Dr.takes (fuel' := 15) (is' := [0]) [0] [(2, (ptr b1)), (3, (i64 0)), (5, (ptr b25)), (7, (ptr b114)), (92, (ptr b25))] (by kernel_rfl) rfl (by kernel_rfl) ?_
                  refine Dr.take (i := 1) (v := (i64 (((⟨bs, 0, 0⟩ : Rdr).int).1))) (by kernel_rfl) (by kernel_rfl) (fun wz hS => Runs.load (t := 2) (a := ⟨b25, 0, none⟩) (by kernel_rfl) ((H137.keep hS (by intro h; change b25 = b114 at h; omega)).loads (by kernel_rfl))) (d := (some 93)) (by kernel_rfl) rfl ?_
                  refine Dr.takes (fuel' := 13) (is' := [2, 1, 0]) [2] [(2, (ptr b1)), (3, (i64 0)), (5, (ptr b25)), (7, (ptr b114)), (93, (i64 (((⟨bs, 0, 0⟩ : Rdr).int).1))), (94, (Value.pointer (some ⟨b25, 1, none⟩)))] (by kernel_rfl) rfl (by kernel_rfl) ?_
                  refine Dr.take (i := 3) (v := (i64 (((((⟨bs, 0, 0⟩ : Rdr).int).2).int).1))) (by kernel_rfl) (by kernel_rfl) (fun wz hS => Runs.load (t := 2) (a := ⟨b25, 1, none⟩) (by kernel_rfl) ((H137.keep hS (by intro h; change b25 = b114 at h; omega)).loads (by kernel_rfl))) (d := (some 95)) (by kernel_rfl) rfl ?_
                  refine Dr.takes (fuel' := 11) (is' := [4, 3, 2, 1, 0]) [4] [(2, (ptr b1)), (3, (i64 0)), (5, (ptr b25)), (7, (ptr b114)), (93, (i64 (((⟨bs, 0, 0⟩ : Rdr).int).1))), (95, (i64 (((((⟨bs, 0, 0⟩ : Rdr).int).2).int).1))), (96, (Value.pointer (some ⟨b25, 2, none⟩)))] (by kernel_rfl) rfl (by kernel_rfl) ?_
                  refine Dr.take (i := 5) (v := (i64 (((((((⟨bs, 0, 0⟩ : Rdr).int).2).int).2).int).1))) (by kernel_rfl) (by kernel_rfl) (fun wz hS => Runs.load (t := 2) (a := ⟨b25, 2, none⟩) (by kernel_rfl) ((H137.keep hS (by intro h; change b25 = b114 at h; omega)).loads (by kernel_rfl))) (d := (some 97)) (by kernel_rfl) rfl ?_
                  refine Dr.takes (fuel' := 9) (is' := [6, 5, 4, 3, 2, 1, 0]) [6] [(2, (ptr b1)), (3, (i64 0)), (7, (ptr b114)), (93, (i64 (((⟨bs, 0, 0⟩ : Rdr).int).1))), (95, (i64 (((((⟨bs, 0, 0⟩ : Rdr).int).2).int).1))), (97, (i64 (((((((⟨bs, 0, 0⟩ : Rdr).int).2).int).2).int).1))), (98, (Value.pointer (some ⟨b25, 3, none⟩)))] (by kernel_rfl) rfl (by kernel_rfl) ?_
                  refine Dr.take (i := 7) (v := (i64 (((((((((⟨bs, 0, 0⟩ : Rdr).int).2).int).2).int).2).int).1))) (by kernel_rfl) (by kernel_rfl) (fun wz hS => Runs.load (t := 2) (a := ⟨b25, 3, none⟩) (by kernel_rfl) ((H137.keep hS (by intro h; change b25 = b114 at h; omega)).loads (by kernel_rfl))) (d := (some 99)) (by kernel_rfl) rfl ?_
                  refine Dr.takes (fuel' := 7) (is' := [8, 7, 6, 5, 4, 3, 2, 1, 0]) [8] [(2, (ptr b1)), (3, (i64 0)), (7, (ptr b114)), (93, (i64 (((⟨bs, 0, 0⟩ : Rdr).int).1))), (95, (i64 (((((⟨bs, 0, 0⟩ : Rdr).int).2).int).1))), (97, (i64 (((((((⟨bs, 0, 0⟩ : Rdr).int).2).int).2).int).1))), (99, (i64 (((((((((⟨bs, 0, 0⟩ : Rdr).int).2).int).2).int).2).int).1))), (100, (ptr b114))] (by kernel_rfl) rfl (by kernel_rfl) ?_
                  refine Dr.put (i := 9) (t := 3) (b := b114) (off := 0) (v := (i64 (((⟨bs, 0, 0⟩ : Rdr).int).1))) (ys := [(i64 (((⟨bs, 0, 0⟩ : Rdr).int).1)), (i64 0), (i64 0), (i64 0), (i64 (((((((((((⟨bs, 0, 0⟩ : Rdr).int).2).int).2).int).2).int).2).int).1)), (i64 (((((((((((((⟨bs, 0, 0⟩ : Rdr).int).2).int).2).int).2).int).2).int).2).int).1)), (i64 (((((((((((((((⟨bs, 0, 0⟩ : Rdr).int).2).int).2).int).2).int).2).int).2).int).2).int).1)), (i64 (((((((((((((((((⟨bs, 0, 0⟩ : Rdr).int).2).int).2).int).2).int).2).int).2).int).2).int).2).int).1)), (Value.bool (((((((((((((((((((⟨bs, 0, 0⟩ : Rdr).int).2).int).2).int).2).int).2).int).2).int).2).int).2).int).2).bool_).1)), (Value.slice VA l.length vc), (Value.slice A162 (((R.bytes).1).length) c163)]) (by kernel_rfl) (by kernel_rfl) (by kernel_rfl) H167 (by kernel_rfl) (d := none) (by kernel_rfl) rfl (fun w219 H220 K221 => ?_)
                  clear H167
                  replace K134 := K134.trans K221 (U := none_) (fun i h1 h2 => h2) (fun i h1 h2 => by have h2 : i = b114 := h2; exfalso; omega)
                  replace H135 := H135.keep K221 (by intro h; change b1 = b114 at h; omega)
                  replace H147 := H147.keep K221 (by intro h; change b13 = b114 at h; omega)
                  replace H137 := H137.keep K221 (by intro h; change b25 = b114 at h; omega)
                  replace F165 := RdO.keep F165 K221 (fun i _ _ hi hs => by have hs : i = b114 := hs; have := ob121 i _ _ hi; omega)
                  replace hOV := own_keep hOV K221 (fun i hi hs => by have hs : i = b114 := hs; have := obVb114 i hi; omega)
                  replace hM := EntsMine.keep2 hM K221 (fun x hx i o s hA hs => by have hs : i = b114 := hs; exact oeb114 x hx i o s hA hs)
                  replace O152 := own_keep O152 K221 (fun i hi hs => by have hs : i = b114 := hs; have := ob156 i hi; omega)
                  refine ⟨K221, ?_⟩
                  refine Dr.strong (S' := (fun wz => Keeps (fun i => i = b114) w219 wz)) ((Keeps.refl w219).mono (fun _ _ h => h.elim)) (fun wz hx => K221.trans hx (fun i _ h => by have h : i = b114 := h; show i = b114; omega) (fun _ _ h => h)) ?_
                  clear K221
                  refine Dr.takes (fuel' := 5) (is' := [10, 9, 8, 7, 6, 5, 4, 3, 2, 1, 0]) [10] [(2, (ptr b1)), (3, (i64 0)), (7, (ptr b114)), (95, (i64 (((((⟨bs, 0, 0⟩ : Rdr).int).2).int).1))), (97, (i64 (((((((⟨bs, 0, 0⟩ : Rdr).int).2).int).2).int).1))), (99, (i64 (((((((((⟨bs, 0, 0⟩ : Rdr).int).2).int).2).int).2).int).1))), (101, (Value.pointer (some ⟨b114, 1, none⟩)))] (by kernel_rfl) rfl (by kernel_rfl) ?_
                  refine Dr.put (i := 11) (t := 3) (b := b114) (off := 1) (v := (i64 (((((⟨bs, 0, 0⟩ : Rdr).int).2).int).1))) (ys := [(i64 (((⟨bs, 0, 0⟩ : Rdr).int).1)), (i64 (((((⟨bs, 0, 0⟩ : Rdr).int).2).int).1)), (i64 0), (i64 0), (i64 (((((((((((⟨bs, 0, 0⟩ : Rdr).int).2).int).2).int).2).int).2).int).1)), (i64 (((((((((((((⟨bs, 0, 0⟩ : Rdr).int).2).int).2).int).2).int).2).int).2).int).1)), (i64 (((((((((((((((⟨bs, 0, 0⟩ : Rdr).int).2).int).2).int).2).int).2).int).2).int).2).int).1)), (i64 (((((((((((((((((⟨bs, 0, 0⟩ : Rdr).int).2).int).2).int).2).int).2).int).2).int).2).int).2).int).1)), (Value.bool (((((((((((((((((((⟨bs, 0, 0⟩ : Rdr).int).2).int).2).int).2).int).2).int).2).int).2).int).2).int).2).bool_).1)), (Value.slice VA l.length vc), (Value.slice A162 (((R.bytes).1).length) c163)]) (by kernel_rfl) (by kernel_rfl) (by kernel_rfl) H220 (by kernel_rfl) (d := none) (by kernel_rfl) rfl (fun w222 H223 K224 => ?_)
                  clear H220
                  replace K134 := K134.trans K224 (U := none_) (fun i h1 h2 => h2) (fun i h1 h2 => by have h2 : i = b114 := h2; exfalso; omega)
                  replace H135 := H135.keep K224 (by intro h; change b1 = b114 at h; omega)
                  replace H147 := H147.keep K224 (by intro h; change b13 = b114 at h; omega)
                  replace H137 := H137.keep K224 (by intro h; change b25 = b114 at h; omega)
                  replace F165 := RdO.keep F165 K224 (fun i _ _ hi hs => by have hs : i = b114 := hs; have := ob121 i _ _ hi; omega)
                  replace hOV := own_keep hOV K224 (fun i hi hs => by have hs : i = b114 := hs; have := obVb114 i hi; omega)
                  replace hM := EntsMine.keep2 hM K224 (fun x hx i o s hA hs => by have hs : i = b114 := hs; exact oeb114 x hx i o s hA hs)
                  replace O152 := own_keep O152 K224 (fun i hi hs => by have hs : i = b114 := hs; have := ob156 i hi; omega)
                  refine ⟨K224, ?_⟩
                  refine Dr.strong (S' := (fun wz => Keeps (fun i => i = b114) w222 wz)) ((Keeps.refl w222).mono (fun _ _ h => h.elim)) (fun wz hx => K224.trans hx (fun i _ h => by have h : i = b114 := h; show i = b114; omega) (fun _ _ h => h)) ?_
                  clear K224
                  refine Dr.takes (fuel' := 3) (is' := [12, 11, 10, 9, 8, 7, 6, 5, 4, 3, 2, 1, 0]) [12] [(2, (ptr b1)), (3, (i64 0)), (7, (ptr b114)), (97, (i64 (((((((⟨bs, 0, 0⟩ : Rdr).int).2).int).2).int).1))), (99, (i64 (((((((((⟨bs, 0, 0⟩ : Rdr).int).2).int).2).int).2).int).1))), (102, (Value.pointer (some ⟨b114, 2, none⟩)))] (by kernel_rfl) rfl (by kernel_rfl) ?_
                  refine Dr.put (i := 13) (t := 3) (b := b114) (off := 2) (v := (i64 (((((((⟨bs, 0, 0⟩ : Rdr).int).2).int).2).int).1))) (ys := [(i64 (((⟨bs, 0, 0⟩ : Rdr).int).1)), (i64 (((((⟨bs, 0, 0⟩ : Rdr).int).2).int).1)), (i64 (((((((⟨bs, 0, 0⟩ : Rdr).int).2).int).2).int).1)), (i64 0), (i64 (((((((((((⟨bs, 0, 0⟩ : Rdr).int).2).int).2).int).2).int).2).int).1)), (i64 (((((((((((((⟨bs, 0, 0⟩ : Rdr).int).2).int).2).int).2).int).2).int).2).int).1)), (i64 (((((((((((((((⟨bs, 0, 0⟩ : Rdr).int).2).int).2).int).2).int).2).int).2).int).2).int).1)), (i64 (((((((((((((((((⟨bs, 0, 0⟩ : Rdr).int).2).int).2).int).2).int).2).int).2).int).2).int).2).int).1)), (Value.bool (((((((((((((((((((⟨bs, 0, 0⟩ : Rdr).int).2).int).2).int).2).int).2).int).2).int).2).int).2).int).2).bool_).1)), (Value.slice VA l.length vc), (Value.slice A162 (((R.bytes).1).length) c163)]) (by kernel_rfl) (by kernel_rfl) (by kernel_rfl) H223 (by kernel_rfl) (d := none) (by kernel_rfl) rfl (fun w225 H226 K227 => ?_)
                  clear H223
                  replace K134 := K134.trans K227 (U := none_) (fun i h1 h2 => h2) (fun i h1 h2 => by have h2 : i = b114 := h2; exfalso; omega)
                  replace H135 := H135.keep K227 (by intro h; change b1 = b114 at h; omega)
                  replace H147 := H147.keep K227 (by intro h; change b13 = b114 at h; omega)
                  replace H137 := H137.keep K227 (by intro h; change b25 = b114 at h; omega)
                  replace F165 := RdO.keep F165 K227 (fun i _ _ hi hs => by have hs : i = b114 := hs; have := ob121 i _ _ hi; omega)
                  replace hOV := own_keep hOV K227 (fun i hi hs => by have hs : i = b114 := hs; have := obVb114 i hi; omega)
                  replace hM := EntsMine.keep2 hM K227 (fun x hx i o s hA hs => by have hs : i = b114 := hs; exact oeb114 x hx i o s hA hs)
                  replace O152 := own_keep O152 K227 (fun i hi hs => by have hs : i = b114 := hs; have := ob156 i hi; omega)
                  refine ⟨K227, ?_⟩
                  refine Dr.strong (S' := (fun wz => Keeps (fun i => i = b114) w225 wz)) ((Keeps.refl w225).mono (fun _ _ h => h.elim)) (fun wz hx => K227.trans hx (fun i _ h => by have h : i = b114 := h; show i = b114; omega) (fun _ _ h => h)) ?_
                  clear K227
                  refine Dr.takes (fuel' := 1) (is' := [14, 13, 12, 11, 10, 9, 8, 7, 6, 5, 4, 3, 2, 1, 0]) [14] [(2, (ptr b1)), (3, (i64 0)), (7, (ptr b114)), (99, (i64 (((((((((⟨bs, 0, 0⟩ : Rdr).int).2).int).2).int).2).int).1))), (103, (Value.pointer (some ⟨b114, 3, none⟩)))] (by kernel_rfl) rfl (by kernel_rfl) ?_
                  refine Dr.put (i := 15) (t := 3) (b := b114) (off := 3) (v := (i64 (((((((((⟨bs, 0, 0⟩ : Rdr).int).2).int).2).int).2).int).1))) (ys := [(i64 (((⟨bs, 0, 0⟩ : Rdr).int).1)), (i64 (((((⟨bs, 0, 0⟩ : Rdr).int).2).int).1)), (i64 (((((((⟨bs, 0, 0⟩ : Rdr).int).2).int).2).int).1)), (i64 (((((((((⟨bs, 0, 0⟩ : Rdr).int).2).int).2).int).2).int).1)), (i64 (((((((((((⟨bs, 0, 0⟩ : Rdr).int).2).int).2).int).2).int).2).int).1)), (i64 (((((((((((((⟨bs, 0, 0⟩ : Rdr).int).2).int).2).int).2).int).2).int).2).int).1)), (i64 (((((((((((((((⟨bs, 0, 0⟩ : Rdr).int).2).int).2).int).2).int).2).int).2).int).2).int).1)), (i64 (((((((((((((((((⟨bs, 0, 0⟩ : Rdr).int).2).int).2).int).2).int).2).int).2).int).2).int).2).int).1)), (Value.bool (((((((((((((((((((⟨bs, 0, 0⟩ : Rdr).int).2).int).2).int).2).int).2).int).2).int).2).int).2).int).2).bool_).1)), (Value.slice VA l.length vc), (Value.slice A162 (((R.bytes).1).length) c163)]) (by kernel_rfl) (by kernel_rfl) (by kernel_rfl) H226 (by kernel_rfl) (d := none) (by kernel_rfl) rfl (fun w228 H229 K230 => ?_)
                  clear H226
                  replace K134 := K134.trans K230 (U := none_) (fun i h1 h2 => h2) (fun i h1 h2 => by have h2 : i = b114 := h2; exfalso; omega)
                  replace H135 := H135.keep K230 (by intro h; change b1 = b114 at h; omega)
                  replace H147 := H147.keep K230 (by intro h; change b13 = b114 at h; omega)
                  replace H137 := H137.keep K230 (by intro h; change b25 = b114 at h; omega)
                  replace F165 := RdO.keep F165 K230 (fun i _ _ hi hs => by have hs : i = b114 := hs; have := ob121 i _ _ hi; omega)
                  replace hOV := own_keep hOV K230 (fun i hi hs => by have hs : i = b114 := hs; have := obVb114 i hi; omega)
                  replace hM := EntsMine.keep2 hM K230 (fun x hx i o s hA hs => by have hs : i = b114 := hs; exact oeb114 x hx i o s hA hs)
                  replace O152 := own_keep O152 K230 (fun i hi hs => by have hs : i = b114 := hs; have := ob156 i hi; omega)
                  refine ⟨K230, ?_⟩
                  refine Dr.strong (S' := (fun wz => Keeps (fun i => i = b114) w228 wz)) ((Keeps.refl w228).mono (fun _ _ h => h.elim)) (fun wz hx => K230.trans hx (fun i _ h => by have h : i = b114 := h; show i = b114; omega) (fun _ _ h => h)) ?_
                  clear K230
                  refine Dr.done (by kernel_rfl) ?_
                  refine q_seq (by kernel_rfl) ?_
                  refine q_region (by kernel_rfl) ?_
                  refine Ops.go (v := (agg [(i64 (((⟨bs, 0, 0⟩ : Rdr).int).1)), (i64 (((((⟨bs, 0, 0⟩ : Rdr).int).2).int).1)), (i64 (((((((⟨bs, 0, 0⟩ : Rdr).int).2).int).2).int).1)), (i64 (((((((((⟨bs, 0, 0⟩ : Rdr).int).2).int).2).int).2).int).1)), (i64 (((((((((((⟨bs, 0, 0⟩ : Rdr).int).2).int).2).int).2).int).2).int).1)), (i64 (((((((((((((⟨bs, 0, 0⟩ : Rdr).int).2).int).2).int).2).int).2).int).2).int).1)), (i64 (((((((((((((((⟨bs, 0, 0⟩ : Rdr).int).2).int).2).int).2).int).2).int).2).int).2).int).1)), (i64 (((((((((((((((((⟨bs, 0, 0⟩ : Rdr).int).2).int).2).int).2).int).2).int).2).int).2).int).2).int).1)), (Value.bool (((((((((((((((((((⟨bs, 0, 0⟩ : Rdr).int).2).int).2).int).2).int).2).int).2).int).2).int).2).int).2).bool_).1)), (Value.slice VA l.length vc), (Value.slice A162 (((R.bytes).1).length) c163)])) (by kernel_rfl) (Runs.load (t := 49) (a := ⟨b114, 0, none⟩) (by kernel_rfl) (H229.loads (by kernel_rfl))) (d := (some 104)) (by kernel_rfl) rfl ?_
                  refine Ops.put (t := 49) (b := b1) (off := 0) (v := (agg [(i64 (((⟨bs, 0, 0⟩ : Rdr).int).1)), (i64 (((((⟨bs, 0, 0⟩ : Rdr).int).2).int).1)), (i64 (((((((⟨bs, 0, 0⟩ : Rdr).int).2).int).2).int).1)), (i64 (((((((((⟨bs, 0, 0⟩ : Rdr).int).2).int).2).int).2).int).1)), (i64 (((((((((((⟨bs, 0, 0⟩ : Rdr).int).2).int).2).int).2).int).2).int).1)), (i64 (((((((((((((⟨bs, 0, 0⟩ : Rdr).int).2).int).2).int).2).int).2).int).2).int).1)), (i64 (((((((((((((((⟨bs, 0, 0⟩ : Rdr).int).2).int).2).int).2).int).2).int).2).int).2).int).1)), (i64 (((((((((((((((((⟨bs, 0, 0⟩ : Rdr).int).2).int).2).int).2).int).2).int).2).int).2).int).2).int).1)), (Value.bool (((((((((((((((((((⟨bs, 0, 0⟩ : Rdr).int).2).int).2).int).2).int).2).int).2).int).2).int).2).int).2).bool_).1)), (Value.slice VA l.length vc), (Value.slice A162 (((R.bytes).1).length) c163)])) (ys := [(i64 (((⟨bs, 0, 0⟩ : Rdr).int).1)), (i64 (((((⟨bs, 0, 0⟩ : Rdr).int).2).int).1)), (i64 (((((((⟨bs, 0, 0⟩ : Rdr).int).2).int).2).int).1)), (i64 (((((((((⟨bs, 0, 0⟩ : Rdr).int).2).int).2).int).2).int).1)), (i64 (((((((((((⟨bs, 0, 0⟩ : Rdr).int).2).int).2).int).2).int).2).int).1)), (i64 (((((((((((((⟨bs, 0, 0⟩ : Rdr).int).2).int).2).int).2).int).2).int).2).int).1)), (i64 (((((((((((((((⟨bs, 0, 0⟩ : Rdr).int).2).int).2).int).2).int).2).int).2).int).2).int).1)), (i64 (((((((((((((((((⟨bs, 0, 0⟩ : Rdr).int).2).int).2).int).2).int).2).int).2).int).2).int).2).int).1)), (Value.bool (((((((((((((((((((⟨bs, 0, 0⟩ : Rdr).int).2).int).2).int).2).int).2).int).2).int).2).int).2).int).2).bool_).1)), (Value.slice VA l.length vc), (Value.slice A162 (((R.bytes).1).length) c163)]) (by kernel_rfl) (by kernel_rfl) H135 (by kernel_rfl) (d := none) (by kernel_rfl) rfl (fun w231 H232 K233 => ?_)
                  clear H135
                  replace K134 := K134.trans K233 (U := none_) (fun i h1 h2 => h2) (fun i h1 h2 => by have h2 : i = b1 := h2; exfalso; omega)
                  replace H147 := H147.keep K233 (by intro h; change b13 = b1 at h; omega)
                  replace H137 := H137.keep K233 (by intro h; change b25 = b1 at h; omega)
                  replace H229 := H229.keep K233 (by intro h; change b114 = b1 at h; omega)
                  replace F165 := RdO.keep F165 K233 (fun i _ _ hi hs => by have hs : i = b1 := hs; have := ob24 i _ _ hi; omega)
                  replace hOV := own_keep hOV K233 (fun i hi hs => by have hs : i = b1 := hs; have := obVb1 i hi; omega)
                  replace hM := EntsMine.keep2 hM K233 (fun x hx i o s hA hs => by have hs : i = b1 := hs; exact oeb1 x hx i o s hA hs)
                  replace O152 := own_keep O152 K233 (fun i hi hs => by have hs : i = b1 := hs; have := ob153 i hi; omega)
                  clear K233
                  refine Ops.regs 1 [(2, (ptr b1)), (3, (i64 0))] (j := 3) (by kernel_rfl) (by kernel_rfl) ?_
                  refine Ops.done (by kernel_rfl) ?_
                  refine q_ret (by kernel_rfl) ?_
                  refine ⟨(Value.tuple #[(agg [(i64 (((⟨bs, 0, 0⟩ : Rdr).int).1)), (i64 (((((⟨bs, 0, 0⟩ : Rdr).int).2).int).1)), (i64 (((((((⟨bs, 0, 0⟩ : Rdr).int).2).int).2).int).1)), (i64 (((((((((⟨bs, 0, 0⟩ : Rdr).int).2).int).2).int).2).int).1)), (i64 (((((((((((⟨bs, 0, 0⟩ : Rdr).int).2).int).2).int).2).int).2).int).1)), (i64 (((((((((((((⟨bs, 0, 0⟩ : Rdr).int).2).int).2).int).2).int).2).int).2).int).1)), (i64 (((((((((((((((⟨bs, 0, 0⟩ : Rdr).int).2).int).2).int).2).int).2).int).2).int).2).int).1)), (i64 (((((((((((((((((⟨bs, 0, 0⟩ : Rdr).int).2).int).2).int).2).int).2).int).2).int).2).int).2).int).1)), (Value.bool (((((((((((((((((((⟨bs, 0, 0⟩ : Rdr).int).2).int).2).int).2).int).2).int).2).int).2).int).2).int).2).bool_).1)), (Value.slice VA l.length vc), (Value.slice A162 (((R.bytes).1).length) c163)]), (i64 0)]), retv_cell_tmp rfl rfl (H232.loads (by kernel_rfl)) rfl, ?_⟩
                  exact ⟨(⟨((⟨bs, 0, 0⟩ : Rdr).int).1, ((((⟨bs, 0, 0⟩ : Rdr).int).2).int).1, ((((((⟨bs, 0, 0⟩ : Rdr).int).2).int).2).int).1, ((((((((⟨bs, 0, 0⟩ : Rdr).int).2).int).2).int).2).int).1, ((((((((((⟨bs, 0, 0⟩ : Rdr).int).2).int).2).int).2).int).2).int).1, ((((((((((((⟨bs, 0, 0⟩ : Rdr).int).2).int).2).int).2).int).2).int).2).int).1, ((((((((((((((⟨bs, 0, 0⟩ : Rdr).int).2).int).2).int).2).int).2).int).2).int).2).int).1, ((((((((((((((((⟨bs, 0, 0⟩ : Rdr).int).2).int).2).int).2).int).2).int).2).int).2).int).2).int).1, (((((((((((((((((((⟨bs, 0, 0⟩ : Rdr).int).2).int).2).int).2).int).2).int).2).int).2).int).2).int).2).bool_).1), l, (R.bytes).1⟩ : MsgP), VA, A162, vc, c163, 0, rfl, K134, ⟨by (try simp only); omega, by (try simp only); omega, by (try simp only); omega, by (try simp only); omega, by (try simp only); omega, by (try simp only); omega, by (try simp only); omega, by (try simp only); omega, hlo⟩, by unfold unmsgB; rw [if_neg (by omega), if_neg (by rw [hmd]; omega), if_pos (by unfold Rdr.mfit; simp only [Rdr.mint, Rdr.nth]; omega), hme, hmd]; rfl, hOV, hM, O152, hpw, oo161, oo159⟩
      · rw [h143]
        have p234 : R.why = 0 := of_beq_t (bnot_false h143)
        refine q_skip (by kernel_rfl) ?_
        refine q_seq (by kernel_rfl) ?_
        refine q_region (by kernel_rfl) ?_
        refine Ops.regs 1 [(2, (ptr b1)), (3, (i64 0)), (4, (ptr b13)), (5, (ptr b25)), (7, (ptr b114)), (37, (i64 ((((((((((((((((((((((⟨bs, 0, 0⟩ : Rdr).int).2).int).2).int).2).int).2).int).2).int).2).int).2).int).2).bool_).2).sized 4096).1 : Nat) : Int))), (38, (i64 ((i : Nat) : Int))), (39, (Value.bool true)), (42, (Value.bool false)), (43, (ptr b13))] (j := 1) (by kernel_rfl) (by kernel_rfl) ?_
        refine Ops.call (by kernel_rfl) (d := (some 44)) (by kernel_rfl) (RdInt_calls _ b13 A14 c15 R hokR H136 hRdA14 hne21 ) ?_
        rintro _ w235 ⟨rfl, K236, H237⟩
        have hok238 : (R.int).2.Ok := Rdr.Ok.int hokR
        have hu239 := Rdr.int_range R
        refine ⟨_, _, rfl, rfl, ?_⟩
        replace K134 := K134.trans K236 (U := none_) (fun i h1 h2 => h2) (fun i h1 h2 => by have h2 : i = b13 := h2; exfalso; omega)
        replace H135 := H135.keep K236 (by intro h; change b1 = b13 at h; omega)
        replace H137 := H137.keep K236 (by intro h; change b25 = b13 at h; omega)
        replace H138 := H138.keep K236 (by intro h; change b114 = b13 at h; omega)
        replace hRdA14 := RdO.keep hRdA14 K236 (fun i _ _ hi hs => by have hs : i = b13 := hs; have := hne21 i _ _ hi; omega)
        replace hOV := own_keep hOV K236 (fun i hi hs => by have hs : i = b13 := hs; have := obVb13 i hi; omega)
        replace hM := EntsMine.keep2 hM K236 (fun x hx i o s hA hs => by have hs : i = b13 := hs; exact oeb13 x hx i o s hA hs)
        clear K236
        have F240 : RdO w235 A14 c15 (R.int).2.bs := by rw [Rdr.int_bs]; exact hRdA14
        clear hRdA14
        refine Ops.regs 1 [(2, (ptr b1)), (3, (i64 0)), (4, (ptr b13)), (5, (ptr b25)), (7, (ptr b114)), (37, (i64 ((((((((((((((((((((((⟨bs, 0, 0⟩ : Rdr).int).2).int).2).int).2).int).2).int).2).int).2).int).2).int).2).bool_).2).sized 4096).1 : Nat) : Int))), (38, (i64 ((i : Nat) : Int))), (39, (Value.bool true)), (42, (Value.bool false)), (45, (agg [(i64 ((R.int).1)), (Value.slice none 0 0)]))] (j := 3) (by kernel_rfl) (by kernel_rfl) ?_
        refine Ops.new (o := rowL [(i64 0), (Value.slice none 0 0)] 97) (V := fun b => (ptr b)) (by kernel_rfl) (d := (some 8)) (by kernel_rfl) (fun b => rfl) (fun b241 w242 hb243 H244 K245 hs246 => ?_)
        have lb241b1 : b1 < b241 := by have := H135.lt; omega
        have lb241b13 : b13 < b241 := by have := H237.lt; omega
        have lb241b25 : b25 < b241 := by have := H137.lt; omega
        have lb241b114 : b114 < b241 := by have := H138.lt; omega
        have nb241 : w.heap.size ≤ b241 := by have := K134.size; omega
        have ob247 : ∀ i o s, A14 = some ⟨i, o, s⟩ → i ≠ b241 := fun i o s hi => by have := F240.2 i o s hi; omega
        have ob248 : ∀ i, ((Value.slice VA l.length vc)).ownBlock = some i → i < b241 := fun i hi => by have := (World.ownsRow.lt hOV i hi).2; omega
        have oe249 := EntsMine.new (c := b241) hM (by omega)
        replace K134 := K134.trans K245 (U := none_) (fun i h1 h2 => h2) (fun i h1 h2 => by exact h2)
        replace H135 := H135.keep K245 (fun h => h)
        replace H237 := H237.keep K245 (fun h => h)
        replace H137 := H137.keep K245 (fun h => h)
        replace H138 := H138.keep K245 (fun h => h)
        replace F240 := RdO.keep0 F240 K245
        replace hOV := own_keep0 hOV K245
        replace hM := hM.keep2 K245 (fun _ _ _ _ _ _ h => h)
        clear K245 hs246
        refine Ops.put (t := 97) (b := b241) (off := 0) (v := (agg [(i64 ((R.int).1)), (Value.slice none 0 0)])) (ys := [(i64 ((R.int).1)), (Value.slice none 0 0)]) (by kernel_rfl) (by kernel_rfl) H244 (by kernel_rfl) (d := none) (by kernel_rfl) rfl (fun w250 H251 K252 => ?_)
        clear H244
        replace K134 := K134.trans K252 (U := none_) (fun i h1 h2 => h2) (fun i h1 h2 => by have h2 : i = b241 := h2; exfalso; omega)
        replace H135 := H135.keep K252 (by intro h; change b1 = b241 at h; omega)
        replace H237 := H237.keep K252 (by intro h; change b13 = b241 at h; omega)
        replace H137 := H137.keep K252 (by intro h; change b25 = b241 at h; omega)
        replace H138 := H138.keep K252 (by intro h; change b114 = b241 at h; omega)
        replace F240 := RdO.keep F240 K252 (fun i _ _ hi hs => by have hs : i = b241 := hs; have := ob247 i _ _ hi; omega)
        replace hOV := own_keep hOV K252 (fun i hi hs => by have hs : i = b241 := hs; have := ob248 i hi; omega)
        replace hM := EntsMine.keep2 hM K252 (fun x hx i o s hA hs => by have hs : i = b241 := hs; exact oe249 x hx i o s hA hs)
        clear K252
        refine Ops.done (by kernel_rfl) ?_
        refine q_seq (by kernel_rfl) ?_
        refine q_region (by kernel_rfl) ?_
        refine Ops.regs 1 [(2, (ptr b1)), (3, (i64 0)), (4, (ptr b13)), (5, (ptr b25)), (7, (ptr b114)), (8, (ptr b241)), (37, (i64 ((((((((((((((((((((((⟨bs, 0, 0⟩ : Rdr).int).2).int).2).int).2).int).2).int).2).int).2).int).2).int).2).bool_).2).sized 4096).1 : Nat) : Int))), (38, (i64 ((i : Nat) : Int))), (39, (Value.bool true)), (42, (Value.bool false)), (46, (ptr b13))] (j := 1) (by kernel_rfl) (by kernel_rfl) ?_
        refine Ops.call (by kernel_rfl) (d := (some 47)) (by kernel_rfl) (RdBytes_calls _ b13 A14 c15 ((R.int).2) hok238 H237 F240 hne21 ) ?_
        rintro _ w253 ⟨v258, rfl, K254, hO259, H255⟩
        obtain ⟨A271, c272, hf273⟩ := RdB.form (OwnB.rd hO259)
        subst hf273
        have hok256 : (((R.int).2).bytes).2.Ok := Rdr.Ok.bytes hok238
        have hu257 := Rdr.bytes_le hok238
        have ob261 : ∀ i, ((Value.slice A271 (((((R.int).2).bytes).1).length) c272)).ownBlock = some i → i ≠ b1 := fun i hi => by have := (World.ownsRow.lt hO259 i hi).1; have := H135.lt; omega
        have ob262 : ∀ i, ((Value.slice A271 (((((R.int).2).bytes).1).length) c272)).ownBlock = some i → i ≠ b13 := fun i hi => by have := (World.ownsRow.lt hO259 i hi).1; have := H237.lt; omega
        have ob263 : ∀ i, ((Value.slice A271 (((((R.int).2).bytes).1).length) c272)).ownBlock = some i → i ≠ b25 := fun i hi => by have := (World.ownsRow.lt hO259 i hi).1; have := H137.lt; omega
        have ob264 : ∀ i, ((Value.slice A271 (((((R.int).2).bytes).1).length) c272)).ownBlock = some i → i ≠ b114 := fun i hi => by have := (World.ownsRow.lt hO259 i hi).1; have := H138.lt; omega
        have ob265 : ∀ i, ((Value.slice A271 (((((R.int).2).bytes).1).length) c272)).ownBlock = some i → i ≠ b241 := fun i hi => by have := (World.ownsRow.lt hO259 i hi).1; have := H251.lt; omega
        have oo266 : ∀ i o s, A14 = some ⟨i, o, s⟩ → ((Value.slice A271 (((((R.int).2).bytes).1).length) c272)).ownBlock = some i → False := fun i o s hi hs => by have := (World.ownsRow.lt hO259 i hs).1; have := F240.2 i o s hi; omega
        have oo268 : ∀ i, ((Value.slice VA l.length vc)).ownBlock = some i → ((Value.slice A271 (((((R.int).2).bytes).1).length) c272)).ownBlock = some i → False := fun i hi hs => by have := (World.ownsRow.lt hO259 i hs).1; have := (World.ownsRow.lt hOV i hi).2; omega
        have oo269 : ∀ i, ((Value.slice A271 (((((R.int).2).bytes).1).length) c272)).ownBlock = some i → ((Value.slice VA l.length vc)).ownBlock = some i → False := fun i hi hs => oo268 i hs hi
        have oo270 : ∀ y ∈ (l), ∀ g o s, y.A = some ⟨g, o, s⟩ → ((Value.slice A271 (((((R.int).2).bytes).1).length) c272)).ownBlock = some g → False := fun y hy g o s hA hs => by have := (World.ownsRow.lt hO259 g hs).1; have := EntsMine.lt hM y hy g o s hA; omega
        have O260 := own_base hO259 K134.size
        clear hO259
        refine ⟨_, _, rfl, rfl, ?_⟩
        replace K134 := K134.trans K254 (U := none_) (fun i h1 h2 => h2) (fun i h1 h2 => by have h2 : i = b13 := h2; exfalso; omega)
        replace H135 := H135.keep K254 (by intro h; change b1 = b13 at h; omega)
        replace H137 := H137.keep K254 (by intro h; change b25 = b13 at h; omega)
        replace H138 := H138.keep K254 (by intro h; change b114 = b13 at h; omega)
        replace H251 := H251.keep K254 (by intro h; change b241 = b13 at h; omega)
        replace F240 := RdO.keep F240 K254 (fun i _ _ hi hs => by have hs : i = b13 := hs; have := hne21 i _ _ hi; omega)
        replace hOV := own_keep hOV K254 (fun i hi hs => by have hs : i = b13 := hs; have := obVb13 i hi; omega)
        replace hM := EntsMine.keep2 hM K254 (fun x hx i o s hA hs => by have hs : i = b13 := hs; exact oeb13 x hx i o s hA hs)
        clear K254
        have F274 : RdO w253 A14 c15 (((R.int).2).bytes).2.bs := by rw [Rdr.bytes_bs]; exact F240
        clear F240
        refine Ops.regs 1 [(2, (ptr b1)), (3, (i64 0)), (4, (ptr b13)), (5, (ptr b25)), (7, (ptr b114)), (8, (ptr b241)), (37, (i64 ((((((((((((((((((((((⟨bs, 0, 0⟩ : Rdr).int).2).int).2).int).2).int).2).int).2).int).2).int).2).int).2).bool_).2).sized 4096).1 : Nat) : Int))), (38, (i64 ((i : Nat) : Int))), (39, (Value.bool true)), (42, (Value.bool false)), (47, (Value.slice A271 (((((R.int).2).bytes).1).length) c272)), (48, (Value.pointer (some ⟨b241, 1, none⟩)))] (j := 3) (by kernel_rfl) (by kernel_rfl) ?_
        refine Ops.put (t := 23) (b := b241) (off := 1) (v := (Value.slice A271 (((((R.int).2).bytes).1).length) c272)) (ys := [(i64 ((R.int).1)), (Value.slice A271 (((((R.int).2).bytes).1).length) c272)]) (by kernel_rfl) (by kernel_rfl) H251 (by kernel_rfl) (d := none) (by kernel_rfl) rfl (fun w275 H276 K277 => ?_)
        clear H251
        replace K134 := K134.trans K277 (U := none_) (fun i h1 h2 => h2) (fun i h1 h2 => by have h2 : i = b241 := h2; exfalso; omega)
        replace H135 := H135.keep K277 (by intro h; change b1 = b241 at h; omega)
        replace H255 := H255.keep K277 (by intro h; change b13 = b241 at h; omega)
        replace H137 := H137.keep K277 (by intro h; change b25 = b241 at h; omega)
        replace H138 := H138.keep K277 (by intro h; change b114 = b241 at h; omega)
        replace F274 := RdO.keep F274 K277 (fun i _ _ hi hs => by have hs : i = b241 := hs; have := ob247 i _ _ hi; omega)
        replace hOV := own_keep hOV K277 (fun i hi hs => by have hs : i = b241 := hs; have := ob248 i hi; omega)
        replace hM := EntsMine.keep2 hM K277 (fun x hx i o s hA hs => by have hs : i = b241 := hs; exact oe249 x hx i o s hA hs)
        replace O260 := own_keep O260 K277 (fun i hi hs => by have hs : i = b241 := hs; have := ob265 i hi; omega)
        clear K277
        refine Ops.done (by kernel_rfl) ?_
        refine q_region (by kernel_rfl) ?_
        refine Ops.regs 1 [(2, (ptr b1)), (3, (i64 0)), (4, (ptr b13)), (5, (ptr b25)), (7, (ptr b114)), (8, (ptr b241)), (37, (i64 ((((((((((((((((((((((⟨bs, 0, 0⟩ : Rdr).int).2).int).2).int).2).int).2).int).2).int).2).int).2).int).2).bool_).2).sized 4096).1 : Nat) : Int))), (38, (i64 ((i : Nat) : Int))), (39, (Value.bool true)), (42, (Value.bool false)), (49, (Value.pointer (some ⟨b114, 9, none⟩)))] (j := 1) (by kernel_rfl) (by kernel_rfl) ?_
        refine Ops.go (v := (Value.slice VA l.length vc)) (by kernel_rfl) (Runs.load (t := 47) (a := ⟨b114, 9, none⟩) (by kernel_rfl) (H138.loads (by kernel_rfl))) (d := (some 50)) (by kernel_rfl) rfl ?_
        refine Ops.go (v := (agg [(i64 ((R.int).1)), (Value.slice A271 (((((R.int).2).bytes).1).length) c272)])) (by kernel_rfl) (Runs.load (t := 97) (a := ⟨b241, 0, none⟩) (by kernel_rfl) (H276.loads (by kernel_rfl))) (d := (some 51)) (by kernel_rfl) rfl ?_
        refine Ops.new (o := rowL [(i64 ((R.int).1)), (Value.slice A271 (((((R.int).2).bytes).1).length) c272)] 97) (V := fun b => (Value.slice (some ⟨b, 0, none⟩) 1 1)) (by kernel_rfl) (d := (some 52)) (by kernel_rfl) (fun b => rfl) (fun b278 w279 hb280 H281 K282 hs283 => ?_)
        have lb278b1 : b1 < b278 := by have := H135.lt; omega
        have lb278b13 : b13 < b278 := by have := H255.lt; omega
        have lb278b25 : b25 < b278 := by have := H137.lt; omega
        have lb278b114 : b114 < b278 := by have := H138.lt; omega
        have lb278b241 : b241 < b278 := by have := H276.lt; omega
        have nb278 : w.heap.size ≤ b278 := by have := K134.size; omega
        have ob284 : ∀ i o s, A14 = some ⟨i, o, s⟩ → i ≠ b278 := fun i o s hi => by have := F274.2 i o s hi; omega
        have ob285 : ∀ i, ((Value.slice VA l.length vc)).ownBlock = some i → i < b278 := fun i hi => by have := (World.ownsRow.lt hOV i hi).2; omega
        have oe286 := EntsMine.new (c := b278) hM (by omega)
        have ob287 : ∀ i, ((Value.slice A271 (((((R.int).2).bytes).1).length) c272)).ownBlock = some i → i < b278 := fun i hi => by have := (World.ownsRow.lt O260 i hi).2; omega
        replace K134 := K134.trans K282 (U := none_) (fun i h1 h2 => h2) (fun i h1 h2 => by exact h2)
        replace H135 := H135.keep K282 (fun h => h)
        replace H255 := H255.keep K282 (fun h => h)
        replace H137 := H137.keep K282 (fun h => h)
        replace H138 := H138.keep K282 (fun h => h)
        replace H276 := H276.keep K282 (fun h => h)
        replace F274 := RdO.keep0 F274 K282
        replace hOV := own_keep0 hOV K282
        replace hM := hM.keep2 K282 (fun _ _ _ _ _ _ h => h)
        replace O260 := own_keep0 O260 K282
        clear K282 hs283
        obtain ⟨v288, w289, hr290, hO291, hK292, hg293⟩ := OwnT.app (ty := 47) EntP.two EntP.one tyE hOV (show RdT _ 2 EntP.cells _ [(⟨(R.int).1, A271, c272, (((R.int).2).bytes).1⟩ : EntP)] from Rd.lit H281 (n := 1) rfl (by decide)) (by simp only [List.length_cons, List.length_nil]; omega) (by simp only [List.length_cons, List.length_nil]; omega) K134.size
        obtain ⟨A295, c296, rfl⟩ := RdT.form EntP.two (by decide) (OwnT.rd hO291)
        have ob297 : ∀ i, ((Value.slice A295 ((l ++ [(⟨(R.int).1, A271, c272, (((R.int).2).bytes).1⟩ : EntP)]).length) c296)).ownBlock = some i → i ≠ b1 := fun i hi => by rcases hg293 i hi with h | h; (have := obVb1 i h; omega); (have := H135.lt; omega)
        have ob298 : ∀ i, ((Value.slice A295 ((l ++ [(⟨(R.int).1, A271, c272, (((R.int).2).bytes).1⟩ : EntP)]).length) c296)).ownBlock = some i → i ≠ b13 := fun i hi => by rcases hg293 i hi with h | h; (have := obVb13 i h; omega); (have := H255.lt; omega)
        have ob299 : ∀ i, ((Value.slice A295 ((l ++ [(⟨(R.int).1, A271, c272, (((R.int).2).bytes).1⟩ : EntP)]).length) c296)).ownBlock = some i → i ≠ b25 := fun i hi => by rcases hg293 i hi with h | h; (have := obVb25 i h; omega); (have := H137.lt; omega)
        have ob300 : ∀ i, ((Value.slice A295 ((l ++ [(⟨(R.int).1, A271, c272, (((R.int).2).bytes).1⟩ : EntP)]).length) c296)).ownBlock = some i → i ≠ b114 := fun i hi => by rcases hg293 i hi with h | h; (have := obVb114 i h; omega); (have := H138.lt; omega)
        have ob301 : ∀ i, ((Value.slice A295 ((l ++ [(⟨(R.int).1, A271, c272, (((R.int).2).bytes).1⟩ : EntP)]).length) c296)).ownBlock = some i → i ≠ b241 := fun i hi => by rcases hg293 i hi with h | h; (have := ob248 i h; omega); (have := H276.lt; omega)
        have ob302 : ∀ i, ((Value.slice A295 ((l ++ [(⟨(R.int).1, A271, c272, (((R.int).2).bytes).1⟩ : EntP)]).length) c296)).ownBlock = some i → i ≠ b278 := fun i hi => by rcases hg293 i hi with h | h; (have := ob285 i h; omega); (have := H281.lt; omega)
        have oo303 : ∀ i o s, A14 = some ⟨i, o, s⟩ → ((Value.slice A295 ((l ++ [(⟨(R.int).1, A271, c272, (((R.int).2).bytes).1⟩ : EntP)]).length) c296)).ownBlock = some i → False := fun i o s hi hs => by rcases hg293 i hs with h | h; (exact ooVA14 i o s hi h); (have := F274.2 i o s hi; omega)
        have oo304 : ∀ i, ((Value.slice A271 (((((R.int).2).bytes).1).length) c272)).ownBlock = some i → ((Value.slice A295 ((l ++ [(⟨(R.int).1, A271, c272, (((R.int).2).bytes).1⟩ : EntP)]).length) c296)).ownBlock = some i → False := fun i hi hs => by rcases hg293 i hs with h | h; (exact oo269 i hi h); (have := (World.ownsRow.lt O260 i hi).2; omega)
        have oo305 : ∀ i, ((Value.slice A295 ((l ++ [(⟨(R.int).1, A271, c272, (((R.int).2).bytes).1⟩ : EntP)]).length) c296)).ownBlock = some i → ((Value.slice A271 (((((R.int).2).bytes).1).length) c272)).ownBlock = some i → False := fun i hi hs => oo304 i hs hi
        have K294 := hK292
        refine Ops.go (v := (Value.slice A295 ((l ++ [(⟨(R.int).1, A271, c272, (((R.int).2).bytes).1⟩ : EntP)]).length) c296)) (by kernel_rfl) (Runs.append (ts := #[47, 47]) (ty := 47) (vs := [(Value.slice VA l.length vc), (Value.slice (some ⟨b278, 0, none⟩) 1 1)]) (by kernel_rfl) hr290) (d := (some 53)) (by kernel_rfl) rfl ?_
        have hlE306 := EntsMine.lt_add (x := (⟨(R.int).1, A271, c272, (((R.int).2).bytes).1⟩ : EntP)) hM O260
        replace K134 := K134.trans K294 (U := none_) (fun i h1 h2 => h2) (fun i h1 h2 => by have h2 : ((Value.slice VA l.length vc)).ownBlock = some i := h2; exfalso; have := (World.ownsRow.lt hOV i h2).1; omega)
        replace H135 := H135.keep K294 (by intro h; change ((Value.slice VA l.length vc)).ownBlock = some b1 at h; have := obVb1 b1 h; omega)
        replace H255 := H255.keep K294 (by intro h; change ((Value.slice VA l.length vc)).ownBlock = some b13 at h; have := obVb13 b13 h; omega)
        replace H137 := H137.keep K294 (by intro h; change ((Value.slice VA l.length vc)).ownBlock = some b25 at h; have := obVb25 b25 h; omega)
        replace H138 := H138.keep K294 (by intro h; change ((Value.slice VA l.length vc)).ownBlock = some b114 at h; have := obVb114 b114 h; omega)
        replace H276 := H276.keep K294 (by intro h; change ((Value.slice VA l.length vc)).ownBlock = some b241 at h; have := ob248 b241 h; omega)
        replace H281 := H281.keep K294 (by intro h; change ((Value.slice VA l.length vc)).ownBlock = some b278 at h; have := ob285 b278 h; omega)
        replace F274 := RdO.keep F274 K294 (fun i _ _ hi hs => by have hs : ((Value.slice VA l.length vc)).ownBlock = some i := hs; exact ooVA14 i _ _ hi hs)
        clear hOV
        replace hM := EntsMine.keep2 hM K294 (fun x hx i o s hA hs => by have hs : ((Value.slice VA l.length vc)).ownBlock = some i := hs; exact hMo x hx i o s hA hs)
        replace O260 := own_keep O260 K294 (fun i hi hs => by have hs : ((Value.slice VA l.length vc)).ownBlock = some i := hs; exact oo269 i hi hs)
        have hM307 : EntsMine 5 w289 w.heap.size (Value.slice A295 ((l ++ [(⟨(R.int).1, A271, c272, (((R.int).2).bytes).1⟩ : EntP)]).length) c296) (l ++ [(⟨(R.int).1, A271, c272, (((R.int).2).bytes).1⟩ : EntP)]) := EntsMine.add (x := (⟨(R.int).1, A271, c272, (((R.int).2).bytes).1⟩ : EntP)) hM O260 hlE306 hg293 (fun g o s hA hv => oo268 g hv (by have hA2 : A271 = some ⟨g, o, s⟩ := hA; rw [hA2]; rfl))
        have oe308 : ∀ y ∈ (l ++ [(⟨(R.int).1, A271, c272, (((R.int).2).bytes).1⟩ : EntP)]), ∀ g o s, y.A = some ⟨g, o, s⟩ → g ≠ b1 := ne_add oeb1 (fun i hi => by have := ob261 i hi; omega)
        have oe309 : ∀ y ∈ (l ++ [(⟨(R.int).1, A271, c272, (((R.int).2).bytes).1⟩ : EntP)]), ∀ g o s, y.A = some ⟨g, o, s⟩ → g ≠ b13 := ne_add oeb13 (fun i hi => by have := ob262 i hi; omega)
        have oe310 : ∀ y ∈ (l ++ [(⟨(R.int).1, A271, c272, (((R.int).2).bytes).1⟩ : EntP)]), ∀ g o s, y.A = some ⟨g, o, s⟩ → g ≠ b25 := ne_add oeb25 (fun i hi => by have := ob263 i hi; omega)
        have oe311 : ∀ y ∈ (l ++ [(⟨(R.int).1, A271, c272, (((R.int).2).bytes).1⟩ : EntP)]), ∀ g o s, y.A = some ⟨g, o, s⟩ → g ≠ b114 := ne_add oeb114 (fun i hi => by have := ob264 i hi; omega)
        have oe312 : ∀ y ∈ (l ++ [(⟨(R.int).1, A271, c272, (((R.int).2).bytes).1⟩ : EntP)]), ∀ g o s, y.A = some ⟨g, o, s⟩ → g ≠ b241 := ne_add oe249 (fun i hi => by have := ob265 i hi; omega)
        have oe313 : ∀ y ∈ (l ++ [(⟨(R.int).1, A271, c272, (((R.int).2).bytes).1⟩ : EntP)]), ∀ g o s, y.A = some ⟨g, o, s⟩ → g ≠ b278 := ne_add oe286 (fun i hi => by have := ob287 i hi; omega)
        clear hM
        clear K294 hr290 hK292 hg293
        refine Ops.regs 1 [(2, (ptr b1)), (3, (i64 0)), (4, (ptr b13)), (5, (ptr b25)), (7, (ptr b114)), (8, (ptr b241)), (37, (i64 ((((((((((((((((((((((⟨bs, 0, 0⟩ : Rdr).int).2).int).2).int).2).int).2).int).2).int).2).int).2).int).2).bool_).2).sized 4096).1 : Nat) : Int))), (38, (i64 ((i : Nat) : Int))), (39, (Value.bool true)), (42, (Value.bool false)), (53, (Value.slice A295 ((l ++ [(⟨(R.int).1, A271, c272, (((R.int).2).bytes).1⟩ : EntP)]).length) c296)), (54, (Value.pointer (some ⟨b114, 9, none⟩)))] (j := 6) (by kernel_rfl) (by kernel_rfl) ?_
        refine Ops.put (t := 47) (b := b114) (off := 9) (v := (Value.slice A295 ((l ++ [(⟨(R.int).1, A271, c272, (((R.int).2).bytes).1⟩ : EntP)]).length) c296)) (ys := [(i64 0), (i64 0), (i64 0), (i64 0), (i64 (((((((((((⟨bs, 0, 0⟩ : Rdr).int).2).int).2).int).2).int).2).int).1)), (i64 (((((((((((((⟨bs, 0, 0⟩ : Rdr).int).2).int).2).int).2).int).2).int).2).int).1)), (i64 (((((((((((((((⟨bs, 0, 0⟩ : Rdr).int).2).int).2).int).2).int).2).int).2).int).2).int).1)), (i64 (((((((((((((((((⟨bs, 0, 0⟩ : Rdr).int).2).int).2).int).2).int).2).int).2).int).2).int).2).int).1)), (Value.bool (((((((((((((((((((⟨bs, 0, 0⟩ : Rdr).int).2).int).2).int).2).int).2).int).2).int).2).int).2).int).2).bool_).1)), (Value.slice A295 ((l ++ [(⟨(R.int).1, A271, c272, (((R.int).2).bytes).1⟩ : EntP)]).length) c296), (Value.slice none 0 0)]) (by kernel_rfl) (by kernel_rfl) H138 (by kernel_rfl) (d := none) (by kernel_rfl) rfl (fun w314 H315 K316 => ?_)
        clear H138
        replace K134 := K134.trans K316 (U := none_) (fun i h1 h2 => h2) (fun i h1 h2 => by have h2 : i = b114 := h2; exfalso; omega)
        replace H135 := H135.keep K316 (by intro h; change b1 = b114 at h; omega)
        replace H255 := H255.keep K316 (by intro h; change b13 = b114 at h; omega)
        replace H137 := H137.keep K316 (by intro h; change b25 = b114 at h; omega)
        replace H276 := H276.keep K316 (by intro h; change b241 = b114 at h; omega)
        replace H281 := H281.keep K316 (by intro h; change b278 = b114 at h; omega)
        replace F274 := RdO.keep F274 K316 (fun i _ _ hi hs => by have hs : i = b114 := hs; have := ob121 i _ _ hi; omega)
        replace O260 := own_keep O260 K316 (fun i hi hs => by have hs : i = b114 := hs; have := ob264 i hi; omega)
        replace hM307 := EntsMine.keep2 hM307 K316 (fun x hx i o s hA hs => by have hs : i = b114 := hs; exact oe311 x hx i o s hA hs)
        replace hO291 := own_keep hO291 K316 (fun i hi hs => by have hs : i = b114 := hs; have := ob300 i hi; omega)
        clear K316
        refine Ops.done (by kernel_rfl) ?_
        refine q_region (by kernel_rfl) ?_
        refine Ops.regs 1 [(2, (ptr b1)), (3, (i64 0)), (4, (ptr b13)), (5, (ptr b25)), (7, (ptr b114)), (8, (ptr b241)), (37, (i64 ((((((((((((((((((((((⟨bs, 0, 0⟩ : Rdr).int).2).int).2).int).2).int).2).int).2).int).2).int).2).int).2).bool_).2).sized 4096).1 : Nat) : Int))), (38, (i64 ((i : Nat) : Int))), (39, (Value.bool true)), (42, (Value.bool false)), (55, (i64 (IntKind.i64.wrap (((i : Nat) : Int) + 1))))] (j := 1) (by kernel_rfl) (by kernel_rfl) ?_
        have e317 : IntKind.i64.wrap (((i : Nat) : Int) + 1) = ((i + 1 : Nat) : Int) := by rw [wrap_i64 (by omega) (by omega)]; omega
        rw [e317]
        clear e317
        refine Ops.regs 1 [(2, (ptr b1)), (3, (i64 0)), (4, (ptr b13)), (5, (ptr b25)), (7, (ptr b114)), (8, (ptr b241)), (37, (i64 ((((((((((((((((((((((⟨bs, 0, 0⟩ : Rdr).int).2).int).2).int).2).int).2).int).2).int).2).int).2).int).2).bool_).2).sized 4096).1 : Nat) : Int))), (38, (i64 ((i + 1 : Nat) : Int))), (39, (Value.bool true)), (42, (Value.bool false))] (j := 2) (by kernel_rfl) (by kernel_rfl) ?_
        refine Ops.keep (R := [(2, (ptr b1)), (3, (i64 0)), (4, (ptr b13)), (5, (ptr b25)), (7, (ptr b114)), (37, (i64 ((((((((((((((((((((((⟨bs, 0, 0⟩ : Rdr).int).2).int).2).int).2).int).2).int).2).int).2).int).2).int).2).bool_).2).sized 4096).1 : Nat) : Int))), (38, (i64 ((i + 1 : Nat) : Int)))]) (by kernel_rfl) ?_
        refine Ops.done (by kernel_rfl) ?_
        exact ⟨(A295, c296, i + 1, l ++ [(⟨(R.int).1, A271, c272, (((R.int).2).bytes).1⟩ : EntP)], (((R.int).2).bytes).2), ⟨rfl, F274, hO291, ob297, ob298, ob299, ob300, oo303, hM307, oe308, oe309, oe310, oe311, hok256, (by rw [List.map_append]; exact (Rdr.ents_next hE hF (by omega) (by omega)).1), (Rdr.ents_next hE hF (by omega) (by omega)).2, (by omega), (by simp only [List.length_append, List.length_cons, List.length_nil]; omega), (EntsOk.add hlo (by simp only; omega)), (EntsApart.add hpw oo270), K134, H135, H255, H137, H315⟩, (show (⟨bs, 0, 0⟩ : Rdr).mcnt.1 - (i + 1) < (⟨bs, 0, 0⟩ : Rdr).mcnt.1 - i from by omega)⟩
    · rw [h139]
      have p318 : ¬ (((i : Nat) : Int) < ((((((((((((((((((((((⟨bs, 0, 0⟩ : Rdr).int).2).int).2).int).2).int).2).int).2).int).2).int).2).int).2).bool_).2).sized 4096).1 : Nat) : Int)) := of_decide_eq_false h139
      have hd := Rdr.ents_done hE hF (by omega)
      have hme : (⟨bs, 0, 0⟩ : Rdr).ments = (l.map EntP.key, R) := Prod.ext hd.1 hd.2
      have hmd : (⟨bs, 0, 0⟩ : Rdr).mdata = R.bytes := by unfold Rdr.mdata; rw [hme]
      refine q_exit (id := 2) (by kernel_rfl) ?_
      refine q_seq (by kernel_rfl) ?_
      refine q_region (by kernel_rfl) ?_
      refine Ops.regs 1 [(2, (ptr b1)), (3, (i64 0)), (4, (ptr b13)), (5, (ptr b25)), (7, (ptr b114)), (56, (ptr b13))] (j := 1) (by kernel_rfl) (by kernel_rfl) ?_
      refine Ops.call (by kernel_rfl) (d := (some 57)) (by kernel_rfl) (RdBytes_calls _ b13 A14 c15 R hokR H136 hRdA14 hne21 ) ?_
      rintro _ w319 ⟨v324, rfl, K320, hO325, H321⟩
      obtain ⟨A336, c337, hf338⟩ := RdB.form (OwnB.rd hO325)
      subst hf338
      have hok322 : (R.bytes).2.Ok := Rdr.Ok.bytes hokR
      have hu323 := Rdr.bytes_le hokR
      have ob327 : ∀ i, ((Value.slice A336 (((R.bytes).1).length) c337)).ownBlock = some i → i ≠ b1 := fun i hi => by have := (World.ownsRow.lt hO325 i hi).1; have := H135.lt; omega
      have ob328 : ∀ i, ((Value.slice A336 (((R.bytes).1).length) c337)).ownBlock = some i → i ≠ b13 := fun i hi => by have := (World.ownsRow.lt hO325 i hi).1; have := H136.lt; omega
      have ob329 : ∀ i, ((Value.slice A336 (((R.bytes).1).length) c337)).ownBlock = some i → i ≠ b25 := fun i hi => by have := (World.ownsRow.lt hO325 i hi).1; have := H137.lt; omega
      have ob330 : ∀ i, ((Value.slice A336 (((R.bytes).1).length) c337)).ownBlock = some i → i ≠ b114 := fun i hi => by have := (World.ownsRow.lt hO325 i hi).1; have := H138.lt; omega
      have oo331 : ∀ i o s, A14 = some ⟨i, o, s⟩ → ((Value.slice A336 (((R.bytes).1).length) c337)).ownBlock = some i → False := fun i o s hi hs => by have := (World.ownsRow.lt hO325 i hs).1; have := hRdA14.2 i o s hi; omega
      have oo333 : ∀ i, ((Value.slice VA l.length vc)).ownBlock = some i → ((Value.slice A336 (((R.bytes).1).length) c337)).ownBlock = some i → False := fun i hi hs => by have := (World.ownsRow.lt hO325 i hs).1; have := (World.ownsRow.lt hOV i hi).2; omega
      have oo334 : ∀ i, ((Value.slice A336 (((R.bytes).1).length) c337)).ownBlock = some i → ((Value.slice VA l.length vc)).ownBlock = some i → False := fun i hi hs => oo333 i hs hi
      have oo335 : ∀ y ∈ (l), ∀ g o s, y.A = some ⟨g, o, s⟩ → ((Value.slice A336 (((R.bytes).1).length) c337)).ownBlock = some g → False := fun y hy g o s hA hs => by have := (World.ownsRow.lt hO325 g hs).1; have := EntsMine.lt hM y hy g o s hA; omega
      have O326 := own_base hO325 K134.size
      clear hO325
      refine ⟨_, _, rfl, rfl, ?_⟩
      replace K134 := K134.trans K320 (U := none_) (fun i h1 h2 => h2) (fun i h1 h2 => by have h2 : i = b13 := h2; exfalso; omega)
      replace H135 := H135.keep K320 (by intro h; change b1 = b13 at h; omega)
      replace H137 := H137.keep K320 (by intro h; change b25 = b13 at h; omega)
      replace H138 := H138.keep K320 (by intro h; change b114 = b13 at h; omega)
      replace hRdA14 := RdO.keep hRdA14 K320 (fun i _ _ hi hs => by have hs : i = b13 := hs; have := hne21 i _ _ hi; omega)
      replace hOV := own_keep hOV K320 (fun i hi hs => by have hs : i = b13 := hs; have := obVb13 i hi; omega)
      replace hM := EntsMine.keep2 hM K320 (fun x hx i o s hA hs => by have hs : i = b13 := hs; exact oeb13 x hx i o s hA hs)
      clear K320
      have F339 : RdO w319 A14 c15 (R.bytes).2.bs := by rw [Rdr.bytes_bs]; exact hRdA14
      clear hRdA14
      refine Ops.regs 1 [(2, (ptr b1)), (3, (i64 0)), (4, (ptr b13)), (5, (ptr b25)), (7, (ptr b114)), (57, (Value.slice A336 (((R.bytes).1).length) c337)), (58, (Value.pointer (some ⟨b114, 10, none⟩)))] (j := 3) (by kernel_rfl) (by kernel_rfl) ?_
      refine Ops.put (t := 23) (b := b114) (off := 10) (v := (Value.slice A336 (((R.bytes).1).length) c337)) (ys := [(i64 0), (i64 0), (i64 0), (i64 0), (i64 (((((((((((⟨bs, 0, 0⟩ : Rdr).int).2).int).2).int).2).int).2).int).1)), (i64 (((((((((((((⟨bs, 0, 0⟩ : Rdr).int).2).int).2).int).2).int).2).int).2).int).1)), (i64 (((((((((((((((⟨bs, 0, 0⟩ : Rdr).int).2).int).2).int).2).int).2).int).2).int).2).int).1)), (i64 (((((((((((((((((⟨bs, 0, 0⟩ : Rdr).int).2).int).2).int).2).int).2).int).2).int).2).int).2).int).1)), (Value.bool (((((((((((((((((((⟨bs, 0, 0⟩ : Rdr).int).2).int).2).int).2).int).2).int).2).int).2).int).2).int).2).bool_).1)), (Value.slice VA l.length vc), (Value.slice A336 (((R.bytes).1).length) c337)]) (by kernel_rfl) (by kernel_rfl) H138 (by kernel_rfl) (d := none) (by kernel_rfl) rfl (fun w340 H341 K342 => ?_)
      clear H138
      replace K134 := K134.trans K342 (U := none_) (fun i h1 h2 => h2) (fun i h1 h2 => by have h2 : i = b114 := h2; exfalso; omega)
      replace H135 := H135.keep K342 (by intro h; change b1 = b114 at h; omega)
      replace H321 := H321.keep K342 (by intro h; change b13 = b114 at h; omega)
      replace H137 := H137.keep K342 (by intro h; change b25 = b114 at h; omega)
      replace F339 := RdO.keep F339 K342 (fun i _ _ hi hs => by have hs : i = b114 := hs; have := ob121 i _ _ hi; omega)
      replace hOV := own_keep hOV K342 (fun i hi hs => by have hs : i = b114 := hs; have := obVb114 i hi; omega)
      replace hM := EntsMine.keep2 hM K342 (fun x hx i o s hA hs => by have hs : i = b114 := hs; exact oeb114 x hx i o s hA hs)
      replace O326 := own_keep O326 K342 (fun i hi hs => by have hs : i = b114 := hs; have := ob330 i hi; omega)
      clear K342
      refine Ops.done (by kernel_rfl) ?_
      refine q_seq (by kernel_rfl) ?_
      refine q_seq (by kernel_rfl) ?_
      refine q_region (by kernel_rfl) ?_
      refine Ops.regs 1 [(2, (ptr b1)), (3, (i64 0)), (5, (ptr b25)), (7, (ptr b114)), (59, (ptr b13))] (j := 1) (by kernel_rfl) (by kernel_rfl) ?_
      refine Ops.call (by kernel_rfl) (d := (some 60)) (by kernel_rfl) (RdEnd_calls _ b13 A14 c15 ((R.bytes).2) hok322 H321 F339 hne21) ?_
      rintro _ w343 ⟨rfl, K344⟩
      refine ⟨_, _, rfl, rfl, ?_⟩
      replace K134 := K134.trans K344 (U := none_) (fun i h1 h2 => h2) (fun i h1 h2 => by exact h2)
      replace H135 := H135.keep K344 (fun h => h)
      replace H321 := H321.keep K344 (fun h => h)
      replace H137 := H137.keep K344 (fun h => h)
      replace H341 := H341.keep K344 (fun h => h)
      replace F339 := RdO.keep0 F339 K344
      replace hOV := own_keep0 hOV K344
      replace hM := hM.keep2 K344 (fun _ _ _ _ _ _ h => h)
      replace O326 := own_keep0 O326 K344
      clear K344
      refine Ops.regs 1 [(2, (ptr b1)), (3, (i64 0)), (5, (ptr b25)), (7, (ptr b114)), (9, (i64 (((R.bytes).2).end_)))] (j := 3) (by kernel_rfl) (by kernel_rfl) ?_
      refine Ops.done (by kernel_rfl) ?_
      refine q_seq (by kernel_rfl) ?_
      refine q_region (by kernel_rfl) ?_
      refine Ops.regs 2 [(2, (ptr b1)), (3, (i64 0)), (5, (ptr b25)), (7, (ptr b114)), (9, (i64 (((R.bytes).2).end_))), (62, (Value.bool ((((R.bytes).2).end_) != 0)))] (j := 2) (by kernel_rfl) (by kernel_rfl) ?_
      refine Ops.done (by kernel_rfl) ?_
      refine q_cond (o := .tmp 62) (b := ((((R.bytes).2).end_) != 0)) (by kernel_rfl) rfl (fun h345 => ?_) (fun h345 => ?_)
      · rw [h345]
        have p346 : ¬ (((R.bytes).2).end_ = 0) := of_bne_t h345
        refine q_seq (by kernel_rfl) ?_
        refine q_region (by kernel_rfl) ?_
        refine Ops.regs 2 [(2, (ptr b1)), (3, (i64 0)), (5, (ptr b25)), (7, (ptr b114)), (63, (agg [(i64 0), (i64 0), (i64 0), (i64 0), (i64 0), (i64 0), (i64 0), (i64 0), (Value.bool false), (Value.slice none 0 0), (Value.slice none 0 0)])), (64, (i64 (((R.bytes).2).end_)))] (j := 2) (by kernel_rfl) (by kernel_rfl) ?_
        refine Ops.put (t := 49) (b := b1) (off := 0) (v := (agg [(i64 0), (i64 0), (i64 0), (i64 0), (i64 0), (i64 0), (i64 0), (i64 0), (Value.bool false), (Value.slice none 0 0), (Value.slice none 0 0)])) (ys := [(i64 0), (i64 0), (i64 0), (i64 0), (i64 0), (i64 0), (i64 0), (i64 0), (Value.bool false), (Value.slice none 0 0), (Value.slice none 0 0)]) (by kernel_rfl) (by kernel_rfl) H135 (by kernel_rfl) (d := none) (by kernel_rfl) rfl (fun w347 H348 K349 => ?_)
        clear H135
        replace K134 := K134.trans K349 (U := none_) (fun i h1 h2 => h2) (fun i h1 h2 => by have h2 : i = b1 := h2; exfalso; omega)
        replace H321 := H321.keep K349 (by intro h; change b13 = b1 at h; omega)
        replace H137 := H137.keep K349 (by intro h; change b25 = b1 at h; omega)
        replace H341 := H341.keep K349 (by intro h; change b114 = b1 at h; omega)
        replace F339 := RdO.keep F339 K349 (fun i _ _ hi hs => by have hs : i = b1 := hs; have := ob24 i _ _ hi; omega)
        replace hOV := own_keep hOV K349 (fun i hi hs => by have hs : i = b1 := hs; have := obVb1 i hi; omega)
        replace hM := EntsMine.keep2 hM K349 (fun x hx i o s hA hs => by have hs : i = b1 := hs; exact oeb1 x hx i o s hA hs)
        replace O326 := own_keep O326 K349 (fun i hi hs => by have hs : i = b1 := hs; have := ob327 i hi; omega)
        clear K349
        refine Ops.regs 1 [(2, (ptr b1)), (3, (i64 (((R.bytes).2).end_))), (5, (ptr b25)), (7, (ptr b114))] (j := 4) (by kernel_rfl) (by kernel_rfl) ?_
        refine Ops.done (by kernel_rfl) ?_
        refine q_ret (by kernel_rfl) ?_
        refine ⟨(Value.tuple #[(agg [(i64 0), (i64 0), (i64 0), (i64 0), (i64 0), (i64 0), (i64 0), (i64 0), (Value.bool false), (Value.slice none 0 0), (Value.slice none 0 0)]), (i64 (((R.bytes).2).end_))]), retv_cell_tmp rfl rfl (H348.loads (by kernel_rfl)) rfl, ?_⟩
        exact ⟨(⟨0, 0, 0, 0, 0, 0, 0, 0, false, [], []⟩ : MsgP), none, none, 0, 0, ((R.bytes).2).end_, rfl, K134, ⟨by (try simp only); omega, by (try simp only); omega, by (try simp only); omega, by (try simp only); omega, by (try simp only); omega, by (try simp only); omega, by (try simp only); omega, by (try simp only); omega, fun x hx => by cases hx⟩, by unfold unmsgB; rw [if_neg (by omega), if_pos (by rw [hmd]; omega), hmd]; rfl, (OwnT.nil _ _ _ _ _), (EntsMine.nil _ _ _), (World.ownsRow_nil _ _ _ _), EntsApart.nil, (fun y hy => by cases hy), (fun _ h => by cases h)⟩
      · rw [h345]
        have p350 : ((R.bytes).2).end_ = 0 := of_bne_f h345
        refine q_skip (by kernel_rfl) ?_
        refine q_seq (by kernel_rfl) ?_
        refine q_region (by kernel_rfl) ?_
        refine Ops.regs 1 [(2, (ptr b1)), (3, (i64 0)), (5, (ptr b25)), (7, (ptr b114)), (10, (Value.func (Fn.func 77) ⟨[]⟩ ⟨[]⟩))] (j := 1) (by kernel_rfl) (by kernel_rfl) ?_
        refine Ops.done (by kernel_rfl) ?_
        refine q_seq (by kernel_rfl) ?_
        refine q_seq (by kernel_rfl) ?_
        refine q_region (by kernel_rfl) ?_
        refine Ops.regs 2 [(2, (ptr b1)), (3, (i64 0)), (5, (ptr b25)), (7, (ptr b114)), (10, (Value.func (Fn.func 77) ⟨[]⟩ ⟨[]⟩)), (65, (Value.func (Fn.func 77) ⟨[]⟩ ⟨[]⟩)), (66, (ptr b25))] (j := 2) (by kernel_rfl) (by kernel_rfl) ?_
        refine Ops.go (v := (i64 (((⟨bs, 0, 0⟩ : Rdr).int).1))) (by kernel_rfl) (Runs.load (t := 2) (a := ⟨b25, 0, none⟩) (by kernel_rfl) (H137.loads (by kernel_rfl))) (d := (some 67)) (by kernel_rfl) rfl ?_
        refine Ops.call (by kernel_rfl) (d := (some 68)) (by kernel_rfl) (in_calls _ (((⟨bs, 0, 0⟩ : Rdr).int).1) 1 6) ?_
        rintro _ _ ⟨t351, rfl, ht352, rfl⟩
        refine ⟨_, _, rfl, rfl, ?_⟩
        refine Ops.regs 2 [(2, (ptr b1)), (3, (i64 0)), (5, (ptr b25)), (7, (ptr b114)), (10, (Value.func (Fn.func 77) ⟨[]⟩ ⟨[]⟩)), (70, (Value.bool (!t351)))] (j := 6) (by kernel_rfl) (by kernel_rfl) ?_
        refine Ops.split (!t351) (fun h353 => ?_) (fun h353 => ?_)
        · rw [h353]
          have p354 : t351 = false := (bnot_true h353)
          try rw [p354]
          have hin355 : ¬ (1 ≤ ((⟨bs, 0, 0⟩ : Rdr).int).1 ∧ ((⟨bs, 0, 0⟩ : Rdr).int).1 ≤ 6) := fun q => by have q := ht352.2 q; rw [(bnot_true h353)] at q; cases q
          refine Ops.regs 20 [(2, (ptr b1)), (3, (i64 0)), (5, (ptr b25)), (7, (ptr b114)), (90, (Value.bool true))] (j := 26) (by kernel_rfl) (by kernel_rfl) ?_
          refine Ops.done (by kernel_rfl) ?_
          refine q_then (o := .tmp 90) (by kernel_rfl) rfl ?_
          refine q_seq (by kernel_rfl) ?_
          refine q_region (by kernel_rfl) ?_
          refine Ops.regs 1 [(2, (ptr b1)), (3, (i64 0)), (5, (ptr b25)), (7, (ptr b114)), (91, (agg [(i64 0), (i64 0), (i64 0), (i64 0), (i64 0), (i64 0), (i64 0), (i64 0), (Value.bool false), (Value.slice none 0 0), (Value.slice none 0 0)]))] (j := 1) (by kernel_rfl) (by kernel_rfl) ?_
          refine Ops.put (t := 49) (b := b1) (off := 0) (v := (agg [(i64 0), (i64 0), (i64 0), (i64 0), (i64 0), (i64 0), (i64 0), (i64 0), (Value.bool false), (Value.slice none 0 0), (Value.slice none 0 0)])) (ys := [(i64 0), (i64 0), (i64 0), (i64 0), (i64 0), (i64 0), (i64 0), (i64 0), (Value.bool false), (Value.slice none 0 0), (Value.slice none 0 0)]) (by kernel_rfl) (by kernel_rfl) H135 (by kernel_rfl) (d := none) (by kernel_rfl) rfl (fun w356 H357 K358 => ?_)
          clear H135
          replace K134 := K134.trans K358 (U := none_) (fun i h1 h2 => h2) (fun i h1 h2 => by have h2 : i = b1 := h2; exfalso; omega)
          replace H321 := H321.keep K358 (by intro h; change b13 = b1 at h; omega)
          replace H137 := H137.keep K358 (by intro h; change b25 = b1 at h; omega)
          replace H341 := H341.keep K358 (by intro h; change b114 = b1 at h; omega)
          replace F339 := RdO.keep F339 K358 (fun i _ _ hi hs => by have hs : i = b1 := hs; have := ob24 i _ _ hi; omega)
          replace hOV := own_keep hOV K358 (fun i hi hs => by have hs : i = b1 := hs; have := obVb1 i hi; omega)
          replace hM := EntsMine.keep2 hM K358 (fun x hx i o s hA hs => by have hs : i = b1 := hs; exact oeb1 x hx i o s hA hs)
          replace O326 := own_keep O326 K358 (fun i hi hs => by have hs : i = b1 := hs; have := ob327 i hi; omega)
          clear K358
          refine Ops.regs 1 [(2, (ptr b1)), (3, (i64 1)), (5, (ptr b25)), (7, (ptr b114))] (j := 3) (by kernel_rfl) (by kernel_rfl) ?_
          refine Ops.done (by kernel_rfl) ?_
          refine q_ret (by kernel_rfl) ?_
          refine ⟨(Value.tuple #[(agg [(i64 0), (i64 0), (i64 0), (i64 0), (i64 0), (i64 0), (i64 0), (i64 0), (Value.bool false), (Value.slice none 0 0), (Value.slice none 0 0)]), (i64 1)]), retv_cell_tmp rfl rfl (H357.loads (by kernel_rfl)) rfl, ?_⟩
          exact ⟨(⟨0, 0, 0, 0, 0, 0, 0, 0, false, [], []⟩ : MsgP), none, none, 0, 0, 1, rfl, K134, ⟨by (try simp only); omega, by (try simp only); omega, by (try simp only); omega, by (try simp only); omega, by (try simp only); omega, by (try simp only); omega, by (try simp only); omega, by (try simp only); omega, fun x hx => by cases hx⟩, by unfold unmsgB; rw [if_neg (by omega), if_neg (by rw [hmd]; omega), if_neg (fun q => by unfold Rdr.mfit at q; simp only [Rdr.mint, Rdr.nth] at q; omega)]; rfl, (OwnT.nil _ _ _ _ _), (EntsMine.nil _ _ _), (World.ownsRow_nil _ _ _ _), EntsApart.nil, (fun y hy => by cases hy), (fun _ h => by cases h)⟩
        · rw [h353]
          have p359 : t351 = true := (bnot_false h353)
          try rw [p359]
          have hin360 := ht352.1 (bnot_false h353)
          refine Ops.regs 2 [(2, (ptr b1)), (3, (i64 0)), (5, (ptr b25)), (7, (ptr b114)), (10, (Value.func (Fn.func 77) ⟨[]⟩ ⟨[]⟩)), (70, (Value.bool false)), (71, (Value.func (Fn.func 77) ⟨[]⟩ ⟨[]⟩)), (72, (Value.pointer (some ⟨b25, 1, none⟩)))] (j := 8) (by kernel_rfl) (by kernel_rfl) ?_
          refine Ops.go (v := (i64 (((((⟨bs, 0, 0⟩ : Rdr).int).2).int).1))) (by kernel_rfl) (Runs.load (t := 2) (a := ⟨b25, 1, none⟩) (by kernel_rfl) (H137.loads (by kernel_rfl))) (d := (some 73)) (by kernel_rfl) rfl ?_
          refine Ops.call (by kernel_rfl) (d := (some 74)) (by kernel_rfl) (in_calls _ (((((⟨bs, 0, 0⟩ : Rdr).int).2).int).1) 0 3) ?_
          rintro _ _ ⟨t361, rfl, ht362, rfl⟩
          refine ⟨_, _, rfl, rfl, ?_⟩
          refine Ops.regs 3 [(2, (ptr b1)), (3, (i64 0)), (5, (ptr b25)), (7, (ptr b114)), (10, (Value.func (Fn.func 77) ⟨[]⟩ ⟨[]⟩)), (77, (Value.bool (!t361)))] (j := 13) (by kernel_rfl) (by kernel_rfl) ?_
          refine Ops.split (!t361) (fun h363 => ?_) (fun h363 => ?_)
          · rw [h363]
            have p364 : t361 = false := (bnot_true h363)
            try rw [p364]
            have hin365 : ¬ (0 ≤ ((((⟨bs, 0, 0⟩ : Rdr).int).2).int).1 ∧ ((((⟨bs, 0, 0⟩ : Rdr).int).2).int).1 ≤ 3) := fun q => by have q := ht362.2 q; rw [(bnot_true h363)] at q; cases q
            refine Ops.regs 13 [(2, (ptr b1)), (3, (i64 0)), (5, (ptr b25)), (7, (ptr b114)), (90, (Value.bool true))] (j := 26) (by kernel_rfl) (by kernel_rfl) ?_
            refine Ops.done (by kernel_rfl) ?_
            refine q_then (o := .tmp 90) (by kernel_rfl) rfl ?_
            refine q_seq (by kernel_rfl) ?_
            refine q_region (by kernel_rfl) ?_
            refine Ops.regs 1 [(2, (ptr b1)), (3, (i64 0)), (5, (ptr b25)), (7, (ptr b114)), (91, (agg [(i64 0), (i64 0), (i64 0), (i64 0), (i64 0), (i64 0), (i64 0), (i64 0), (Value.bool false), (Value.slice none 0 0), (Value.slice none 0 0)]))] (j := 1) (by kernel_rfl) (by kernel_rfl) ?_
            refine Ops.put (t := 49) (b := b1) (off := 0) (v := (agg [(i64 0), (i64 0), (i64 0), (i64 0), (i64 0), (i64 0), (i64 0), (i64 0), (Value.bool false), (Value.slice none 0 0), (Value.slice none 0 0)])) (ys := [(i64 0), (i64 0), (i64 0), (i64 0), (i64 0), (i64 0), (i64 0), (i64 0), (Value.bool false), (Value.slice none 0 0), (Value.slice none 0 0)]) (by kernel_rfl) (by kernel_rfl) H135 (by kernel_rfl) (d := none) (by kernel_rfl) rfl (fun w366 H367 K368 => ?_)
            clear H135
            replace K134 := K134.trans K368 (U := none_) (fun i h1 h2 => h2) (fun i h1 h2 => by have h2 : i = b1 := h2; exfalso; omega)
            replace H321 := H321.keep K368 (by intro h; change b13 = b1 at h; omega)
            replace H137 := H137.keep K368 (by intro h; change b25 = b1 at h; omega)
            replace H341 := H341.keep K368 (by intro h; change b114 = b1 at h; omega)
            replace F339 := RdO.keep F339 K368 (fun i _ _ hi hs => by have hs : i = b1 := hs; have := ob24 i _ _ hi; omega)
            replace hOV := own_keep hOV K368 (fun i hi hs => by have hs : i = b1 := hs; have := obVb1 i hi; omega)
            replace hM := EntsMine.keep2 hM K368 (fun x hx i o s hA hs => by have hs : i = b1 := hs; exact oeb1 x hx i o s hA hs)
            replace O326 := own_keep O326 K368 (fun i hi hs => by have hs : i = b1 := hs; have := ob327 i hi; omega)
            clear K368
            refine Ops.regs 1 [(2, (ptr b1)), (3, (i64 1)), (5, (ptr b25)), (7, (ptr b114))] (j := 3) (by kernel_rfl) (by kernel_rfl) ?_
            refine Ops.done (by kernel_rfl) ?_
            refine q_ret (by kernel_rfl) ?_
            refine ⟨(Value.tuple #[(agg [(i64 0), (i64 0), (i64 0), (i64 0), (i64 0), (i64 0), (i64 0), (i64 0), (Value.bool false), (Value.slice none 0 0), (Value.slice none 0 0)]), (i64 1)]), retv_cell_tmp rfl rfl (H367.loads (by kernel_rfl)) rfl, ?_⟩
            exact ⟨(⟨0, 0, 0, 0, 0, 0, 0, 0, false, [], []⟩ : MsgP), none, none, 0, 0, 1, rfl, K134, ⟨by (try simp only); omega, by (try simp only); omega, by (try simp only); omega, by (try simp only); omega, by (try simp only); omega, by (try simp only); omega, by (try simp only); omega, by (try simp only); omega, fun x hx => by cases hx⟩, by unfold unmsgB; rw [if_neg (by omega), if_neg (by rw [hmd]; omega), if_neg (fun q => by unfold Rdr.mfit at q; simp only [Rdr.mint, Rdr.nth] at q; omega)]; rfl, (OwnT.nil _ _ _ _ _), (EntsMine.nil _ _ _), (World.ownsRow_nil _ _ _ _), EntsApart.nil, (fun y hy => by cases hy), (fun _ h => by cases h)⟩
          · rw [h363]
            have p369 : t361 = true := (bnot_false h363)
            try rw [p369]
            have hin370 := ht362.1 (bnot_false h363)
            refine Ops.regs 2 [(2, (ptr b1)), (3, (i64 0)), (5, (ptr b25)), (7, (ptr b114)), (10, (Value.func (Fn.func 77) ⟨[]⟩ ⟨[]⟩)), (77, (Value.bool false)), (78, (Value.func (Fn.func 77) ⟨[]⟩ ⟨[]⟩)), (79, (Value.pointer (some ⟨b25, 2, none⟩)))] (j := 15) (by kernel_rfl) (by kernel_rfl) ?_
            refine Ops.go (v := (i64 (((((((⟨bs, 0, 0⟩ : Rdr).int).2).int).2).int).1))) (by kernel_rfl) (Runs.load (t := 2) (a := ⟨b25, 2, none⟩) (by kernel_rfl) (H137.loads (by kernel_rfl))) (d := (some 80)) (by kernel_rfl) rfl ?_
            refine Ops.call (by kernel_rfl) (d := (some 81)) (by kernel_rfl) (in_calls _ (((((((⟨bs, 0, 0⟩ : Rdr).int).2).int).2).int).1) 0 4) ?_
            rintro _ _ ⟨t371, rfl, ht372, rfl⟩
            refine ⟨_, _, rfl, rfl, ?_⟩
            refine Ops.regs 3 [(2, (ptr b1)), (3, (i64 0)), (5, (ptr b25)), (7, (ptr b114)), (10, (Value.func (Fn.func 77) ⟨[]⟩ ⟨[]⟩)), (84, (Value.bool (!t371)))] (j := 20) (by kernel_rfl) (by kernel_rfl) ?_
            refine Ops.split (!t371) (fun h373 => ?_) (fun h373 => ?_)
            · rw [h373]
              have p374 : t371 = false := (bnot_true h373)
              try rw [p374]
              have hin375 : ¬ (0 ≤ ((((((⟨bs, 0, 0⟩ : Rdr).int).2).int).2).int).1 ∧ ((((((⟨bs, 0, 0⟩ : Rdr).int).2).int).2).int).1 ≤ 4) := fun q => by have q := ht372.2 q; rw [(bnot_true h373)] at q; cases q
              refine Ops.regs 6 [(2, (ptr b1)), (3, (i64 0)), (5, (ptr b25)), (7, (ptr b114)), (90, (Value.bool true))] (j := 26) (by kernel_rfl) (by kernel_rfl) ?_
              refine Ops.done (by kernel_rfl) ?_
              refine q_then (o := .tmp 90) (by kernel_rfl) rfl ?_
              refine q_seq (by kernel_rfl) ?_
              refine q_region (by kernel_rfl) ?_
              refine Ops.regs 1 [(2, (ptr b1)), (3, (i64 0)), (5, (ptr b25)), (7, (ptr b114)), (91, (agg [(i64 0), (i64 0), (i64 0), (i64 0), (i64 0), (i64 0), (i64 0), (i64 0), (Value.bool false), (Value.slice none 0 0), (Value.slice none 0 0)]))] (j := 1) (by kernel_rfl) (by kernel_rfl) ?_
              refine Ops.put (t := 49) (b := b1) (off := 0) (v := (agg [(i64 0), (i64 0), (i64 0), (i64 0), (i64 0), (i64 0), (i64 0), (i64 0), (Value.bool false), (Value.slice none 0 0), (Value.slice none 0 0)])) (ys := [(i64 0), (i64 0), (i64 0), (i64 0), (i64 0), (i64 0), (i64 0), (i64 0), (Value.bool false), (Value.slice none 0 0), (Value.slice none 0 0)]) (by kernel_rfl) (by kernel_rfl) H135 (by kernel_rfl) (d := none) (by kernel_rfl) rfl (fun w376 H377 K378 => ?_)
              clear H135
              replace K134 := K134.trans K378 (U := none_) (fun i h1 h2 => h2) (fun i h1 h2 => by have h2 : i = b1 := h2; exfalso; omega)
              replace H321 := H321.keep K378 (by intro h; change b13 = b1 at h; omega)
              replace H137 := H137.keep K378 (by intro h; change b25 = b1 at h; omega)
              replace H341 := H341.keep K378 (by intro h; change b114 = b1 at h; omega)
              replace F339 := RdO.keep F339 K378 (fun i _ _ hi hs => by have hs : i = b1 := hs; have := ob24 i _ _ hi; omega)
              replace hOV := own_keep hOV K378 (fun i hi hs => by have hs : i = b1 := hs; have := obVb1 i hi; omega)
              replace hM := EntsMine.keep2 hM K378 (fun x hx i o s hA hs => by have hs : i = b1 := hs; exact oeb1 x hx i o s hA hs)
              replace O326 := own_keep O326 K378 (fun i hi hs => by have hs : i = b1 := hs; have := ob327 i hi; omega)
              clear K378
              refine Ops.regs 1 [(2, (ptr b1)), (3, (i64 1)), (5, (ptr b25)), (7, (ptr b114))] (j := 3) (by kernel_rfl) (by kernel_rfl) ?_
              refine Ops.done (by kernel_rfl) ?_
              refine q_ret (by kernel_rfl) ?_
              refine ⟨(Value.tuple #[(agg [(i64 0), (i64 0), (i64 0), (i64 0), (i64 0), (i64 0), (i64 0), (i64 0), (Value.bool false), (Value.slice none 0 0), (Value.slice none 0 0)]), (i64 1)]), retv_cell_tmp rfl rfl (H377.loads (by kernel_rfl)) rfl, ?_⟩
              exact ⟨(⟨0, 0, 0, 0, 0, 0, 0, 0, false, [], []⟩ : MsgP), none, none, 0, 0, 1, rfl, K134, ⟨by (try simp only); omega, by (try simp only); omega, by (try simp only); omega, by (try simp only); omega, by (try simp only); omega, by (try simp only); omega, by (try simp only); omega, by (try simp only); omega, fun x hx => by cases hx⟩, by unfold unmsgB; rw [if_neg (by omega), if_neg (by rw [hmd]; omega), if_neg (fun q => by unfold Rdr.mfit at q; simp only [Rdr.mint, Rdr.nth] at q; omega)]; rfl, (OwnT.nil _ _ _ _ _), (EntsMine.nil _ _ _), (World.ownsRow_nil _ _ _ _), EntsApart.nil, (fun y hy => by cases hy), (fun _ h => by cases h)⟩
            · rw [h373]
              have p379 : t371 = true := (bnot_false h373)
              try rw [p379]
              have hin380 := ht372.1 (bnot_false h373)
              refine Ops.regs 2 [(2, (ptr b1)), (3, (i64 0)), (5, (ptr b25)), (7, (ptr b114)), (84, (Value.bool false)), (85, (Value.func (Fn.func 77) ⟨[]⟩ ⟨[]⟩)), (86, (Value.pointer (some ⟨b25, 3, none⟩)))] (j := 22) (by kernel_rfl) (by kernel_rfl) ?_
              refine Ops.go (v := (i64 (((((((((⟨bs, 0, 0⟩ : Rdr).int).2).int).2).int).2).int).1))) (by kernel_rfl) (Runs.load (t := 2) (a := ⟨b25, 3, none⟩) (by kernel_rfl) (H137.loads (by kernel_rfl))) (d := (some 87)) (by kernel_rfl) rfl ?_
              refine Ops.call (by kernel_rfl) (d := (some 88)) (by kernel_rfl) (in_calls _ (((((((((⟨bs, 0, 0⟩ : Rdr).int).2).int).2).int).2).int).1) 0 4) ?_
              rintro _ _ ⟨t381, rfl, ht382, rfl⟩
              refine ⟨_, _, rfl, rfl, ?_⟩
              refine Ops.regs 2 [(2, (ptr b1)), (3, (i64 0)), (5, (ptr b25)), (7, (ptr b114)), (90, (Value.bool (!t381)))] (j := 26) (by kernel_rfl) (by kernel_rfl) ?_
              refine Ops.done (by kernel_rfl) ?_
              refine q_cond (o := .tmp 90) (b := (!t381)) (by kernel_rfl) rfl (fun h383 => ?_) (fun h383 => ?_)
              · rw [h383]
                have p384 : t381 = false := (bnot_true h383)
                try rw [p384]
                have hin385 : ¬ (0 ≤ ((((((((⟨bs, 0, 0⟩ : Rdr).int).2).int).2).int).2).int).1 ∧ ((((((((⟨bs, 0, 0⟩ : Rdr).int).2).int).2).int).2).int).1 ≤ 4) := fun q => by have q := ht382.2 q; rw [(bnot_true h383)] at q; cases q
                refine q_seq (by kernel_rfl) ?_
                refine q_region (by kernel_rfl) ?_
                refine Ops.regs 1 [(2, (ptr b1)), (3, (i64 0)), (5, (ptr b25)), (7, (ptr b114)), (91, (agg [(i64 0), (i64 0), (i64 0), (i64 0), (i64 0), (i64 0), (i64 0), (i64 0), (Value.bool false), (Value.slice none 0 0), (Value.slice none 0 0)]))] (j := 1) (by kernel_rfl) (by kernel_rfl) ?_
                refine Ops.put (t := 49) (b := b1) (off := 0) (v := (agg [(i64 0), (i64 0), (i64 0), (i64 0), (i64 0), (i64 0), (i64 0), (i64 0), (Value.bool false), (Value.slice none 0 0), (Value.slice none 0 0)])) (ys := [(i64 0), (i64 0), (i64 0), (i64 0), (i64 0), (i64 0), (i64 0), (i64 0), (Value.bool false), (Value.slice none 0 0), (Value.slice none 0 0)]) (by kernel_rfl) (by kernel_rfl) H135 (by kernel_rfl) (d := none) (by kernel_rfl) rfl (fun w386 H387 K388 => ?_)
                clear H135
                replace K134 := K134.trans K388 (U := none_) (fun i h1 h2 => h2) (fun i h1 h2 => by have h2 : i = b1 := h2; exfalso; omega)
                replace H321 := H321.keep K388 (by intro h; change b13 = b1 at h; omega)
                replace H137 := H137.keep K388 (by intro h; change b25 = b1 at h; omega)
                replace H341 := H341.keep K388 (by intro h; change b114 = b1 at h; omega)
                replace F339 := RdO.keep F339 K388 (fun i _ _ hi hs => by have hs : i = b1 := hs; have := ob24 i _ _ hi; omega)
                replace hOV := own_keep hOV K388 (fun i hi hs => by have hs : i = b1 := hs; have := obVb1 i hi; omega)
                replace hM := EntsMine.keep2 hM K388 (fun x hx i o s hA hs => by have hs : i = b1 := hs; exact oeb1 x hx i o s hA hs)
                replace O326 := own_keep O326 K388 (fun i hi hs => by have hs : i = b1 := hs; have := ob327 i hi; omega)
                clear K388
                refine Ops.regs 1 [(2, (ptr b1)), (3, (i64 1)), (5, (ptr b25)), (7, (ptr b114))] (j := 3) (by kernel_rfl) (by kernel_rfl) ?_
                refine Ops.done (by kernel_rfl) ?_
                refine q_ret (by kernel_rfl) ?_
                refine ⟨(Value.tuple #[(agg [(i64 0), (i64 0), (i64 0), (i64 0), (i64 0), (i64 0), (i64 0), (i64 0), (Value.bool false), (Value.slice none 0 0), (Value.slice none 0 0)]), (i64 1)]), retv_cell_tmp rfl rfl (H387.loads (by kernel_rfl)) rfl, ?_⟩
                exact ⟨(⟨0, 0, 0, 0, 0, 0, 0, 0, false, [], []⟩ : MsgP), none, none, 0, 0, 1, rfl, K134, ⟨by (try simp only); omega, by (try simp only); omega, by (try simp only); omega, by (try simp only); omega, by (try simp only); omega, by (try simp only); omega, by (try simp only); omega, by (try simp only); omega, fun x hx => by cases hx⟩, by unfold unmsgB; rw [if_neg (by omega), if_neg (by rw [hmd]; omega), if_neg (fun q => by unfold Rdr.mfit at q; simp only [Rdr.mint, Rdr.nth] at q; omega)]; rfl, (OwnT.nil _ _ _ _ _), (EntsMine.nil _ _ _), (World.ownsRow_nil _ _ _ _), EntsApart.nil, (fun y hy => by cases hy), (fun _ h => by cases h)⟩
              · rw [h383]
                have p389 : t381 = true := (bnot_false h383)
                try rw [p389]
                have hin390 := ht382.1 (bnot_false h383)
                refine q_skip (by kernel_rfl) ?_
                refine q_seq (by kernel_rfl) ?_
                refine q_draw (fun wz => Keeps (fun i => i = b114) w343 wz) 16 (by kernel_rfl) (by kernel_rfl) (by kernel_rfl) (fun w391 K392 _ _ => ⟨(K392.mono (fun _ _ h => h.elim)), ?_⟩)
                replace K134 := K134.trans K392 (U := none_) (fun i h1 h2 => h2) (fun i h1 h2 => by exact h2)
                replace H135 := H135.keep K392 (fun h => h)
                replace H321 := H321.keep K392 (fun h => h)
                replace H137 := H137.keep K392 (fun h => h)
                replace H341 := H341.keep K392 (fun h => h)
                replace F339 := RdO.keep0 F339 K392
                replace hOV := own_keep0 hOV K392
                replace hM := hM.keep2 K392 (fun _ _ _ _ _ _ h => h)
                replace O326 := own_keep0 O326 K392
                refine Dr.strong (S' := (fun wz => Keeps (fun i => i = b114) w391 wz)) ((Keeps.refl w391).mono (fun _ _ h => h.elim)) (fun wz hx => K392.trans hx (fun i _ h => h.elim) (fun _ _ h => h)) ?_
                clear K392
                refine Dr.takes (fuel' := 15) (is' := [0]) [0] [(2, (ptr b1)), (3, (i64 0)), (5, (ptr b25)), (7, (ptr b114)), (92, (ptr b25))] (by kernel_rfl) rfl (by kernel_rfl) ?_
                refine Dr.take (i := 1) (v := (i64 (((⟨bs, 0, 0⟩ : Rdr).int).1))) (by kernel_rfl) (by kernel_rfl) (fun wz hS => Runs.load (t := 2) (a := ⟨b25, 0, none⟩) (by kernel_rfl) ((H137.keep hS (by intro h; change b25 = b114 at h; omega)).loads (by kernel_rfl))) (d := (some 93)) (by kernel_rfl) rfl ?_
                refine Dr.takes (fuel' := 13) (is' := [2, 1, 0]) [2] [(2, (ptr b1)), (3, (i64 0)), (5, (ptr b25)), (7, (ptr b114)), (93, (i64 (((⟨bs, 0, 0⟩ : Rdr).int).1))), (94, (Value.pointer (some ⟨b25, 1, none⟩)))] (by kernel_rfl) rfl (by kernel_rfl) ?_
                refine Dr.take (i := 3) (v := (i64 (((((⟨bs, 0, 0⟩ : Rdr).int).2).int).1))) (by kernel_rfl) (by kernel_rfl) (fun wz hS => Runs.load (t := 2) (a := ⟨b25, 1, none⟩) (by kernel_rfl) ((H137.keep hS (by intro h; change b25 = b114 at h; omega)).loads (by kernel_rfl))) (d := (some 95)) (by kernel_rfl) rfl ?_
                refine Dr.takes (fuel' := 11) (is' := [4, 3, 2, 1, 0]) [4] [(2, (ptr b1)), (3, (i64 0)), (5, (ptr b25)), (7, (ptr b114)), (93, (i64 (((⟨bs, 0, 0⟩ : Rdr).int).1))), (95, (i64 (((((⟨bs, 0, 0⟩ : Rdr).int).2).int).1))), (96, (Value.pointer (some ⟨b25, 2, none⟩)))] (by kernel_rfl) rfl (by kernel_rfl) ?_
                refine Dr.take (i := 5) (v := (i64 (((((((⟨bs, 0, 0⟩ : Rdr).int).2).int).2).int).1))) (by kernel_rfl) (by kernel_rfl) (fun wz hS => Runs.load (t := 2) (a := ⟨b25, 2, none⟩) (by kernel_rfl) ((H137.keep hS (by intro h; change b25 = b114 at h; omega)).loads (by kernel_rfl))) (d := (some 97)) (by kernel_rfl) rfl ?_
                refine Dr.takes (fuel' := 9) (is' := [6, 5, 4, 3, 2, 1, 0]) [6] [(2, (ptr b1)), (3, (i64 0)), (7, (ptr b114)), (93, (i64 (((⟨bs, 0, 0⟩ : Rdr).int).1))), (95, (i64 (((((⟨bs, 0, 0⟩ : Rdr).int).2).int).1))), (97, (i64 (((((((⟨bs, 0, 0⟩ : Rdr).int).2).int).2).int).1))), (98, (Value.pointer (some ⟨b25, 3, none⟩)))] (by kernel_rfl) rfl (by kernel_rfl) ?_
                refine Dr.take (i := 7) (v := (i64 (((((((((⟨bs, 0, 0⟩ : Rdr).int).2).int).2).int).2).int).1))) (by kernel_rfl) (by kernel_rfl) (fun wz hS => Runs.load (t := 2) (a := ⟨b25, 3, none⟩) (by kernel_rfl) ((H137.keep hS (by intro h; change b25 = b114 at h; omega)).loads (by kernel_rfl))) (d := (some 99)) (by kernel_rfl) rfl ?_
                refine Dr.takes (fuel' := 7) (is' := [8, 7, 6, 5, 4, 3, 2, 1, 0]) [8] [(2, (ptr b1)), (3, (i64 0)), (7, (ptr b114)), (93, (i64 (((⟨bs, 0, 0⟩ : Rdr).int).1))), (95, (i64 (((((⟨bs, 0, 0⟩ : Rdr).int).2).int).1))), (97, (i64 (((((((⟨bs, 0, 0⟩ : Rdr).int).2).int).2).int).1))), (99, (i64 (((((((((⟨bs, 0, 0⟩ : Rdr).int).2).int).2).int).2).int).1))), (100, (ptr b114))] (by kernel_rfl) rfl (by kernel_rfl) ?_
                refine Dr.put (i := 9) (t := 3) (b := b114) (off := 0) (v := (i64 (((⟨bs, 0, 0⟩ : Rdr).int).1))) (ys := [(i64 (((⟨bs, 0, 0⟩ : Rdr).int).1)), (i64 0), (i64 0), (i64 0), (i64 (((((((((((⟨bs, 0, 0⟩ : Rdr).int).2).int).2).int).2).int).2).int).1)), (i64 (((((((((((((⟨bs, 0, 0⟩ : Rdr).int).2).int).2).int).2).int).2).int).2).int).1)), (i64 (((((((((((((((⟨bs, 0, 0⟩ : Rdr).int).2).int).2).int).2).int).2).int).2).int).2).int).1)), (i64 (((((((((((((((((⟨bs, 0, 0⟩ : Rdr).int).2).int).2).int).2).int).2).int).2).int).2).int).2).int).1)), (Value.bool (((((((((((((((((((⟨bs, 0, 0⟩ : Rdr).int).2).int).2).int).2).int).2).int).2).int).2).int).2).int).2).bool_).1)), (Value.slice VA l.length vc), (Value.slice A336 (((R.bytes).1).length) c337)]) (by kernel_rfl) (by kernel_rfl) (by kernel_rfl) H341 (by kernel_rfl) (d := none) (by kernel_rfl) rfl (fun w393 H394 K395 => ?_)
                clear H341
                replace K134 := K134.trans K395 (U := none_) (fun i h1 h2 => h2) (fun i h1 h2 => by have h2 : i = b114 := h2; exfalso; omega)
                replace H135 := H135.keep K395 (by intro h; change b1 = b114 at h; omega)
                replace H321 := H321.keep K395 (by intro h; change b13 = b114 at h; omega)
                replace H137 := H137.keep K395 (by intro h; change b25 = b114 at h; omega)
                replace F339 := RdO.keep F339 K395 (fun i _ _ hi hs => by have hs : i = b114 := hs; have := ob121 i _ _ hi; omega)
                replace hOV := own_keep hOV K395 (fun i hi hs => by have hs : i = b114 := hs; have := obVb114 i hi; omega)
                replace hM := EntsMine.keep2 hM K395 (fun x hx i o s hA hs => by have hs : i = b114 := hs; exact oeb114 x hx i o s hA hs)
                replace O326 := own_keep O326 K395 (fun i hi hs => by have hs : i = b114 := hs; have := ob330 i hi; omega)
                refine ⟨K395, ?_⟩
                refine Dr.strong (S' := (fun wz => Keeps (fun i => i = b114) w393 wz)) ((Keeps.refl w393).mono (fun _ _ h => h.elim)) (fun wz hx => K395.trans hx (fun i _ h => by have h : i = b114 := h; show i = b114; omega) (fun _ _ h => h)) ?_
                clear K395
                refine Dr.takes (fuel' := 5) (is' := [10, 9, 8, 7, 6, 5, 4, 3, 2, 1, 0]) [10] [(2, (ptr b1)), (3, (i64 0)), (7, (ptr b114)), (95, (i64 (((((⟨bs, 0, 0⟩ : Rdr).int).2).int).1))), (97, (i64 (((((((⟨bs, 0, 0⟩ : Rdr).int).2).int).2).int).1))), (99, (i64 (((((((((⟨bs, 0, 0⟩ : Rdr).int).2).int).2).int).2).int).1))), (101, (Value.pointer (some ⟨b114, 1, none⟩)))] (by kernel_rfl) rfl (by kernel_rfl) ?_
                refine Dr.put (i := 11) (t := 3) (b := b114) (off := 1) (v := (i64 (((((⟨bs, 0, 0⟩ : Rdr).int).2).int).1))) (ys := [(i64 (((⟨bs, 0, 0⟩ : Rdr).int).1)), (i64 (((((⟨bs, 0, 0⟩ : Rdr).int).2).int).1)), (i64 0), (i64 0), (i64 (((((((((((⟨bs, 0, 0⟩ : Rdr).int).2).int).2).int).2).int).2).int).1)), (i64 (((((((((((((⟨bs, 0, 0⟩ : Rdr).int).2).int).2).int).2).int).2).int).2).int).1)), (i64 (((((((((((((((⟨bs, 0, 0⟩ : Rdr).int).2).int).2).int).2).int).2).int).2).int).2).int).1)), (i64 (((((((((((((((((⟨bs, 0, 0⟩ : Rdr).int).2).int).2).int).2).int).2).int).2).int).2).int).2).int).1)), (Value.bool (((((((((((((((((((⟨bs, 0, 0⟩ : Rdr).int).2).int).2).int).2).int).2).int).2).int).2).int).2).int).2).bool_).1)), (Value.slice VA l.length vc), (Value.slice A336 (((R.bytes).1).length) c337)]) (by kernel_rfl) (by kernel_rfl) (by kernel_rfl) H394 (by kernel_rfl) (d := none) (by kernel_rfl) rfl (fun w396 H397 K398 => ?_)
                clear H394
                replace K134 := K134.trans K398 (U := none_) (fun i h1 h2 => h2) (fun i h1 h2 => by have h2 : i = b114 := h2; exfalso; omega)
                replace H135 := H135.keep K398 (by intro h; change b1 = b114 at h; omega)
                replace H321 := H321.keep K398 (by intro h; change b13 = b114 at h; omega)
                replace H137 := H137.keep K398 (by intro h; change b25 = b114 at h; omega)
                replace F339 := RdO.keep F339 K398 (fun i _ _ hi hs => by have hs : i = b114 := hs; have := ob121 i _ _ hi; omega)
                replace hOV := own_keep hOV K398 (fun i hi hs => by have hs : i = b114 := hs; have := obVb114 i hi; omega)
                replace hM := EntsMine.keep2 hM K398 (fun x hx i o s hA hs => by have hs : i = b114 := hs; exact oeb114 x hx i o s hA hs)
                replace O326 := own_keep O326 K398 (fun i hi hs => by have hs : i = b114 := hs; have := ob330 i hi; omega)
                refine ⟨K398, ?_⟩
                refine Dr.strong (S' := (fun wz => Keeps (fun i => i = b114) w396 wz)) ((Keeps.refl w396).mono (fun _ _ h => h.elim)) (fun wz hx => K398.trans hx (fun i _ h => by have h : i = b114 := h; show i = b114; omega) (fun _ _ h => h)) ?_
                clear K398
                refine Dr.takes (fuel' := 3) (is' := [12, 11, 10, 9, 8, 7, 6, 5, 4, 3, 2, 1, 0]) [12] [(2, (ptr b1)), (3, (i64 0)), (7, (ptr b114)), (97, (i64 (((((((⟨bs, 0, 0⟩ : Rdr).int).2).int).2).int).1))), (99, (i64 (((((((((⟨bs, 0, 0⟩ : Rdr).int).2).int).2).int).2).int).1))), (102, (Value.pointer (some ⟨b114, 2, none⟩)))] (by kernel_rfl) rfl (by kernel_rfl) ?_
                refine Dr.put (i := 13) (t := 3) (b := b114) (off := 2) (v := (i64 (((((((⟨bs, 0, 0⟩ : Rdr).int).2).int).2).int).1))) (ys := [(i64 (((⟨bs, 0, 0⟩ : Rdr).int).1)), (i64 (((((⟨bs, 0, 0⟩ : Rdr).int).2).int).1)), (i64 (((((((⟨bs, 0, 0⟩ : Rdr).int).2).int).2).int).1)), (i64 0), (i64 (((((((((((⟨bs, 0, 0⟩ : Rdr).int).2).int).2).int).2).int).2).int).1)), (i64 (((((((((((((⟨bs, 0, 0⟩ : Rdr).int).2).int).2).int).2).int).2).int).2).int).1)), (i64 (((((((((((((((⟨bs, 0, 0⟩ : Rdr).int).2).int).2).int).2).int).2).int).2).int).2).int).1)), (i64 (((((((((((((((((⟨bs, 0, 0⟩ : Rdr).int).2).int).2).int).2).int).2).int).2).int).2).int).2).int).1)), (Value.bool (((((((((((((((((((⟨bs, 0, 0⟩ : Rdr).int).2).int).2).int).2).int).2).int).2).int).2).int).2).int).2).bool_).1)), (Value.slice VA l.length vc), (Value.slice A336 (((R.bytes).1).length) c337)]) (by kernel_rfl) (by kernel_rfl) (by kernel_rfl) H397 (by kernel_rfl) (d := none) (by kernel_rfl) rfl (fun w399 H400 K401 => ?_)
                clear H397
                replace K134 := K134.trans K401 (U := none_) (fun i h1 h2 => h2) (fun i h1 h2 => by have h2 : i = b114 := h2; exfalso; omega)
                replace H135 := H135.keep K401 (by intro h; change b1 = b114 at h; omega)
                replace H321 := H321.keep K401 (by intro h; change b13 = b114 at h; omega)
                replace H137 := H137.keep K401 (by intro h; change b25 = b114 at h; omega)
                replace F339 := RdO.keep F339 K401 (fun i _ _ hi hs => by have hs : i = b114 := hs; have := ob121 i _ _ hi; omega)
                replace hOV := own_keep hOV K401 (fun i hi hs => by have hs : i = b114 := hs; have := obVb114 i hi; omega)
                replace hM := EntsMine.keep2 hM K401 (fun x hx i o s hA hs => by have hs : i = b114 := hs; exact oeb114 x hx i o s hA hs)
                replace O326 := own_keep O326 K401 (fun i hi hs => by have hs : i = b114 := hs; have := ob330 i hi; omega)
                refine ⟨K401, ?_⟩
                refine Dr.strong (S' := (fun wz => Keeps (fun i => i = b114) w399 wz)) ((Keeps.refl w399).mono (fun _ _ h => h.elim)) (fun wz hx => K401.trans hx (fun i _ h => by have h : i = b114 := h; show i = b114; omega) (fun _ _ h => h)) ?_
                clear K401
                refine Dr.takes (fuel' := 1) (is' := [14, 13, 12, 11, 10, 9, 8, 7, 6, 5, 4, 3, 2, 1, 0]) [14] [(2, (ptr b1)), (3, (i64 0)), (7, (ptr b114)), (99, (i64 (((((((((⟨bs, 0, 0⟩ : Rdr).int).2).int).2).int).2).int).1))), (103, (Value.pointer (some ⟨b114, 3, none⟩)))] (by kernel_rfl) rfl (by kernel_rfl) ?_
                refine Dr.put (i := 15) (t := 3) (b := b114) (off := 3) (v := (i64 (((((((((⟨bs, 0, 0⟩ : Rdr).int).2).int).2).int).2).int).1))) (ys := [(i64 (((⟨bs, 0, 0⟩ : Rdr).int).1)), (i64 (((((⟨bs, 0, 0⟩ : Rdr).int).2).int).1)), (i64 (((((((⟨bs, 0, 0⟩ : Rdr).int).2).int).2).int).1)), (i64 (((((((((⟨bs, 0, 0⟩ : Rdr).int).2).int).2).int).2).int).1)), (i64 (((((((((((⟨bs, 0, 0⟩ : Rdr).int).2).int).2).int).2).int).2).int).1)), (i64 (((((((((((((⟨bs, 0, 0⟩ : Rdr).int).2).int).2).int).2).int).2).int).2).int).1)), (i64 (((((((((((((((⟨bs, 0, 0⟩ : Rdr).int).2).int).2).int).2).int).2).int).2).int).2).int).1)), (i64 (((((((((((((((((⟨bs, 0, 0⟩ : Rdr).int).2).int).2).int).2).int).2).int).2).int).2).int).2).int).1)), (Value.bool (((((((((((((((((((⟨bs, 0, 0⟩ : Rdr).int).2).int).2).int).2).int).2).int).2).int).2).int).2).int).2).bool_).1)), (Value.slice VA l.length vc), (Value.slice A336 (((R.bytes).1).length) c337)]) (by kernel_rfl) (by kernel_rfl) (by kernel_rfl) H400 (by kernel_rfl) (d := none) (by kernel_rfl) rfl (fun w402 H403 K404 => ?_)
                clear H400
                replace K134 := K134.trans K404 (U := none_) (fun i h1 h2 => h2) (fun i h1 h2 => by have h2 : i = b114 := h2; exfalso; omega)
                replace H135 := H135.keep K404 (by intro h; change b1 = b114 at h; omega)
                replace H321 := H321.keep K404 (by intro h; change b13 = b114 at h; omega)
                replace H137 := H137.keep K404 (by intro h; change b25 = b114 at h; omega)
                replace F339 := RdO.keep F339 K404 (fun i _ _ hi hs => by have hs : i = b114 := hs; have := ob121 i _ _ hi; omega)
                replace hOV := own_keep hOV K404 (fun i hi hs => by have hs : i = b114 := hs; have := obVb114 i hi; omega)
                replace hM := EntsMine.keep2 hM K404 (fun x hx i o s hA hs => by have hs : i = b114 := hs; exact oeb114 x hx i o s hA hs)
                replace O326 := own_keep O326 K404 (fun i hi hs => by have hs : i = b114 := hs; have := ob330 i hi; omega)
                refine ⟨K404, ?_⟩
                refine Dr.strong (S' := (fun wz => Keeps (fun i => i = b114) w402 wz)) ((Keeps.refl w402).mono (fun _ _ h => h.elim)) (fun wz hx => K404.trans hx (fun i _ h => by have h : i = b114 := h; show i = b114; omega) (fun _ _ h => h)) ?_
                clear K404
                refine Dr.done (by kernel_rfl) ?_
                refine q_seq (by kernel_rfl) ?_
                refine q_region (by kernel_rfl) ?_
                refine Ops.go (v := (agg [(i64 (((⟨bs, 0, 0⟩ : Rdr).int).1)), (i64 (((((⟨bs, 0, 0⟩ : Rdr).int).2).int).1)), (i64 (((((((⟨bs, 0, 0⟩ : Rdr).int).2).int).2).int).1)), (i64 (((((((((⟨bs, 0, 0⟩ : Rdr).int).2).int).2).int).2).int).1)), (i64 (((((((((((⟨bs, 0, 0⟩ : Rdr).int).2).int).2).int).2).int).2).int).1)), (i64 (((((((((((((⟨bs, 0, 0⟩ : Rdr).int).2).int).2).int).2).int).2).int).2).int).1)), (i64 (((((((((((((((⟨bs, 0, 0⟩ : Rdr).int).2).int).2).int).2).int).2).int).2).int).2).int).1)), (i64 (((((((((((((((((⟨bs, 0, 0⟩ : Rdr).int).2).int).2).int).2).int).2).int).2).int).2).int).2).int).1)), (Value.bool (((((((((((((((((((⟨bs, 0, 0⟩ : Rdr).int).2).int).2).int).2).int).2).int).2).int).2).int).2).int).2).bool_).1)), (Value.slice VA l.length vc), (Value.slice A336 (((R.bytes).1).length) c337)])) (by kernel_rfl) (Runs.load (t := 49) (a := ⟨b114, 0, none⟩) (by kernel_rfl) (H403.loads (by kernel_rfl))) (d := (some 104)) (by kernel_rfl) rfl ?_
                refine Ops.put (t := 49) (b := b1) (off := 0) (v := (agg [(i64 (((⟨bs, 0, 0⟩ : Rdr).int).1)), (i64 (((((⟨bs, 0, 0⟩ : Rdr).int).2).int).1)), (i64 (((((((⟨bs, 0, 0⟩ : Rdr).int).2).int).2).int).1)), (i64 (((((((((⟨bs, 0, 0⟩ : Rdr).int).2).int).2).int).2).int).1)), (i64 (((((((((((⟨bs, 0, 0⟩ : Rdr).int).2).int).2).int).2).int).2).int).1)), (i64 (((((((((((((⟨bs, 0, 0⟩ : Rdr).int).2).int).2).int).2).int).2).int).2).int).1)), (i64 (((((((((((((((⟨bs, 0, 0⟩ : Rdr).int).2).int).2).int).2).int).2).int).2).int).2).int).1)), (i64 (((((((((((((((((⟨bs, 0, 0⟩ : Rdr).int).2).int).2).int).2).int).2).int).2).int).2).int).2).int).1)), (Value.bool (((((((((((((((((((⟨bs, 0, 0⟩ : Rdr).int).2).int).2).int).2).int).2).int).2).int).2).int).2).int).2).bool_).1)), (Value.slice VA l.length vc), (Value.slice A336 (((R.bytes).1).length) c337)])) (ys := [(i64 (((⟨bs, 0, 0⟩ : Rdr).int).1)), (i64 (((((⟨bs, 0, 0⟩ : Rdr).int).2).int).1)), (i64 (((((((⟨bs, 0, 0⟩ : Rdr).int).2).int).2).int).1)), (i64 (((((((((⟨bs, 0, 0⟩ : Rdr).int).2).int).2).int).2).int).1)), (i64 (((((((((((⟨bs, 0, 0⟩ : Rdr).int).2).int).2).int).2).int).2).int).1)), (i64 (((((((((((((⟨bs, 0, 0⟩ : Rdr).int).2).int).2).int).2).int).2).int).2).int).1)), (i64 (((((((((((((((⟨bs, 0, 0⟩ : Rdr).int).2).int).2).int).2).int).2).int).2).int).2).int).1)), (i64 (((((((((((((((((⟨bs, 0, 0⟩ : Rdr).int).2).int).2).int).2).int).2).int).2).int).2).int).2).int).1)), (Value.bool (((((((((((((((((((⟨bs, 0, 0⟩ : Rdr).int).2).int).2).int).2).int).2).int).2).int).2).int).2).int).2).bool_).1)), (Value.slice VA l.length vc), (Value.slice A336 (((R.bytes).1).length) c337)]) (by kernel_rfl) (by kernel_rfl) H135 (by kernel_rfl) (d := none) (by kernel_rfl) rfl (fun w405 H406 K407 => ?_)
                clear H135
                replace K134 := K134.trans K407 (U := none_) (fun i h1 h2 => h2) (fun i h1 h2 => by have h2 : i = b1 := h2; exfalso; omega)
                replace H321 := H321.keep K407 (by intro h; change b13 = b1 at h; omega)
                replace H137 := H137.keep K407 (by intro h; change b25 = b1 at h; omega)
                replace H403 := H403.keep K407 (by intro h; change b114 = b1 at h; omega)
                replace F339 := RdO.keep F339 K407 (fun i _ _ hi hs => by have hs : i = b1 := hs; have := ob24 i _ _ hi; omega)
                replace hOV := own_keep hOV K407 (fun i hi hs => by have hs : i = b1 := hs; have := obVb1 i hi; omega)
                replace hM := EntsMine.keep2 hM K407 (fun x hx i o s hA hs => by have hs : i = b1 := hs; exact oeb1 x hx i o s hA hs)
                replace O326 := own_keep O326 K407 (fun i hi hs => by have hs : i = b1 := hs; have := ob327 i hi; omega)
                clear K407
                refine Ops.regs 1 [(2, (ptr b1)), (3, (i64 0))] (j := 3) (by kernel_rfl) (by kernel_rfl) ?_
                refine Ops.done (by kernel_rfl) ?_
                refine q_ret (by kernel_rfl) ?_
                refine ⟨(Value.tuple #[(agg [(i64 (((⟨bs, 0, 0⟩ : Rdr).int).1)), (i64 (((((⟨bs, 0, 0⟩ : Rdr).int).2).int).1)), (i64 (((((((⟨bs, 0, 0⟩ : Rdr).int).2).int).2).int).1)), (i64 (((((((((⟨bs, 0, 0⟩ : Rdr).int).2).int).2).int).2).int).1)), (i64 (((((((((((⟨bs, 0, 0⟩ : Rdr).int).2).int).2).int).2).int).2).int).1)), (i64 (((((((((((((⟨bs, 0, 0⟩ : Rdr).int).2).int).2).int).2).int).2).int).2).int).1)), (i64 (((((((((((((((⟨bs, 0, 0⟩ : Rdr).int).2).int).2).int).2).int).2).int).2).int).2).int).1)), (i64 (((((((((((((((((⟨bs, 0, 0⟩ : Rdr).int).2).int).2).int).2).int).2).int).2).int).2).int).2).int).1)), (Value.bool (((((((((((((((((((⟨bs, 0, 0⟩ : Rdr).int).2).int).2).int).2).int).2).int).2).int).2).int).2).int).2).bool_).1)), (Value.slice VA l.length vc), (Value.slice A336 (((R.bytes).1).length) c337)]), (i64 0)]), retv_cell_tmp rfl rfl (H406.loads (by kernel_rfl)) rfl, ?_⟩
                exact ⟨(⟨((⟨bs, 0, 0⟩ : Rdr).int).1, ((((⟨bs, 0, 0⟩ : Rdr).int).2).int).1, ((((((⟨bs, 0, 0⟩ : Rdr).int).2).int).2).int).1, ((((((((⟨bs, 0, 0⟩ : Rdr).int).2).int).2).int).2).int).1, ((((((((((⟨bs, 0, 0⟩ : Rdr).int).2).int).2).int).2).int).2).int).1, ((((((((((((⟨bs, 0, 0⟩ : Rdr).int).2).int).2).int).2).int).2).int).2).int).1, ((((((((((((((⟨bs, 0, 0⟩ : Rdr).int).2).int).2).int).2).int).2).int).2).int).2).int).1, ((((((((((((((((⟨bs, 0, 0⟩ : Rdr).int).2).int).2).int).2).int).2).int).2).int).2).int).2).int).1, (((((((((((((((((((⟨bs, 0, 0⟩ : Rdr).int).2).int).2).int).2).int).2).int).2).int).2).int).2).int).2).bool_).1), l, (R.bytes).1⟩ : MsgP), VA, A336, vc, c337, 0, rfl, K134, ⟨by (try simp only); omega, by (try simp only); omega, by (try simp only); omega, by (try simp only); omega, by (try simp only); omega, by (try simp only); omega, by (try simp only); omega, by (try simp only); omega, hlo⟩, by unfold unmsgB; rw [if_neg (by omega), if_neg (by rw [hmd]; omega), if_pos (by unfold Rdr.mfit; simp only [Rdr.mint, Rdr.nth]; omega), hme, hmd]; rfl, hOV, hM, O326, hpw, oo335, oo333⟩

theorem Unmsg_calls (w : World) (B : Option Addr) (bc : Nat) (bs : List UInt8) (hB : RdB w (.slice B bs.length bc) bs) (hbl : bs.length ≤ 140737488351232) : Calls Try.prog 51 ⟨[(Value.slice B bs.length bc)]⟩ w (fun e w' => ∃ (m : MsgP) (E D : Option Addr) (ec dc : Nat) (er : Int), e = .returned (.tuple #[agg [i64 m.kind, i64 m.group, i64 m.frm, i64 m.to, i64 m.term, i64 m.index, i64 m.logTerm, i64 m.commit, .bool m.ok, .slice E m.entries.length ec, .slice D m.data.length dc], i64 er]) ∧ Keeps none_ w w' ∧ m.Ok ∧ (m.core, er) = unmsgB bs ∧ RdE w' (.slice E m.entries.length ec) m.entries ∧ EntsIn w' m.entries ∧ RdB w' (.slice D m.data.length dc) m.data) :=
  (Unmsg_own w B bc bs hB hbl).mono fun e w' ⟨m, E, D, ec, dc, er, h1, h2, h3, h4, h5, h6, h7, _⟩ => ⟨m, E, D, ec, dc, er, h1, h2, h3, h4, OwnT.rd h5, EntsMine.ins h6, OwnB.rd h7⟩
end Go.Proofs.Ytnepjfnkaigakaa
