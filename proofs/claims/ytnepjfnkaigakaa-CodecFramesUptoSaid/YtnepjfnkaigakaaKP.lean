/- messages are read (the reference's) -/
import Derived.Test.YtnepjfnkaigakaaProg
import Derived.Test.YtnepjfnkaigakaaKI
set_option linter.unusedVariables false
namespace Go.Proofs.Ytnepjfnkaigakaa
open Go.Q Go.RowKit

set_option maxHeartbeats 4000000 in
theorem RUnmsg_own (w : World) (B : Option Addr) (bc : Nat) (bs : List UInt8) (hB : RdB w (.slice B bs.length bc) bs) (hbl : bs.length ≤ 140737488351232) : Calls Try.prog 52 ⟨[(Value.slice B bs.length bc)]⟩ w (fun e w' => ∃ (m : MsgP) (E D : Option Addr) (ec dc : Nat) (er : Int), e = .returned (.tuple #[agg [i64 m.kind, i64 m.group, i64 m.frm, i64 m.to, i64 m.term, i64 m.index, i64 m.logTerm, i64 m.commit, .bool m.ok, .slice E m.entries.length ec, .slice D m.data.length dc], i64 er]) ∧ Keeps none_ w w' ∧ m.Ok ∧ (m.core, er) = unmsgB bs ∧ OwnE w' w.heap.size 97 (.slice E m.entries.length ec) m.entries ∧ EntsMine 5 w' w.heap.size (.slice E m.entries.length ec) m.entries ∧ OwnB w' w.heap.size 5 (.slice D m.data.length dc) m.data) := by
  have K0 : Keeps none_ w w := Keeps.refl w
  refine q_calls Try.func52 (by kernel_rfl) (by kernel_rfl) ?_
  refine q_seq (by kernel_rfl) ?_
  refine q_region (by kernel_rfl) ?_
  refine Ops.new (o := rowL [(i64 0), (i64 0), (i64 0), (i64 0), (i64 0), (i64 0), (i64 0), (i64 0), (Value.bool false), (Value.slice none 0 0), (Value.slice none 0 0)] 49) (V := fun b => (ptr b)) (by kernel_rfl) (d := (some 2)) (by kernel_rfl) (fun b => rfl) (fun b1 w2 hb3 H4 K5 hs6 => ?_)
  have nb1 : w.heap.size ≤ b1 := by have := K0.size; omega
  replace K0 := K0.trans K5 (U := none_) (fun i h1 h2 => h2) (fun i h1 h2 => by exact h2)
  clear K5 hs6
  refine Ops.regs 1 [(0, (Value.slice B bs.length bc)), (2, (ptr b1)), (3, (i64 0))] (j := 2) (by kernel_rfl) (by kernel_rfl) ?_
  refine Ops.done (by kernel_rfl) ?_
  refine q_seq (by kernel_rfl) ?_
  refine q_seq (by kernel_rfl) ?_
  refine q_region (by kernel_rfl) ?_
  refine Ops.regs 3 [(0, (Value.slice B bs.length bc)), (2, (ptr b1)), (3, (i64 0)), (17, (Value.bool (decide (((bs.length : Nat) : Int) > 1048576))))] (j := 3) (by kernel_rfl) (by kernel_rfl) ?_
  refine Ops.done (by kernel_rfl) ?_
  refine q_cond (o := .tmp 17) (b := (decide (((bs.length : Nat) : Int) > 1048576))) (by kernel_rfl) rfl (fun h7 => ?_) (fun h7 => ?_)
  · rw [h7]
    have p8 : ((bs.length : Nat) : Int) > 1048576 := of_decide_eq_true h7
    refine q_seq (by kernel_rfl) ?_
    refine q_region (by kernel_rfl) ?_
    refine Ops.regs 1 [(0, (Value.slice B bs.length bc)), (2, (ptr b1)), (3, (i64 0)), (18, (agg [(i64 0), (i64 0), (i64 0), (i64 0), (i64 0), (i64 0), (i64 0), (i64 0), (Value.bool false), (Value.slice none 0 0), (Value.slice none 0 0)]))] (j := 1) (by kernel_rfl) (by kernel_rfl) ?_
    refine Ops.put (t := 49) (b := b1) (off := 0) (v := (agg [(i64 0), (i64 0), (i64 0), (i64 0), (i64 0), (i64 0), (i64 0), (i64 0), (Value.bool false), (Value.slice none 0 0), (Value.slice none 0 0)])) (ys := [(i64 0), (i64 0), (i64 0), (i64 0), (i64 0), (i64 0), (i64 0), (i64 0), (Value.bool false), (Value.slice none 0 0), (Value.slice none 0 0)]) (by kernel_rfl) (by kernel_rfl) H4 (by kernel_rfl) (d := none) (by kernel_rfl) rfl (fun w9 H10 K11 => ?_)
    clear H4
    replace K0 := K0.trans K11 (U := none_) (fun i h1 h2 => h2) (fun i h1 h2 => by have h2 : i = b1 := h2; exfalso; omega)
    clear K11
    refine Ops.regs 1 [(0, (Value.slice B bs.length bc)), (2, (ptr b1)), (3, (i64 3))] (j := 3) (by kernel_rfl) (by kernel_rfl) ?_
    refine Ops.done (by kernel_rfl) ?_
    refine q_ret (by kernel_rfl) ?_
    refine ⟨(Value.tuple #[(agg [(i64 0), (i64 0), (i64 0), (i64 0), (i64 0), (i64 0), (i64 0), (i64 0), (Value.bool false), (Value.slice none 0 0), (Value.slice none 0 0)]), (i64 3)]), retv_cell_tmp rfl rfl (H10.loads (by kernel_rfl)) rfl, ?_⟩
    exact ⟨(⟨0, 0, 0, 0, 0, 0, 0, 0, false, [], []⟩ : MsgP), none, none, 0, 0, 3, rfl, K0, ⟨by (try simp only); omega, by (try simp only); omega, by (try simp only); omega, by (try simp only); omega, by (try simp only); omega, by (try simp only); omega, by (try simp only); omega, by (try simp only); omega, fun x hx => by cases hx⟩, by unfold unmsgB; rw [if_pos (by omega)]; rfl, (OwnT.nil _ _ _ _ _), (EntsMine.nil _ _ _), (World.ownsRow_nil _ _ _ _)⟩
  · rw [h7]
    have p12 : ¬ (((bs.length : Nat) : Int) > 1048576) := of_decide_eq_false h7
    refine q_skip (by kernel_rfl) ?_
    refine q_seq (by kernel_rfl) ?_
    refine q_region (by kernel_rfl) ?_
    refine Ops.regs 1 [(2, (ptr b1)), (3, (i64 0)), (19, (Value.slice B bs.length bc))] (j := 1) (by kernel_rfl) (by kernel_rfl) ?_
    refine Ops.call (by kernel_rfl) (d := (some 20)) (by kernel_rfl) (Of_calls _ (Value.slice B bs.length bc) bs (hB.keep0 (by omega) K0) (by first | omega | decide)) ?_
    rintro _ w17 ⟨b13, A14, c15, rfl, q16, K18, H19, hr20, hne21, hge22⟩
    have nb13 : w.heap.size ≤ b13 := by have := K0.size; omega
    have lb13b1 : b1 < b13 := by have := H4.lt; omega
    have ob24 : ∀ i o s, A14 = some ⟨i, o, s⟩ → i ≠ b1 := fun i o s hi => by have := hge22 i o s hi; have := H4.lt; omega
    have hok23 : Rdr.Ok (⟨bs, 0, 0⟩ : Rdr) := ⟨Nat.zero_le _, by show bs.length ≤ _; first | omega | decide⟩
    clear q16 hge22
    refine ⟨_, _, rfl, rfl, ?_⟩
    replace K0 := K0.trans K18 (U := none_) (fun i h1 h2 => h2) (fun i h1 h2 => by exact h2)
    replace H4 := H4.keep K18 (fun h => h)
    clear K18
    refine Ops.regs 1 [(2, (ptr b1)), (3, (i64 0)), (4, (ptr b13))] (j := 3) (by kernel_rfl) (by kernel_rfl) ?_
    refine Ops.done (by kernel_rfl) ?_
    refine q_seq (by kernel_rfl) ?_
    refine q_region (by kernel_rfl) ?_
    refine Ops.new (o := rowL [(i64 0), (i64 0), (i64 0), (i64 0), (i64 0), (i64 0), (i64 0), (i64 0), (Value.bool false), (Value.slice none 0 0), (Value.slice none 0 0)] 49) (V := fun b => (ptr b)) (by kernel_rfl) (d := (some 5)) (by kernel_rfl) (fun b => rfl) (fun b25 w26 hb27 H28 K29 hs30 => ?_)
    have lb25b1 : b1 < b25 := by have := H4.lt; omega
    have lb25b13 : b13 < b25 := by have := H19.lt; omega
    have nb25 : w.heap.size ≤ b25 := by have := K0.size; omega
    have ob31 : ∀ i o s, A14 = some ⟨i, o, s⟩ → i ≠ b25 := fun i o s hi => by have := hr20.2 i o s hi; omega
    replace K0 := K0.trans K29 (U := none_) (fun i h1 h2 => h2) (fun i h1 h2 => by exact h2)
    replace H4 := H4.keep K29 (fun h => h)
    replace H19 := H19.keep K29 (fun h => h)
    replace hr20 := RdO.keep0 hr20 K29
    clear K29 hs30
    refine Ops.done (by kernel_rfl) ?_
    refine q_seq (by kernel_rfl) ?_
    refine q_region (by kernel_rfl) ?_
    refine Ops.regs 1 [(2, (ptr b1)), (3, (i64 0)), (4, (ptr b13)), (5, (ptr b25)), (21, (ptr b13))] (j := 1) (by kernel_rfl) (by kernel_rfl) ?_
    refine Ops.call (by kernel_rfl) (d := (some 22)) (by kernel_rfl) (RRInt_calls _ b13 A14 c15 (⟨bs, 0, 0⟩ : Rdr) hok23 H19 hr20 hne21 ) ?_
    rintro _ w32 ⟨rfl, K33, H34⟩
    have hok35 : ((⟨bs, 0, 0⟩ : Rdr).int).2.Ok := Rdr.Ok.int hok23
    have hu36 := Rdr.int_range (⟨bs, 0, 0⟩ : Rdr)
    refine ⟨_, _, rfl, rfl, ?_⟩
    replace K0 := K0.trans K33 (U := none_) (fun i h1 h2 => h2) (fun i h1 h2 => by have h2 : i = b13 := h2; exfalso; omega)
    replace H4 := H4.keep K33 (by intro h; change b1 = b13 at h; omega)
    replace H28 := H28.keep K33 (by intro h; change b25 = b13 at h; omega)
    replace hr20 := RdO.keep hr20 K33 (fun i _ _ hi hs => by have hs : i = b13 := hs; have := hne21 i _ _ hi; omega)
    clear K33
    have F37 : RdO w32 A14 c15 ((⟨bs, 0, 0⟩ : Rdr).int).2.bs := by rw [Rdr.int_bs]; exact hr20
    clear hr20
    refine Ops.regs 1 [(2, (ptr b1)), (3, (i64 0)), (4, (ptr b13)), (5, (ptr b25)), (6, (i64 (((⟨bs, 0, 0⟩ : Rdr).int).1)))] (j := 3) (by kernel_rfl) (by kernel_rfl) ?_
    refine Ops.done (by kernel_rfl) ?_
    refine q_seq (by kernel_rfl) ?_
    refine q_region (by kernel_rfl) ?_
    refine Ops.regs 1 [(2, (ptr b1)), (3, (i64 0)), (4, (ptr b13)), (5, (ptr b25)), (6, (i64 (((⟨bs, 0, 0⟩ : Rdr).int).1))), (23, (ptr b13))] (j := 1) (by kernel_rfl) (by kernel_rfl) ?_
    refine Ops.call (by kernel_rfl) (d := (some 24)) (by kernel_rfl) (RRInt_calls _ b13 A14 c15 (((⟨bs, 0, 0⟩ : Rdr).int).2) hok35 H34 F37 hne21 ) ?_
    rintro _ w38 ⟨rfl, K39, H40⟩
    have hok41 : ((((⟨bs, 0, 0⟩ : Rdr).int).2).int).2.Ok := Rdr.Ok.int hok35
    have hu42 := Rdr.int_range (((⟨bs, 0, 0⟩ : Rdr).int).2)
    refine ⟨_, _, rfl, rfl, ?_⟩
    replace K0 := K0.trans K39 (U := none_) (fun i h1 h2 => h2) (fun i h1 h2 => by have h2 : i = b13 := h2; exfalso; omega)
    replace H4 := H4.keep K39 (by intro h; change b1 = b13 at h; omega)
    replace H28 := H28.keep K39 (by intro h; change b25 = b13 at h; omega)
    replace F37 := RdO.keep F37 K39 (fun i _ _ hi hs => by have hs : i = b13 := hs; have := hne21 i _ _ hi; omega)
    clear K39
    have F43 : RdO w38 A14 c15 ((((⟨bs, 0, 0⟩ : Rdr).int).2).int).2.bs := by rw [Rdr.int_bs]; exact F37
    clear F37
    refine Ops.regs 1 [(2, (ptr b1)), (3, (i64 0)), (4, (ptr b13)), (5, (ptr b25)), (6, (i64 (((⟨bs, 0, 0⟩ : Rdr).int).1))), (7, (i64 (((((⟨bs, 0, 0⟩ : Rdr).int).2).int).1)))] (j := 3) (by kernel_rfl) (by kernel_rfl) ?_
    refine Ops.done (by kernel_rfl) ?_
    refine q_seq (by kernel_rfl) ?_
    refine q_region (by kernel_rfl) ?_
    refine Ops.regs 1 [(2, (ptr b1)), (3, (i64 0)), (4, (ptr b13)), (5, (ptr b25)), (6, (i64 (((⟨bs, 0, 0⟩ : Rdr).int).1))), (7, (i64 (((((⟨bs, 0, 0⟩ : Rdr).int).2).int).1))), (25, (ptr b13))] (j := 1) (by kernel_rfl) (by kernel_rfl) ?_
    refine Ops.call (by kernel_rfl) (d := (some 26)) (by kernel_rfl) (RRInt_calls _ b13 A14 c15 (((((⟨bs, 0, 0⟩ : Rdr).int).2).int).2) hok41 H40 F43 hne21 ) ?_
    rintro _ w44 ⟨rfl, K45, H46⟩
    have hok47 : ((((((⟨bs, 0, 0⟩ : Rdr).int).2).int).2).int).2.Ok := Rdr.Ok.int hok41
    have hu48 := Rdr.int_range (((((⟨bs, 0, 0⟩ : Rdr).int).2).int).2)
    refine ⟨_, _, rfl, rfl, ?_⟩
    replace K0 := K0.trans K45 (U := none_) (fun i h1 h2 => h2) (fun i h1 h2 => by have h2 : i = b13 := h2; exfalso; omega)
    replace H4 := H4.keep K45 (by intro h; change b1 = b13 at h; omega)
    replace H28 := H28.keep K45 (by intro h; change b25 = b13 at h; omega)
    replace F43 := RdO.keep F43 K45 (fun i _ _ hi hs => by have hs : i = b13 := hs; have := hne21 i _ _ hi; omega)
    clear K45
    have F49 : RdO w44 A14 c15 ((((((⟨bs, 0, 0⟩ : Rdr).int).2).int).2).int).2.bs := by rw [Rdr.int_bs]; exact F43
    clear F43
    refine Ops.regs 1 [(2, (ptr b1)), (3, (i64 0)), (4, (ptr b13)), (5, (ptr b25)), (6, (i64 (((⟨bs, 0, 0⟩ : Rdr).int).1))), (7, (i64 (((((⟨bs, 0, 0⟩ : Rdr).int).2).int).1))), (8, (i64 (((((((⟨bs, 0, 0⟩ : Rdr).int).2).int).2).int).1)))] (j := 3) (by kernel_rfl) (by kernel_rfl) ?_
    refine Ops.done (by kernel_rfl) ?_
    refine q_seq (by kernel_rfl) ?_
    refine q_region (by kernel_rfl) ?_
    refine Ops.regs 1 [(2, (ptr b1)), (3, (i64 0)), (4, (ptr b13)), (5, (ptr b25)), (6, (i64 (((⟨bs, 0, 0⟩ : Rdr).int).1))), (7, (i64 (((((⟨bs, 0, 0⟩ : Rdr).int).2).int).1))), (8, (i64 (((((((⟨bs, 0, 0⟩ : Rdr).int).2).int).2).int).1))), (27, (ptr b13))] (j := 1) (by kernel_rfl) (by kernel_rfl) ?_
    refine Ops.call (by kernel_rfl) (d := (some 28)) (by kernel_rfl) (RRInt_calls _ b13 A14 c15 (((((((⟨bs, 0, 0⟩ : Rdr).int).2).int).2).int).2) hok47 H46 F49 hne21 ) ?_
    rintro _ w50 ⟨rfl, K51, H52⟩
    have hok53 : ((((((((⟨bs, 0, 0⟩ : Rdr).int).2).int).2).int).2).int).2.Ok := Rdr.Ok.int hok47
    have hu54 := Rdr.int_range (((((((⟨bs, 0, 0⟩ : Rdr).int).2).int).2).int).2)
    refine ⟨_, _, rfl, rfl, ?_⟩
    replace K0 := K0.trans K51 (U := none_) (fun i h1 h2 => h2) (fun i h1 h2 => by have h2 : i = b13 := h2; exfalso; omega)
    replace H4 := H4.keep K51 (by intro h; change b1 = b13 at h; omega)
    replace H28 := H28.keep K51 (by intro h; change b25 = b13 at h; omega)
    replace F49 := RdO.keep F49 K51 (fun i _ _ hi hs => by have hs : i = b13 := hs; have := hne21 i _ _ hi; omega)
    clear K51
    have F55 : RdO w50 A14 c15 ((((((((⟨bs, 0, 0⟩ : Rdr).int).2).int).2).int).2).int).2.bs := by rw [Rdr.int_bs]; exact F49
    clear F49
    refine Ops.regs 1 [(2, (ptr b1)), (3, (i64 0)), (4, (ptr b13)), (5, (ptr b25)), (6, (i64 (((⟨bs, 0, 0⟩ : Rdr).int).1))), (7, (i64 (((((⟨bs, 0, 0⟩ : Rdr).int).2).int).1))), (8, (i64 (((((((⟨bs, 0, 0⟩ : Rdr).int).2).int).2).int).1))), (9, (i64 (((((((((⟨bs, 0, 0⟩ : Rdr).int).2).int).2).int).2).int).1)))] (j := 3) (by kernel_rfl) (by kernel_rfl) ?_
    refine Ops.done (by kernel_rfl) ?_
    refine q_seq (by kernel_rfl) ?_
    refine q_region (by kernel_rfl) ?_
    refine Ops.regs 1 [(2, (ptr b1)), (3, (i64 0)), (4, (ptr b13)), (5, (ptr b25)), (6, (i64 (((⟨bs, 0, 0⟩ : Rdr).int).1))), (7, (i64 (((((⟨bs, 0, 0⟩ : Rdr).int).2).int).1))), (8, (i64 (((((((⟨bs, 0, 0⟩ : Rdr).int).2).int).2).int).1))), (9, (i64 (((((((((⟨bs, 0, 0⟩ : Rdr).int).2).int).2).int).2).int).1))), (29, (ptr b13))] (j := 1) (by kernel_rfl) (by kernel_rfl) ?_
    refine Ops.call (by kernel_rfl) (d := (some 30)) (by kernel_rfl) (RRInt_calls _ b13 A14 c15 (((((((((⟨bs, 0, 0⟩ : Rdr).int).2).int).2).int).2).int).2) hok53 H52 F55 hne21 ) ?_
    rintro _ w56 ⟨rfl, K57, H58⟩
    have hok59 : ((((((((((⟨bs, 0, 0⟩ : Rdr).int).2).int).2).int).2).int).2).int).2.Ok := Rdr.Ok.int hok53
    have hu60 := Rdr.int_range (((((((((⟨bs, 0, 0⟩ : Rdr).int).2).int).2).int).2).int).2)
    refine ⟨_, _, rfl, rfl, ?_⟩
    replace K0 := K0.trans K57 (U := none_) (fun i h1 h2 => h2) (fun i h1 h2 => by have h2 : i = b13 := h2; exfalso; omega)
    replace H4 := H4.keep K57 (by intro h; change b1 = b13 at h; omega)
    replace H28 := H28.keep K57 (by intro h; change b25 = b13 at h; omega)
    replace F55 := RdO.keep F55 K57 (fun i _ _ hi hs => by have hs : i = b13 := hs; have := hne21 i _ _ hi; omega)
    clear K57
    have F61 : RdO w56 A14 c15 ((((((((((⟨bs, 0, 0⟩ : Rdr).int).2).int).2).int).2).int).2).int).2.bs := by rw [Rdr.int_bs]; exact F55
    clear F55
    refine Ops.regs 1 [(2, (ptr b1)), (3, (i64 0)), (4, (ptr b13)), (5, (ptr b25)), (6, (i64 (((⟨bs, 0, 0⟩ : Rdr).int).1))), (7, (i64 (((((⟨bs, 0, 0⟩ : Rdr).int).2).int).1))), (8, (i64 (((((((⟨bs, 0, 0⟩ : Rdr).int).2).int).2).int).1))), (9, (i64 (((((((((⟨bs, 0, 0⟩ : Rdr).int).2).int).2).int).2).int).1))), (30, (i64 (((((((((((⟨bs, 0, 0⟩ : Rdr).int).2).int).2).int).2).int).2).int).1))), (31, (Value.pointer (some ⟨b25, 4, none⟩)))] (j := 3) (by kernel_rfl) (by kernel_rfl) ?_
    refine Ops.put (t := 2) (b := b25) (off := 4) (v := (i64 (((((((((((⟨bs, 0, 0⟩ : Rdr).int).2).int).2).int).2).int).2).int).1))) (ys := [(i64 0), (i64 0), (i64 0), (i64 0), (i64 (((((((((((⟨bs, 0, 0⟩ : Rdr).int).2).int).2).int).2).int).2).int).1)), (i64 0), (i64 0), (i64 0), (Value.bool false), (Value.slice none 0 0), (Value.slice none 0 0)]) (by kernel_rfl) (by kernel_rfl) H28 (by kernel_rfl) (d := none) (by kernel_rfl) rfl (fun w62 H63 K64 => ?_)
    clear H28
    replace K0 := K0.trans K64 (U := none_) (fun i h1 h2 => h2) (fun i h1 h2 => by have h2 : i = b25 := h2; exfalso; omega)
    replace H4 := H4.keep K64 (by intro h; change b1 = b25 at h; omega)
    replace H58 := H58.keep K64 (by intro h; change b13 = b25 at h; omega)
    replace F61 := RdO.keep F61 K64 (fun i _ _ hi hs => by have hs : i = b25 := hs; have := ob31 i _ _ hi; omega)
    clear K64
    refine Ops.done (by kernel_rfl) ?_
    refine q_seq (by kernel_rfl) ?_
    refine q_region (by kernel_rfl) ?_
    refine Ops.regs 1 [(2, (ptr b1)), (3, (i64 0)), (4, (ptr b13)), (5, (ptr b25)), (6, (i64 (((⟨bs, 0, 0⟩ : Rdr).int).1))), (7, (i64 (((((⟨bs, 0, 0⟩ : Rdr).int).2).int).1))), (8, (i64 (((((((⟨bs, 0, 0⟩ : Rdr).int).2).int).2).int).1))), (9, (i64 (((((((((⟨bs, 0, 0⟩ : Rdr).int).2).int).2).int).2).int).1))), (32, (ptr b13))] (j := 1) (by kernel_rfl) (by kernel_rfl) ?_
    refine Ops.call (by kernel_rfl) (d := (some 33)) (by kernel_rfl) (RRInt_calls _ b13 A14 c15 (((((((((((⟨bs, 0, 0⟩ : Rdr).int).2).int).2).int).2).int).2).int).2) hok59 H58 F61 hne21 ) ?_
    rintro _ w65 ⟨rfl, K66, H67⟩
    have hok68 : ((((((((((((⟨bs, 0, 0⟩ : Rdr).int).2).int).2).int).2).int).2).int).2).int).2.Ok := Rdr.Ok.int hok59
    have hu69 := Rdr.int_range (((((((((((⟨bs, 0, 0⟩ : Rdr).int).2).int).2).int).2).int).2).int).2)
    refine ⟨_, _, rfl, rfl, ?_⟩
    replace K0 := K0.trans K66 (U := none_) (fun i h1 h2 => h2) (fun i h1 h2 => by have h2 : i = b13 := h2; exfalso; omega)
    replace H4 := H4.keep K66 (by intro h; change b1 = b13 at h; omega)
    replace H63 := H63.keep K66 (by intro h; change b25 = b13 at h; omega)
    replace F61 := RdO.keep F61 K66 (fun i _ _ hi hs => by have hs : i = b13 := hs; have := hne21 i _ _ hi; omega)
    clear K66
    have F70 : RdO w65 A14 c15 ((((((((((((⟨bs, 0, 0⟩ : Rdr).int).2).int).2).int).2).int).2).int).2).int).2.bs := by rw [Rdr.int_bs]; exact F61
    clear F61
    refine Ops.regs 1 [(2, (ptr b1)), (3, (i64 0)), (4, (ptr b13)), (5, (ptr b25)), (6, (i64 (((⟨bs, 0, 0⟩ : Rdr).int).1))), (7, (i64 (((((⟨bs, 0, 0⟩ : Rdr).int).2).int).1))), (8, (i64 (((((((⟨bs, 0, 0⟩ : Rdr).int).2).int).2).int).1))), (9, (i64 (((((((((⟨bs, 0, 0⟩ : Rdr).int).2).int).2).int).2).int).1))), (33, (i64 (((((((((((((⟨bs, 0, 0⟩ : Rdr).int).2).int).2).int).2).int).2).int).2).int).1))), (34, (Value.pointer (some ⟨b25, 5, none⟩)))] (j := 3) (by kernel_rfl) (by kernel_rfl) ?_
    refine Ops.put (t := 2) (b := b25) (off := 5) (v := (i64 (((((((((((((⟨bs, 0, 0⟩ : Rdr).int).2).int).2).int).2).int).2).int).2).int).1))) (ys := [(i64 0), (i64 0), (i64 0), (i64 0), (i64 (((((((((((⟨bs, 0, 0⟩ : Rdr).int).2).int).2).int).2).int).2).int).1)), (i64 (((((((((((((⟨bs, 0, 0⟩ : Rdr).int).2).int).2).int).2).int).2).int).2).int).1)), (i64 0), (i64 0), (Value.bool false), (Value.slice none 0 0), (Value.slice none 0 0)]) (by kernel_rfl) (by kernel_rfl) H63 (by kernel_rfl) (d := none) (by kernel_rfl) rfl (fun w71 H72 K73 => ?_)
    clear H63
    replace K0 := K0.trans K73 (U := none_) (fun i h1 h2 => h2) (fun i h1 h2 => by have h2 : i = b25 := h2; exfalso; omega)
    replace H4 := H4.keep K73 (by intro h; change b1 = b25 at h; omega)
    replace H67 := H67.keep K73 (by intro h; change b13 = b25 at h; omega)
    replace F70 := RdO.keep F70 K73 (fun i _ _ hi hs => by have hs : i = b25 := hs; have := ob31 i _ _ hi; omega)
    clear K73
    refine Ops.done (by kernel_rfl) ?_
    refine q_seq (by kernel_rfl) ?_
    refine q_region (by kernel_rfl) ?_
    refine Ops.regs 1 [(2, (ptr b1)), (3, (i64 0)), (4, (ptr b13)), (5, (ptr b25)), (6, (i64 (((⟨bs, 0, 0⟩ : Rdr).int).1))), (7, (i64 (((((⟨bs, 0, 0⟩ : Rdr).int).2).int).1))), (8, (i64 (((((((⟨bs, 0, 0⟩ : Rdr).int).2).int).2).int).1))), (9, (i64 (((((((((⟨bs, 0, 0⟩ : Rdr).int).2).int).2).int).2).int).1))), (35, (ptr b13))] (j := 1) (by kernel_rfl) (by kernel_rfl) ?_
    refine Ops.call (by kernel_rfl) (d := (some 36)) (by kernel_rfl) (RRInt_calls _ b13 A14 c15 (((((((((((((⟨bs, 0, 0⟩ : Rdr).int).2).int).2).int).2).int).2).int).2).int).2) hok68 H67 F70 hne21 ) ?_
    rintro _ w74 ⟨rfl, K75, H76⟩
    have hok77 : ((((((((((((((⟨bs, 0, 0⟩ : Rdr).int).2).int).2).int).2).int).2).int).2).int).2).int).2.Ok := Rdr.Ok.int hok68
    have hu78 := Rdr.int_range (((((((((((((⟨bs, 0, 0⟩ : Rdr).int).2).int).2).int).2).int).2).int).2).int).2)
    refine ⟨_, _, rfl, rfl, ?_⟩
    replace K0 := K0.trans K75 (U := none_) (fun i h1 h2 => h2) (fun i h1 h2 => by have h2 : i = b13 := h2; exfalso; omega)
    replace H4 := H4.keep K75 (by intro h; change b1 = b13 at h; omega)
    replace H72 := H72.keep K75 (by intro h; change b25 = b13 at h; omega)
    replace F70 := RdO.keep F70 K75 (fun i _ _ hi hs => by have hs : i = b13 := hs; have := hne21 i _ _ hi; omega)
    clear K75
    have F79 : RdO w74 A14 c15 ((((((((((((((⟨bs, 0, 0⟩ : Rdr).int).2).int).2).int).2).int).2).int).2).int).2).int).2.bs := by rw [Rdr.int_bs]; exact F70
    clear F70
    refine Ops.regs 1 [(2, (ptr b1)), (3, (i64 0)), (4, (ptr b13)), (5, (ptr b25)), (6, (i64 (((⟨bs, 0, 0⟩ : Rdr).int).1))), (7, (i64 (((((⟨bs, 0, 0⟩ : Rdr).int).2).int).1))), (8, (i64 (((((((⟨bs, 0, 0⟩ : Rdr).int).2).int).2).int).1))), (9, (i64 (((((((((⟨bs, 0, 0⟩ : Rdr).int).2).int).2).int).2).int).1))), (36, (i64 (((((((((((((((⟨bs, 0, 0⟩ : Rdr).int).2).int).2).int).2).int).2).int).2).int).2).int).1))), (37, (Value.pointer (some ⟨b25, 6, none⟩)))] (j := 3) (by kernel_rfl) (by kernel_rfl) ?_
    refine Ops.put (t := 2) (b := b25) (off := 6) (v := (i64 (((((((((((((((⟨bs, 0, 0⟩ : Rdr).int).2).int).2).int).2).int).2).int).2).int).2).int).1))) (ys := [(i64 0), (i64 0), (i64 0), (i64 0), (i64 (((((((((((⟨bs, 0, 0⟩ : Rdr).int).2).int).2).int).2).int).2).int).1)), (i64 (((((((((((((⟨bs, 0, 0⟩ : Rdr).int).2).int).2).int).2).int).2).int).2).int).1)), (i64 (((((((((((((((⟨bs, 0, 0⟩ : Rdr).int).2).int).2).int).2).int).2).int).2).int).2).int).1)), (i64 0), (Value.bool false), (Value.slice none 0 0), (Value.slice none 0 0)]) (by kernel_rfl) (by kernel_rfl) H72 (by kernel_rfl) (d := none) (by kernel_rfl) rfl (fun w80 H81 K82 => ?_)
    clear H72
    replace K0 := K0.trans K82 (U := none_) (fun i h1 h2 => h2) (fun i h1 h2 => by have h2 : i = b25 := h2; exfalso; omega)
    replace H4 := H4.keep K82 (by intro h; change b1 = b25 at h; omega)
    replace H76 := H76.keep K82 (by intro h; change b13 = b25 at h; omega)
    replace F79 := RdO.keep F79 K82 (fun i _ _ hi hs => by have hs : i = b25 := hs; have := ob31 i _ _ hi; omega)
    clear K82
    refine Ops.done (by kernel_rfl) ?_
    refine q_seq (by kernel_rfl) ?_
    refine q_region (by kernel_rfl) ?_
    refine Ops.regs 1 [(2, (ptr b1)), (3, (i64 0)), (4, (ptr b13)), (5, (ptr b25)), (6, (i64 (((⟨bs, 0, 0⟩ : Rdr).int).1))), (7, (i64 (((((⟨bs, 0, 0⟩ : Rdr).int).2).int).1))), (8, (i64 (((((((⟨bs, 0, 0⟩ : Rdr).int).2).int).2).int).1))), (9, (i64 (((((((((⟨bs, 0, 0⟩ : Rdr).int).2).int).2).int).2).int).1))), (38, (ptr b13))] (j := 1) (by kernel_rfl) (by kernel_rfl) ?_
    refine Ops.call (by kernel_rfl) (d := (some 39)) (by kernel_rfl) (RRInt_calls _ b13 A14 c15 (((((((((((((((⟨bs, 0, 0⟩ : Rdr).int).2).int).2).int).2).int).2).int).2).int).2).int).2) hok77 H76 F79 hne21 ) ?_
    rintro _ w83 ⟨rfl, K84, H85⟩
    have hok86 : ((((((((((((((((⟨bs, 0, 0⟩ : Rdr).int).2).int).2).int).2).int).2).int).2).int).2).int).2).int).2.Ok := Rdr.Ok.int hok77
    have hu87 := Rdr.int_range (((((((((((((((⟨bs, 0, 0⟩ : Rdr).int).2).int).2).int).2).int).2).int).2).int).2).int).2)
    refine ⟨_, _, rfl, rfl, ?_⟩
    replace K0 := K0.trans K84 (U := none_) (fun i h1 h2 => h2) (fun i h1 h2 => by have h2 : i = b13 := h2; exfalso; omega)
    replace H4 := H4.keep K84 (by intro h; change b1 = b13 at h; omega)
    replace H81 := H81.keep K84 (by intro h; change b25 = b13 at h; omega)
    replace F79 := RdO.keep F79 K84 (fun i _ _ hi hs => by have hs : i = b13 := hs; have := hne21 i _ _ hi; omega)
    clear K84
    have F88 : RdO w83 A14 c15 ((((((((((((((((⟨bs, 0, 0⟩ : Rdr).int).2).int).2).int).2).int).2).int).2).int).2).int).2).int).2.bs := by rw [Rdr.int_bs]; exact F79
    clear F79
    refine Ops.regs 1 [(2, (ptr b1)), (3, (i64 0)), (4, (ptr b13)), (5, (ptr b25)), (6, (i64 (((⟨bs, 0, 0⟩ : Rdr).int).1))), (7, (i64 (((((⟨bs, 0, 0⟩ : Rdr).int).2).int).1))), (8, (i64 (((((((⟨bs, 0, 0⟩ : Rdr).int).2).int).2).int).1))), (9, (i64 (((((((((⟨bs, 0, 0⟩ : Rdr).int).2).int).2).int).2).int).1))), (39, (i64 (((((((((((((((((⟨bs, 0, 0⟩ : Rdr).int).2).int).2).int).2).int).2).int).2).int).2).int).2).int).1))), (40, (Value.pointer (some ⟨b25, 7, none⟩)))] (j := 3) (by kernel_rfl) (by kernel_rfl) ?_
    refine Ops.put (t := 2) (b := b25) (off := 7) (v := (i64 (((((((((((((((((⟨bs, 0, 0⟩ : Rdr).int).2).int).2).int).2).int).2).int).2).int).2).int).2).int).1))) (ys := [(i64 0), (i64 0), (i64 0), (i64 0), (i64 (((((((((((⟨bs, 0, 0⟩ : Rdr).int).2).int).2).int).2).int).2).int).1)), (i64 (((((((((((((⟨bs, 0, 0⟩ : Rdr).int).2).int).2).int).2).int).2).int).2).int).1)), (i64 (((((((((((((((⟨bs, 0, 0⟩ : Rdr).int).2).int).2).int).2).int).2).int).2).int).2).int).1)), (i64 (((((((((((((((((⟨bs, 0, 0⟩ : Rdr).int).2).int).2).int).2).int).2).int).2).int).2).int).2).int).1)), (Value.bool false), (Value.slice none 0 0), (Value.slice none 0 0)]) (by kernel_rfl) (by kernel_rfl) H81 (by kernel_rfl) (d := none) (by kernel_rfl) rfl (fun w89 H90 K91 => ?_)
    clear H81
    replace K0 := K0.trans K91 (U := none_) (fun i h1 h2 => h2) (fun i h1 h2 => by have h2 : i = b25 := h2; exfalso; omega)
    replace H4 := H4.keep K91 (by intro h; change b1 = b25 at h; omega)
    replace H85 := H85.keep K91 (by intro h; change b13 = b25 at h; omega)
    replace F88 := RdO.keep F88 K91 (fun i _ _ hi hs => by have hs : i = b25 := hs; have := ob31 i _ _ hi; omega)
    clear K91
    refine Ops.done (by kernel_rfl) ?_
    refine q_seq (by kernel_rfl) ?_
    refine q_region (by kernel_rfl) ?_
    refine Ops.regs 1 [(2, (ptr b1)), (3, (i64 0)), (4, (ptr b13)), (5, (ptr b25)), (6, (i64 (((⟨bs, 0, 0⟩ : Rdr).int).1))), (7, (i64 (((((⟨bs, 0, 0⟩ : Rdr).int).2).int).1))), (8, (i64 (((((((⟨bs, 0, 0⟩ : Rdr).int).2).int).2).int).1))), (9, (i64 (((((((((⟨bs, 0, 0⟩ : Rdr).int).2).int).2).int).2).int).1))), (41, (ptr b13))] (j := 1) (by kernel_rfl) (by kernel_rfl) ?_
    refine Ops.call (by kernel_rfl) (d := (some 42)) (by kernel_rfl) (RRBool_calls _ b13 A14 c15 (((((((((((((((((⟨bs, 0, 0⟩ : Rdr).int).2).int).2).int).2).int).2).int).2).int).2).int).2).int).2) hok86 H85 F88 hne21 ) ?_
    rintro _ w92 ⟨rfl, K93, H94⟩
    have hok95 : ((((((((((((((((((⟨bs, 0, 0⟩ : Rdr).int).2).int).2).int).2).int).2).int).2).int).2).int).2).int).2).bool_).2.Ok := Rdr.Ok.bool_ hok86
    refine ⟨_, _, rfl, rfl, ?_⟩
    replace K0 := K0.trans K93 (U := none_) (fun i h1 h2 => h2) (fun i h1 h2 => by have h2 : i = b13 := h2; exfalso; omega)
    replace H4 := H4.keep K93 (by intro h; change b1 = b13 at h; omega)
    replace H90 := H90.keep K93 (by intro h; change b25 = b13 at h; omega)
    replace F88 := RdO.keep F88 K93 (fun i _ _ hi hs => by have hs : i = b13 := hs; have := hne21 i _ _ hi; omega)
    clear K93
    have F96 : RdO w92 A14 c15 ((((((((((((((((((⟨bs, 0, 0⟩ : Rdr).int).2).int).2).int).2).int).2).int).2).int).2).int).2).int).2).bool_).2.bs := by rw [Rdr.bool_bs]; exact F88
    clear F88
    refine Ops.regs 1 [(2, (ptr b1)), (3, (i64 0)), (4, (ptr b13)), (5, (ptr b25)), (6, (i64 (((⟨bs, 0, 0⟩ : Rdr).int).1))), (7, (i64 (((((⟨bs, 0, 0⟩ : Rdr).int).2).int).1))), (8, (i64 (((((((⟨bs, 0, 0⟩ : Rdr).int).2).int).2).int).1))), (9, (i64 (((((((((⟨bs, 0, 0⟩ : Rdr).int).2).int).2).int).2).int).1))), (42, (Value.bool (((((((((((((((((((⟨bs, 0, 0⟩ : Rdr).int).2).int).2).int).2).int).2).int).2).int).2).int).2).int).2).bool_).1))), (43, (Value.pointer (some ⟨b25, 8, none⟩)))] (j := 3) (by kernel_rfl) (by kernel_rfl) ?_
    refine Ops.put (t := 4) (b := b25) (off := 8) (v := (Value.bool (((((((((((((((((((⟨bs, 0, 0⟩ : Rdr).int).2).int).2).int).2).int).2).int).2).int).2).int).2).int).2).bool_).1))) (ys := [(i64 0), (i64 0), (i64 0), (i64 0), (i64 (((((((((((⟨bs, 0, 0⟩ : Rdr).int).2).int).2).int).2).int).2).int).1)), (i64 (((((((((((((⟨bs, 0, 0⟩ : Rdr).int).2).int).2).int).2).int).2).int).2).int).1)), (i64 (((((((((((((((⟨bs, 0, 0⟩ : Rdr).int).2).int).2).int).2).int).2).int).2).int).2).int).1)), (i64 (((((((((((((((((⟨bs, 0, 0⟩ : Rdr).int).2).int).2).int).2).int).2).int).2).int).2).int).2).int).1)), (Value.bool (((((((((((((((((((⟨bs, 0, 0⟩ : Rdr).int).2).int).2).int).2).int).2).int).2).int).2).int).2).int).2).bool_).1)), (Value.slice none 0 0), (Value.slice none 0 0)]) (by kernel_rfl) (by kernel_rfl) H90 (by kernel_rfl) (d := none) (by kernel_rfl) rfl (fun w97 H98 K99 => ?_)
    clear H90
    replace K0 := K0.trans K99 (U := none_) (fun i h1 h2 => h2) (fun i h1 h2 => by have h2 : i = b25 := h2; exfalso; omega)
    replace H4 := H4.keep K99 (by intro h; change b1 = b25 at h; omega)
    replace H94 := H94.keep K99 (by intro h; change b13 = b25 at h; omega)
    replace F96 := RdO.keep F96 K99 (fun i _ _ hi hs => by have hs : i = b25 := hs; have := ob31 i _ _ hi; omega)
    clear K99
    refine Ops.done (by kernel_rfl) ?_
    refine q_seq (by kernel_rfl) ?_
    refine q_region (by kernel_rfl) ?_
    refine Ops.regs 1 [(2, (ptr b1)), (3, (i64 0)), (4, (ptr b13)), (5, (ptr b25)), (6, (i64 (((⟨bs, 0, 0⟩ : Rdr).int).1))), (7, (i64 (((((⟨bs, 0, 0⟩ : Rdr).int).2).int).1))), (8, (i64 (((((((⟨bs, 0, 0⟩ : Rdr).int).2).int).2).int).1))), (9, (i64 (((((((((⟨bs, 0, 0⟩ : Rdr).int).2).int).2).int).2).int).1))), (44, (ptr b13))] (j := 1) (by kernel_rfl) (by kernel_rfl) ?_
    refine Ops.call (by kernel_rfl) (d := (some 45)) (by kernel_rfl) (RRCount_calls _ b13 A14 c15 (((((((((((((((((((⟨bs, 0, 0⟩ : Rdr).int).2).int).2).int).2).int).2).int).2).int).2).int).2).int).2).bool_).2) hok95 H94 F96 hne21 4096 (by omega)) ?_
    rintro _ w100 ⟨rfl, K101, H102⟩
    have hok103 : ((((((((((((((((((((⟨bs, 0, 0⟩ : Rdr).int).2).int).2).int).2).int).2).int).2).int).2).int).2).int).2).bool_).2).sized 4096).2.Ok := Rdr.Ok.sized hok95 4096
    have hu104 := Rdr.sized_le hok95 4096
    have hu105 := Rdr.sized_lt (((((((((((((((((((⟨bs, 0, 0⟩ : Rdr).int).2).int).2).int).2).int).2).int).2).int).2).int).2).int).2).bool_).2) 4096
    refine ⟨_, _, rfl, rfl, ?_⟩
    replace K0 := K0.trans K101 (U := none_) (fun i h1 h2 => h2) (fun i h1 h2 => by have h2 : i = b13 := h2; exfalso; omega)
    replace H4 := H4.keep K101 (by intro h; change b1 = b13 at h; omega)
    replace H98 := H98.keep K101 (by intro h; change b25 = b13 at h; omega)
    replace F96 := RdO.keep F96 K101 (fun i _ _ hi hs => by have hs : i = b13 := hs; have := hne21 i _ _ hi; omega)
    clear K101
    have F106 : RdO w100 A14 c15 ((((((((((((((((((((⟨bs, 0, 0⟩ : Rdr).int).2).int).2).int).2).int).2).int).2).int).2).int).2).int).2).bool_).2).sized 4096).2.bs := by rw [Rdr.sized_bs]; exact F96
    clear F96
    refine Ops.regs 1 [(2, (ptr b1)), (3, (i64 0)), (4, (ptr b13)), (5, (ptr b25)), (6, (i64 (((⟨bs, 0, 0⟩ : Rdr).int).1))), (7, (i64 (((((⟨bs, 0, 0⟩ : Rdr).int).2).int).1))), (8, (i64 (((((((⟨bs, 0, 0⟩ : Rdr).int).2).int).2).int).1))), (9, (i64 (((((((((⟨bs, 0, 0⟩ : Rdr).int).2).int).2).int).2).int).1))), (10, (i64 ((((((((((((((((((((((⟨bs, 0, 0⟩ : Rdr).int).2).int).2).int).2).int).2).int).2).int).2).int).2).int).2).bool_).2).sized 4096).1 : Nat) : Int)))] (j := 3) (by kernel_rfl) (by kernel_rfl) ?_
    refine Ops.done (by kernel_rfl) ?_
    refine q_seq (by kernel_rfl) ?_
    refine q_seq (by kernel_rfl) ?_
    refine q_region (by kernel_rfl) ?_
    refine Ops.regs 1 [(2, (ptr b1)), (3, (i64 0)), (4, (ptr b13)), (5, (ptr b25)), (6, (i64 (((⟨bs, 0, 0⟩ : Rdr).int).1))), (7, (i64 (((((⟨bs, 0, 0⟩ : Rdr).int).2).int).1))), (8, (i64 (((((((⟨bs, 0, 0⟩ : Rdr).int).2).int).2).int).1))), (9, (i64 (((((((((⟨bs, 0, 0⟩ : Rdr).int).2).int).2).int).2).int).1))), (10, (i64 ((((((((((((((((((((((⟨bs, 0, 0⟩ : Rdr).int).2).int).2).int).2).int).2).int).2).int).2).int).2).int).2).bool_).2).sized 4096).1 : Nat) : Int))), (11, (i64 0))] (j := 1) (by kernel_rfl) (by kernel_rfl) ?_
    refine Ops.done (by kernel_rfl) ?_
    refine q_block (id := 0) (by kernel_rfl) ?_
    have hN : (⟨bs, 0, 0⟩ : Rdr).mcnt.1 = ((((((((((((((((((((⟨bs, 0, 0⟩ : Rdr).int).2).int).2).int).2).int).2).int).2).int).2).int).2).int).2).bool_).2).sized 4096).1 := rfl
    have hNle : (⟨bs, 0, 0⟩ : Rdr).mcnt.1 ≤ 4096 := by have := Rdr.sized_most (⟨bs, 0, 0⟩ : Rdr).mok.2 4096; show ((⟨bs, 0, 0⟩ : Rdr).mok.2.sized 4096).1 ≤ 4096; omega
    refine q_keep (R := [(2, (ptr b1)), (3, (i64 0)), (4, (ptr b13)), (5, (ptr b25)), (6, (i64 (((⟨bs, 0, 0⟩ : Rdr).int).1))), (7, (i64 (((((⟨bs, 0, 0⟩ : Rdr).int).2).int).1))), (8, (i64 (((((((⟨bs, 0, 0⟩ : Rdr).int).2).int).2).int).1))), (9, (i64 (((((((((⟨bs, 0, 0⟩ : Rdr).int).2).int).2).int).2).int).1))), (10, (i64 ((((((((((((((((((((((⟨bs, 0, 0⟩ : Rdr).int).2).int).2).int).2).int).2).int).2).int).2).int).2).int).2).bool_).2).sized 4096).1 : Nat) : Int))), (11, (i64 0))]) (by kernel_rfl) ?_
    refine q_loop (fun (gs : (Option Addr) × Nat × Nat × (List EntP) × Rdr) L (wx : World) => match gs with | (VA, vc, i, l, R) => L = [(2, (ptr b1)), (3, (i64 0)), (4, (ptr b13)), (5, (ptr b25)), (6, (i64 (((⟨bs, 0, 0⟩ : Rdr).int).1))), (7, (i64 (((((⟨bs, 0, 0⟩ : Rdr).int).2).int).1))), (8, (i64 (((((((⟨bs, 0, 0⟩ : Rdr).int).2).int).2).int).1))), (9, (i64 (((((((((⟨bs, 0, 0⟩ : Rdr).int).2).int).2).int).2).int).1))), (10, (i64 ((((((((((((((((((((((⟨bs, 0, 0⟩ : Rdr).int).2).int).2).int).2).int).2).int).2).int).2).int).2).int).2).bool_).2).sized 4096).1 : Nat) : Int))), (11, (i64 ((i : Nat) : Int)))] ∧ RdO wx A14 c15 R.bs ∧ OwnE wx w.heap.size 97 (Value.slice VA l.length vc) l ∧ (∀ i, ((Value.slice VA l.length vc)).ownBlock = some i → i ≠ b1) ∧ (∀ i, ((Value.slice VA l.length vc)).ownBlock = some i → i ≠ b13) ∧ (∀ i, ((Value.slice VA l.length vc)).ownBlock = some i → i ≠ b25) ∧ (∀ i o s, A14 = some ⟨i, o, s⟩ → ((Value.slice VA l.length vc)).ownBlock = some i → False) ∧ EntsMine 5 wx w.heap.size (.slice VA l.length vc) l ∧ (∀ x ∈ l, ∀ g o s, x.A = some ⟨g, o, s⟩ → g ≠ b1) ∧ (∀ x ∈ l, ∀ g o s, x.A = some ⟨g, o, s⟩ → g ≠ b13) ∧ (∀ x ∈ l, ∀ g o s, x.A = some ⟨g, o, s⟩ → g ≠ b25) ∧ R.Ok ∧ l.map EntP.key ++ (Rdr.ents ((⟨bs, 0, 0⟩ : Rdr).mcnt.1 - i) R).1 = (Rdr.ents (⟨bs, 0, 0⟩ : Rdr).mcnt.1 (⟨bs, 0, 0⟩ : Rdr).mcnt.2).1 ∧ (Rdr.ents ((⟨bs, 0, 0⟩ : Rdr).mcnt.1 - i) R).2 = (Rdr.ents (⟨bs, 0, 0⟩ : Rdr).mcnt.1 (⟨bs, 0, 0⟩ : Rdr).mcnt.2).2 ∧ i ≤ (⟨bs, 0, 0⟩ : Rdr).mcnt.1 ∧ l.length ≤ i ∧ EntsOk l ∧ Keeps none_ w wx ∧ Has wx b1 (rowL [(i64 0), (i64 0), (i64 0), (i64 0), (i64 0), (i64 0), (i64 0), (i64 0), (Value.bool false), (Value.slice none 0 0), (Value.slice none 0 0)] 49) ∧ Has wx b13 (rowL (rdrL A14 c15 R) 72) ∧ Has wx b25 (rowL [(i64 0), (i64 0), (i64 0), (i64 0), (i64 (((((((((((⟨bs, 0, 0⟩ : Rdr).int).2).int).2).int).2).int).2).int).1)), (i64 (((((((((((((⟨bs, 0, 0⟩ : Rdr).int).2).int).2).int).2).int).2).int).2).int).1)), (i64 (((((((((((((((⟨bs, 0, 0⟩ : Rdr).int).2).int).2).int).2).int).2).int).2).int).2).int).1)), (i64 (((((((((((((((((⟨bs, 0, 0⟩ : Rdr).int).2).int).2).int).2).int).2).int).2).int).2).int).2).int).1)), (Value.bool (((((((((((((((((((⟨bs, 0, 0⟩ : Rdr).int).2).int).2).int).2).int).2).int).2).int).2).int).2).int).2).bool_).1)), (Value.slice VA l.length vc), (Value.slice none 0 0)] 49)) (fun (gs : (Option Addr) × Nat × Nat × (List EntP) × Rdr) => match gs with | (VA, vc, i, l, R) => (⟨bs, 0, 0⟩ : Rdr).mcnt.1 - i) (none, 0, 0, [], ((((((((((((((((((((⟨bs, 0, 0⟩ : Rdr).int).2).int).2).int).2).int).2).int).2).int).2).int).2).int).2).bool_).2).sized 4096).2) (by kernel_rfl) ⟨rfl, F106, (OwnT.nil _ _ _ _ _), (fun i hi => by cases hi), (fun i hi => by cases hi), (fun i hi => by cases hi), (fun _ _ _ _ h => by cases h), (EntsMine.nil _ _ _), (fun y hy => by cases hy), (fun y hy => by cases hy), (fun y hy => by cases hy), hok103, rfl, rfl, Nat.zero_le _, Nat.le_refl _, (fun y hy => by cases hy), K0, H4, H102, H98⟩ ?_
    clear H4 H102 H98 F106 K0
    rintro ⟨VA, vc, i, l, R⟩ _ w107 ⟨rfl, hRdA14, hOV, obVb1, obVb13, obVb25, ooVA14, hM, oeb1, oeb13, oeb25, hokR, hE, hF, hi, hll, hlo, K108, H109, H110, H111⟩
    have hMo := hM.own
    have hNle2 := hNle
    refine q_seq (by kernel_rfl) ?_
    refine q_seq (by kernel_rfl) ?_
    refine q_region (by kernel_rfl) ?_
    refine Ops.regs 4 [(2, (ptr b1)), (3, (i64 0)), (4, (ptr b13)), (5, (ptr b25)), (6, (i64 (((⟨bs, 0, 0⟩ : Rdr).int).1))), (7, (i64 (((((⟨bs, 0, 0⟩ : Rdr).int).2).int).1))), (8, (i64 (((((((⟨bs, 0, 0⟩ : Rdr).int).2).int).2).int).1))), (9, (i64 (((((((((⟨bs, 0, 0⟩ : Rdr).int).2).int).2).int).2).int).1))), (10, (i64 ((((((((((((((((((((((⟨bs, 0, 0⟩ : Rdr).int).2).int).2).int).2).int).2).int).2).int).2).int).2).int).2).bool_).2).sized 4096).1 : Nat) : Int))), (11, (i64 ((i : Nat) : Int))), (49, (Value.bool (decide (((i : Nat) : Int) < ((((((((((((((((((((((⟨bs, 0, 0⟩ : Rdr).int).2).int).2).int).2).int).2).int).2).int).2).int).2).int).2).bool_).2).sized 4096).1 : Nat) : Int)))))] (j := 4) (by kernel_rfl) (by kernel_rfl) ?_
    refine Ops.split (decide (((i : Nat) : Int) < ((((((((((((((((((((((⟨bs, 0, 0⟩ : Rdr).int).2).int).2).int).2).int).2).int).2).int).2).int).2).int).2).bool_).2).sized 4096).1 : Nat) : Int))) (fun h112 => ?_) (fun h112 => ?_)
    · rw [h112]
      have p113 : ((i : Nat) : Int) < ((((((((((((((((((((((⟨bs, 0, 0⟩ : Rdr).int).2).int).2).int).2).int).2).int).2).int).2).int).2).int).2).bool_).2).sized 4096).1 : Nat) : Int) := of_decide_eq_true h112
      refine Ops.regs 3 [(2, (ptr b1)), (3, (i64 0)), (4, (ptr b13)), (5, (ptr b25)), (6, (i64 (((⟨bs, 0, 0⟩ : Rdr).int).1))), (7, (i64 (((((⟨bs, 0, 0⟩ : Rdr).int).2).int).1))), (8, (i64 (((((((⟨bs, 0, 0⟩ : Rdr).int).2).int).2).int).1))), (9, (i64 (((((((((⟨bs, 0, 0⟩ : Rdr).int).2).int).2).int).2).int).1))), (10, (i64 ((((((((((((((((((((((⟨bs, 0, 0⟩ : Rdr).int).2).int).2).int).2).int).2).int).2).int).2).int).2).int).2).bool_).2).sized 4096).1 : Nat) : Int))), (11, (i64 ((i : Nat) : Int))), (49, (Value.bool true)), (52, (Value.pointer (some ⟨b13, 2, none⟩)))] (j := 7) (by kernel_rfl) (by kernel_rfl) ?_
      refine Ops.go (v := (i64 R.why)) (by kernel_rfl) (Runs.load (t := 28) (a := ⟨b13, 2, none⟩) (by kernel_rfl) (H110.loads (by kernel_rfl))) (d := (some 53)) (by kernel_rfl) rfl ?_
      refine Ops.regs 2 [(2, (ptr b1)), (3, (i64 0)), (4, (ptr b13)), (5, (ptr b25)), (6, (i64 (((⟨bs, 0, 0⟩ : Rdr).int).1))), (7, (i64 (((((⟨bs, 0, 0⟩ : Rdr).int).2).int).1))), (8, (i64 (((((((⟨bs, 0, 0⟩ : Rdr).int).2).int).2).int).1))), (9, (i64 (((((((((⟨bs, 0, 0⟩ : Rdr).int).2).int).2).int).2).int).1))), (10, (i64 ((((((((((((((((((((((⟨bs, 0, 0⟩ : Rdr).int).2).int).2).int).2).int).2).int).2).int).2).int).2).int).2).bool_).2).sized 4096).1 : Nat) : Int))), (11, (i64 ((i : Nat) : Int))), (55, (Value.bool (R.why == 0)))] (j := 10) (by kernel_rfl) (by kernel_rfl) ?_
      refine Ops.done (by kernel_rfl) ?_
      refine q_cond (o := .tmp 55) (b := (R.why == 0)) (by kernel_rfl) rfl (fun h114 => ?_) (fun h114 => ?_)
      · rw [h114]
        have p115 : R.why = 0 := of_beq_t h114
        refine q_skip (by kernel_rfl) ?_
        refine q_seq (by kernel_rfl) ?_
        refine q_block (id := 1) (by kernel_rfl) ?_
        refine q_seq (by kernel_rfl) ?_
        refine q_region (by kernel_rfl) ?_
        refine Ops.regs 1 [(2, (ptr b1)), (3, (i64 0)), (4, (ptr b13)), (5, (ptr b25)), (6, (i64 (((⟨bs, 0, 0⟩ : Rdr).int).1))), (7, (i64 (((((⟨bs, 0, 0⟩ : Rdr).int).2).int).1))), (8, (i64 (((((((⟨bs, 0, 0⟩ : Rdr).int).2).int).2).int).1))), (9, (i64 (((((((((⟨bs, 0, 0⟩ : Rdr).int).2).int).2).int).2).int).1))), (10, (i64 ((((((((((((((((((((((⟨bs, 0, 0⟩ : Rdr).int).2).int).2).int).2).int).2).int).2).int).2).int).2).int).2).bool_).2).sized 4096).1 : Nat) : Int))), (11, (i64 ((i : Nat) : Int))), (55, (Value.bool true)), (58, (ptr b13))] (j := 1) (by kernel_rfl) (by kernel_rfl) ?_
        refine Ops.call (by kernel_rfl) (d := (some 59)) (by kernel_rfl) (RRInt_calls _ b13 A14 c15 R hokR H110 hRdA14 hne21 ) ?_
        rintro _ w116 ⟨rfl, K117, H118⟩
        have hok119 : (R.int).2.Ok := Rdr.Ok.int hokR
        have hu120 := Rdr.int_range R
        refine ⟨_, _, rfl, rfl, ?_⟩
        replace K108 := K108.trans K117 (U := none_) (fun i h1 h2 => h2) (fun i h1 h2 => by have h2 : i = b13 := h2; exfalso; omega)
        replace H109 := H109.keep K117 (by intro h; change b1 = b13 at h; omega)
        replace H111 := H111.keep K117 (by intro h; change b25 = b13 at h; omega)
        replace hRdA14 := RdO.keep hRdA14 K117 (fun i _ _ hi hs => by have hs : i = b13 := hs; have := hne21 i _ _ hi; omega)
        replace hOV := own_keep hOV K117 (fun i hi hs => by have hs : i = b13 := hs; have := obVb13 i hi; omega)
        replace hM := EntsMine.keep2 hM K117 (fun x hx i o s hA hs => by have hs : i = b13 := hs; exact oeb13 x hx i o s hA hs)
        clear K117
        have F121 : RdO w116 A14 c15 (R.int).2.bs := by rw [Rdr.int_bs]; exact hRdA14
        clear hRdA14
        refine Ops.regs 1 [(2, (ptr b1)), (3, (i64 0)), (4, (ptr b13)), (5, (ptr b25)), (6, (i64 (((⟨bs, 0, 0⟩ : Rdr).int).1))), (7, (i64 (((((⟨bs, 0, 0⟩ : Rdr).int).2).int).1))), (8, (i64 (((((((⟨bs, 0, 0⟩ : Rdr).int).2).int).2).int).1))), (9, (i64 (((((((((⟨bs, 0, 0⟩ : Rdr).int).2).int).2).int).2).int).1))), (10, (i64 ((((((((((((((((((((((⟨bs, 0, 0⟩ : Rdr).int).2).int).2).int).2).int).2).int).2).int).2).int).2).int).2).bool_).2).sized 4096).1 : Nat) : Int))), (11, (i64 ((i : Nat) : Int))), (12, (i64 ((R.int).1))), (55, (Value.bool true))] (j := 3) (by kernel_rfl) (by kernel_rfl) ?_
        refine Ops.done (by kernel_rfl) ?_
        refine q_seq (by kernel_rfl) ?_
        refine q_region (by kernel_rfl) ?_
        refine Ops.regs 1 [(2, (ptr b1)), (3, (i64 0)), (4, (ptr b13)), (5, (ptr b25)), (6, (i64 (((⟨bs, 0, 0⟩ : Rdr).int).1))), (7, (i64 (((((⟨bs, 0, 0⟩ : Rdr).int).2).int).1))), (8, (i64 (((((((⟨bs, 0, 0⟩ : Rdr).int).2).int).2).int).1))), (9, (i64 (((((((((⟨bs, 0, 0⟩ : Rdr).int).2).int).2).int).2).int).1))), (10, (i64 ((((((((((((((((((((((⟨bs, 0, 0⟩ : Rdr).int).2).int).2).int).2).int).2).int).2).int).2).int).2).int).2).bool_).2).sized 4096).1 : Nat) : Int))), (11, (i64 ((i : Nat) : Int))), (12, (i64 ((R.int).1))), (55, (Value.bool true)), (60, (ptr b13))] (j := 1) (by kernel_rfl) (by kernel_rfl) ?_
        refine Ops.call (by kernel_rfl) (d := (some 61)) (by kernel_rfl) (RRBytes_calls _ b13 A14 c15 ((R.int).2) hok119 H118 F121 hne21 ) ?_
        rintro _ w122 ⟨v127, rfl, K123, hO128, H124⟩
        obtain ⟨A137, c138, hf139⟩ := RdB.form (OwnB.rd hO128)
        subst hf139
        have hok125 : (((R.int).2).bytes).2.Ok := Rdr.Ok.bytes hok119
        have hu126 := Rdr.bytes_le hok119
        have ob130 : ∀ i, ((Value.slice A137 (((((R.int).2).bytes).1).length) c138)).ownBlock = some i → i ≠ b1 := fun i hi => by have := (World.ownsRow.lt hO128 i hi).1; have := H109.lt; omega
        have ob131 : ∀ i, ((Value.slice A137 (((((R.int).2).bytes).1).length) c138)).ownBlock = some i → i ≠ b13 := fun i hi => by have := (World.ownsRow.lt hO128 i hi).1; have := H118.lt; omega
        have ob132 : ∀ i, ((Value.slice A137 (((((R.int).2).bytes).1).length) c138)).ownBlock = some i → i ≠ b25 := fun i hi => by have := (World.ownsRow.lt hO128 i hi).1; have := H111.lt; omega
        have oo133 : ∀ i o s, A14 = some ⟨i, o, s⟩ → ((Value.slice A137 (((((R.int).2).bytes).1).length) c138)).ownBlock = some i → False := fun i o s hi hs => by have := (World.ownsRow.lt hO128 i hs).1; have := F121.2 i o s hi; omega
        have oo135 : ∀ i, ((Value.slice VA l.length vc)).ownBlock = some i → ((Value.slice A137 (((((R.int).2).bytes).1).length) c138)).ownBlock = some i → False := fun i hi hs => by have := (World.ownsRow.lt hO128 i hs).1; have := (World.ownsRow.lt hOV i hi).2; omega
        have oo136 : ∀ i, ((Value.slice A137 (((((R.int).2).bytes).1).length) c138)).ownBlock = some i → ((Value.slice VA l.length vc)).ownBlock = some i → False := fun i hi hs => oo135 i hs hi
        have O129 := own_base hO128 K108.size
        clear hO128
        refine ⟨_, _, rfl, rfl, ?_⟩
        replace K108 := K108.trans K123 (U := none_) (fun i h1 h2 => h2) (fun i h1 h2 => by have h2 : i = b13 := h2; exfalso; omega)
        replace H109 := H109.keep K123 (by intro h; change b1 = b13 at h; omega)
        replace H111 := H111.keep K123 (by intro h; change b25 = b13 at h; omega)
        replace F121 := RdO.keep F121 K123 (fun i _ _ hi hs => by have hs : i = b13 := hs; have := hne21 i _ _ hi; omega)
        replace hOV := own_keep hOV K123 (fun i hi hs => by have hs : i = b13 := hs; have := obVb13 i hi; omega)
        replace hM := EntsMine.keep2 hM K123 (fun x hx i o s hA hs => by have hs : i = b13 := hs; exact oeb13 x hx i o s hA hs)
        clear K123
        have F140 : RdO w122 A14 c15 (((R.int).2).bytes).2.bs := by rw [Rdr.bytes_bs]; exact F121
        clear F121
        refine Ops.regs 1 [(2, (ptr b1)), (3, (i64 0)), (4, (ptr b13)), (5, (ptr b25)), (6, (i64 (((⟨bs, 0, 0⟩ : Rdr).int).1))), (7, (i64 (((((⟨bs, 0, 0⟩ : Rdr).int).2).int).1))), (8, (i64 (((((((⟨bs, 0, 0⟩ : Rdr).int).2).int).2).int).1))), (9, (i64 (((((((((⟨bs, 0, 0⟩ : Rdr).int).2).int).2).int).2).int).1))), (10, (i64 ((((((((((((((((((((((⟨bs, 0, 0⟩ : Rdr).int).2).int).2).int).2).int).2).int).2).int).2).int).2).int).2).bool_).2).sized 4096).1 : Nat) : Int))), (11, (i64 ((i : Nat) : Int))), (12, (i64 ((R.int).1))), (13, (Value.slice A137 (((((R.int).2).bytes).1).length) c138)), (55, (Value.bool true))] (j := 3) (by kernel_rfl) (by kernel_rfl) ?_
        refine Ops.done (by kernel_rfl) ?_
        refine q_region (by kernel_rfl) ?_
        refine Ops.regs 1 [(2, (ptr b1)), (3, (i64 0)), (4, (ptr b13)), (5, (ptr b25)), (6, (i64 (((⟨bs, 0, 0⟩ : Rdr).int).1))), (7, (i64 (((((⟨bs, 0, 0⟩ : Rdr).int).2).int).1))), (8, (i64 (((((((⟨bs, 0, 0⟩ : Rdr).int).2).int).2).int).1))), (9, (i64 (((((((((⟨bs, 0, 0⟩ : Rdr).int).2).int).2).int).2).int).1))), (10, (i64 ((((((((((((((((((((((⟨bs, 0, 0⟩ : Rdr).int).2).int).2).int).2).int).2).int).2).int).2).int).2).int).2).bool_).2).sized 4096).1 : Nat) : Int))), (11, (i64 ((i : Nat) : Int))), (12, (i64 ((R.int).1))), (13, (Value.slice A137 (((((R.int).2).bytes).1).length) c138)), (55, (Value.bool true)), (62, (Value.pointer (some ⟨b25, 9, none⟩)))] (j := 1) (by kernel_rfl) (by kernel_rfl) ?_
        refine Ops.go (v := (Value.slice VA l.length vc)) (by kernel_rfl) (Runs.load (t := 47) (a := ⟨b25, 9, none⟩) (by kernel_rfl) (H111.loads (by kernel_rfl))) (d := (some 63)) (by kernel_rfl) rfl ?_
        refine Ops.regs 3 [(2, (ptr b1)), (3, (i64 0)), (4, (ptr b13)), (5, (ptr b25)), (6, (i64 (((⟨bs, 0, 0⟩ : Rdr).int).1))), (7, (i64 (((((⟨bs, 0, 0⟩ : Rdr).int).2).int).1))), (8, (i64 (((((((⟨bs, 0, 0⟩ : Rdr).int).2).int).2).int).1))), (9, (i64 (((((((((⟨bs, 0, 0⟩ : Rdr).int).2).int).2).int).2).int).1))), (10, (i64 ((((((((((((((((((((((⟨bs, 0, 0⟩ : Rdr).int).2).int).2).int).2).int).2).int).2).int).2).int).2).int).2).bool_).2).sized 4096).1 : Nat) : Int))), (11, (i64 ((i : Nat) : Int))), (12, (i64 ((R.int).1))), (13, (Value.slice A137 (((((R.int).2).bytes).1).length) c138)), (55, (Value.bool true)), (63, (Value.slice VA l.length vc)), (66, (agg [(i64 ((R.int).1)), (Value.slice A137 (((((R.int).2).bytes).1).length) c138)]))] (j := 5) (by kernel_rfl) (by kernel_rfl) ?_
        refine Ops.new (o := rowL [(i64 ((R.int).1)), (Value.slice A137 (((((R.int).2).bytes).1).length) c138)] 97) (V := fun b => (Value.slice (some ⟨b, 0, none⟩) 1 1)) (by kernel_rfl) (d := (some 67)) (by kernel_rfl) (fun b => rfl) (fun b141 w142 hb143 H144 K145 hs146 => ?_)
        have lb141b1 : b1 < b141 := by have := H109.lt; omega
        have lb141b13 : b13 < b141 := by have := H124.lt; omega
        have lb141b25 : b25 < b141 := by have := H111.lt; omega
        have nb141 : w.heap.size ≤ b141 := by have := K108.size; omega
        have ob147 : ∀ i o s, A14 = some ⟨i, o, s⟩ → i ≠ b141 := fun i o s hi => by have := F140.2 i o s hi; omega
        have ob148 : ∀ i, ((Value.slice VA l.length vc)).ownBlock = some i → i < b141 := fun i hi => by have := (World.ownsRow.lt hOV i hi).2; omega
        have oe149 := EntsMine.new (c := b141) hM (by omega)
        have ob150 : ∀ i, ((Value.slice A137 (((((R.int).2).bytes).1).length) c138)).ownBlock = some i → i < b141 := fun i hi => by have := (World.ownsRow.lt O129 i hi).2; omega
        replace K108 := K108.trans K145 (U := none_) (fun i h1 h2 => h2) (fun i h1 h2 => by exact h2)
        replace H109 := H109.keep K145 (fun h => h)
        replace H124 := H124.keep K145 (fun h => h)
        replace H111 := H111.keep K145 (fun h => h)
        replace F140 := RdO.keep0 F140 K145
        replace hOV := own_keep0 hOV K145
        replace hM := hM.keep2 K145 (fun _ _ _ _ _ _ h => h)
        replace O129 := own_keep0 O129 K145
        clear K145 hs146
        obtain ⟨v151, w152, hr153, hO154, hK155, hg156⟩ := OwnT.app (ty := 47) EntP.two EntP.one tyE hOV (show RdT _ 2 EntP.cells _ [(⟨(R.int).1, A137, c138, (((R.int).2).bytes).1⟩ : EntP)] from Rd.lit H144 (n := 1) rfl (by decide)) (by simp only [List.length_cons, List.length_nil]; omega) (by simp only [List.length_cons, List.length_nil]; omega) K108.size
        obtain ⟨A158, c159, rfl⟩ := RdT.form EntP.two (by decide) (OwnT.rd hO154)
        have ob160 : ∀ i, ((Value.slice A158 ((l ++ [(⟨(R.int).1, A137, c138, (((R.int).2).bytes).1⟩ : EntP)]).length) c159)).ownBlock = some i → i ≠ b1 := fun i hi => by rcases hg156 i hi with h | h; (have := obVb1 i h; omega); (have := H109.lt; omega)
        have ob161 : ∀ i, ((Value.slice A158 ((l ++ [(⟨(R.int).1, A137, c138, (((R.int).2).bytes).1⟩ : EntP)]).length) c159)).ownBlock = some i → i ≠ b13 := fun i hi => by rcases hg156 i hi with h | h; (have := obVb13 i h; omega); (have := H124.lt; omega)
        have ob162 : ∀ i, ((Value.slice A158 ((l ++ [(⟨(R.int).1, A137, c138, (((R.int).2).bytes).1⟩ : EntP)]).length) c159)).ownBlock = some i → i ≠ b25 := fun i hi => by rcases hg156 i hi with h | h; (have := obVb25 i h; omega); (have := H111.lt; omega)
        have ob163 : ∀ i, ((Value.slice A158 ((l ++ [(⟨(R.int).1, A137, c138, (((R.int).2).bytes).1⟩ : EntP)]).length) c159)).ownBlock = some i → i ≠ b141 := fun i hi => by rcases hg156 i hi with h | h; (have := ob148 i h; omega); (have := H144.lt; omega)
        have oo164 : ∀ i o s, A14 = some ⟨i, o, s⟩ → ((Value.slice A158 ((l ++ [(⟨(R.int).1, A137, c138, (((R.int).2).bytes).1⟩ : EntP)]).length) c159)).ownBlock = some i → False := fun i o s hi hs => by rcases hg156 i hs with h | h; (exact ooVA14 i o s hi h); (have := F140.2 i o s hi; omega)
        have oo165 : ∀ i, ((Value.slice A137 (((((R.int).2).bytes).1).length) c138)).ownBlock = some i → ((Value.slice A158 ((l ++ [(⟨(R.int).1, A137, c138, (((R.int).2).bytes).1⟩ : EntP)]).length) c159)).ownBlock = some i → False := fun i hi hs => by rcases hg156 i hs with h | h; (exact oo136 i hi h); (have := (World.ownsRow.lt O129 i hi).2; omega)
        have oo166 : ∀ i, ((Value.slice A158 ((l ++ [(⟨(R.int).1, A137, c138, (((R.int).2).bytes).1⟩ : EntP)]).length) c159)).ownBlock = some i → ((Value.slice A137 (((((R.int).2).bytes).1).length) c138)).ownBlock = some i → False := fun i hi hs => oo165 i hs hi
        have K157 := hK155
        refine Ops.go (v := (Value.slice A158 ((l ++ [(⟨(R.int).1, A137, c138, (((R.int).2).bytes).1⟩ : EntP)]).length) c159)) (by kernel_rfl) (Runs.append (ts := #[47, 47]) (ty := 47) (vs := [(Value.slice VA l.length vc), (Value.slice (some ⟨b141, 0, none⟩) 1 1)]) (by kernel_rfl) hr153) (d := (some 68)) (by kernel_rfl) rfl ?_
        have hlE167 := EntsMine.lt_add (x := (⟨(R.int).1, A137, c138, (((R.int).2).bytes).1⟩ : EntP)) hM O129
        replace K108 := K108.trans K157 (U := none_) (fun i h1 h2 => h2) (fun i h1 h2 => by have h2 : ((Value.slice VA l.length vc)).ownBlock = some i := h2; exfalso; have := (World.ownsRow.lt hOV i h2).1; omega)
        replace H109 := H109.keep K157 (by intro h; change ((Value.slice VA l.length vc)).ownBlock = some b1 at h; have := obVb1 b1 h; omega)
        replace H124 := H124.keep K157 (by intro h; change ((Value.slice VA l.length vc)).ownBlock = some b13 at h; have := obVb13 b13 h; omega)
        replace H111 := H111.keep K157 (by intro h; change ((Value.slice VA l.length vc)).ownBlock = some b25 at h; have := obVb25 b25 h; omega)
        replace H144 := H144.keep K157 (by intro h; change ((Value.slice VA l.length vc)).ownBlock = some b141 at h; have := ob148 b141 h; omega)
        replace F140 := RdO.keep F140 K157 (fun i _ _ hi hs => by have hs : ((Value.slice VA l.length vc)).ownBlock = some i := hs; exact ooVA14 i _ _ hi hs)
        clear hOV
        replace hM := EntsMine.keep2 hM K157 (fun x hx i o s hA hs => by have hs : ((Value.slice VA l.length vc)).ownBlock = some i := hs; exact hMo x hx i o s hA hs)
        replace O129 := own_keep O129 K157 (fun i hi hs => by have hs : ((Value.slice VA l.length vc)).ownBlock = some i := hs; exact oo136 i hi hs)
        have hM168 : EntsMine 5 w152 w.heap.size (Value.slice A158 ((l ++ [(⟨(R.int).1, A137, c138, (((R.int).2).bytes).1⟩ : EntP)]).length) c159) (l ++ [(⟨(R.int).1, A137, c138, (((R.int).2).bytes).1⟩ : EntP)]) := EntsMine.add (x := (⟨(R.int).1, A137, c138, (((R.int).2).bytes).1⟩ : EntP)) hM O129 hlE167 hg156 (fun g o s hA hv => oo135 g hv (by have hA2 : A137 = some ⟨g, o, s⟩ := hA; rw [hA2]; rfl))
        have oe169 : ∀ y ∈ (l ++ [(⟨(R.int).1, A137, c138, (((R.int).2).bytes).1⟩ : EntP)]), ∀ g o s, y.A = some ⟨g, o, s⟩ → g ≠ b1 := ne_add oeb1 (fun i hi => by have := ob130 i hi; omega)
        have oe170 : ∀ y ∈ (l ++ [(⟨(R.int).1, A137, c138, (((R.int).2).bytes).1⟩ : EntP)]), ∀ g o s, y.A = some ⟨g, o, s⟩ → g ≠ b13 := ne_add oeb13 (fun i hi => by have := ob131 i hi; omega)
        have oe171 : ∀ y ∈ (l ++ [(⟨(R.int).1, A137, c138, (((R.int).2).bytes).1⟩ : EntP)]), ∀ g o s, y.A = some ⟨g, o, s⟩ → g ≠ b25 := ne_add oeb25 (fun i hi => by have := ob132 i hi; omega)
        have oe172 : ∀ y ∈ (l ++ [(⟨(R.int).1, A137, c138, (((R.int).2).bytes).1⟩ : EntP)]), ∀ g o s, y.A = some ⟨g, o, s⟩ → g ≠ b141 := ne_add oe149 (fun i hi => by have := ob150 i hi; omega)
        clear hM
        clear K157 hr153 hK155 hg156
        refine Ops.regs 1 [(2, (ptr b1)), (3, (i64 0)), (4, (ptr b13)), (5, (ptr b25)), (6, (i64 (((⟨bs, 0, 0⟩ : Rdr).int).1))), (7, (i64 (((((⟨bs, 0, 0⟩ : Rdr).int).2).int).1))), (8, (i64 (((((((⟨bs, 0, 0⟩ : Rdr).int).2).int).2).int).1))), (9, (i64 (((((((((⟨bs, 0, 0⟩ : Rdr).int).2).int).2).int).2).int).1))), (10, (i64 ((((((((((((((((((((((⟨bs, 0, 0⟩ : Rdr).int).2).int).2).int).2).int).2).int).2).int).2).int).2).int).2).bool_).2).sized 4096).1 : Nat) : Int))), (11, (i64 ((i : Nat) : Int))), (12, (i64 ((R.int).1))), (13, (Value.slice A137 (((((R.int).2).bytes).1).length) c138)), (55, (Value.bool true)), (68, (Value.slice A158 ((l ++ [(⟨(R.int).1, A137, c138, (((R.int).2).bytes).1⟩ : EntP)]).length) c159)), (69, (Value.pointer (some ⟨b25, 9, none⟩)))] (j := 8) (by kernel_rfl) (by kernel_rfl) ?_
        refine Ops.put (t := 47) (b := b25) (off := 9) (v := (Value.slice A158 ((l ++ [(⟨(R.int).1, A137, c138, (((R.int).2).bytes).1⟩ : EntP)]).length) c159)) (ys := [(i64 0), (i64 0), (i64 0), (i64 0), (i64 (((((((((((⟨bs, 0, 0⟩ : Rdr).int).2).int).2).int).2).int).2).int).1)), (i64 (((((((((((((⟨bs, 0, 0⟩ : Rdr).int).2).int).2).int).2).int).2).int).2).int).1)), (i64 (((((((((((((((⟨bs, 0, 0⟩ : Rdr).int).2).int).2).int).2).int).2).int).2).int).2).int).1)), (i64 (((((((((((((((((⟨bs, 0, 0⟩ : Rdr).int).2).int).2).int).2).int).2).int).2).int).2).int).2).int).1)), (Value.bool (((((((((((((((((((⟨bs, 0, 0⟩ : Rdr).int).2).int).2).int).2).int).2).int).2).int).2).int).2).int).2).bool_).1)), (Value.slice A158 ((l ++ [(⟨(R.int).1, A137, c138, (((R.int).2).bytes).1⟩ : EntP)]).length) c159), (Value.slice none 0 0)]) (by kernel_rfl) (by kernel_rfl) H111 (by kernel_rfl) (d := none) (by kernel_rfl) rfl (fun w173 H174 K175 => ?_)
        clear H111
        replace K108 := K108.trans K175 (U := none_) (fun i h1 h2 => h2) (fun i h1 h2 => by have h2 : i = b25 := h2; exfalso; omega)
        replace H109 := H109.keep K175 (by intro h; change b1 = b25 at h; omega)
        replace H124 := H124.keep K175 (by intro h; change b13 = b25 at h; omega)
        replace H144 := H144.keep K175 (by intro h; change b141 = b25 at h; omega)
        replace F140 := RdO.keep F140 K175 (fun i _ _ hi hs => by have hs : i = b25 := hs; have := ob31 i _ _ hi; omega)
        replace O129 := own_keep O129 K175 (fun i hi hs => by have hs : i = b25 := hs; have := ob132 i hi; omega)
        replace hM168 := EntsMine.keep2 hM168 K175 (fun x hx i o s hA hs => by have hs : i = b25 := hs; exact oe171 x hx i o s hA hs)
        replace hO154 := own_keep hO154 K175 (fun i hi hs => by have hs : i = b25 := hs; have := ob162 i hi; omega)
        clear K175
        refine Ops.done (by kernel_rfl) ?_
        refine q_region (by kernel_rfl) ?_
        refine Ops.regs 2 [(2, (ptr b1)), (3, (i64 0)), (4, (ptr b13)), (5, (ptr b25)), (6, (i64 (((⟨bs, 0, 0⟩ : Rdr).int).1))), (7, (i64 (((((⟨bs, 0, 0⟩ : Rdr).int).2).int).1))), (8, (i64 (((((((⟨bs, 0, 0⟩ : Rdr).int).2).int).2).int).1))), (9, (i64 (((((((((⟨bs, 0, 0⟩ : Rdr).int).2).int).2).int).2).int).1))), (10, (i64 ((((((((((((((((((((((⟨bs, 0, 0⟩ : Rdr).int).2).int).2).int).2).int).2).int).2).int).2).int).2).int).2).bool_).2).sized 4096).1 : Nat) : Int))), (11, (i64 ((i : Nat) : Int))), (12, (i64 ((R.int).1))), (13, (Value.slice A137 (((((R.int).2).bytes).1).length) c138)), (55, (Value.bool true)), (57, (i64 (IntKind.i64.wrap (((i : Nat) : Int) + 1))))] (j := 2) (by kernel_rfl) (by kernel_rfl) ?_
        have e176 : IntKind.i64.wrap (((i : Nat) : Int) + 1) = ((i + 1 : Nat) : Int) := by rw [wrap_i64 (by omega) (by omega)]; omega
        rw [e176]
        clear e176
        refine Ops.regs 1 [(2, (ptr b1)), (3, (i64 0)), (4, (ptr b13)), (5, (ptr b25)), (6, (i64 (((⟨bs, 0, 0⟩ : Rdr).int).1))), (7, (i64 (((((⟨bs, 0, 0⟩ : Rdr).int).2).int).1))), (8, (i64 (((((((⟨bs, 0, 0⟩ : Rdr).int).2).int).2).int).1))), (9, (i64 (((((((((⟨bs, 0, 0⟩ : Rdr).int).2).int).2).int).2).int).1))), (10, (i64 ((((((((((((((((((((((⟨bs, 0, 0⟩ : Rdr).int).2).int).2).int).2).int).2).int).2).int).2).int).2).int).2).bool_).2).sized 4096).1 : Nat) : Int))), (11, (i64 ((i + 1 : Nat) : Int))), (12, (i64 ((R.int).1))), (13, (Value.slice A137 (((((R.int).2).bytes).1).length) c138)), (55, (Value.bool true))] (j := 3) (by kernel_rfl) (by kernel_rfl) ?_
        refine Ops.keep (R := [(2, (ptr b1)), (3, (i64 0)), (4, (ptr b13)), (5, (ptr b25)), (6, (i64 (((⟨bs, 0, 0⟩ : Rdr).int).1))), (7, (i64 (((((⟨bs, 0, 0⟩ : Rdr).int).2).int).1))), (8, (i64 (((((((⟨bs, 0, 0⟩ : Rdr).int).2).int).2).int).1))), (9, (i64 (((((((((⟨bs, 0, 0⟩ : Rdr).int).2).int).2).int).2).int).1))), (10, (i64 ((((((((((((((((((((((⟨bs, 0, 0⟩ : Rdr).int).2).int).2).int).2).int).2).int).2).int).2).int).2).int).2).bool_).2).sized 4096).1 : Nat) : Int))), (11, (i64 ((i + 1 : Nat) : Int)))]) (by kernel_rfl) ?_
        refine Ops.done (by kernel_rfl) ?_
        exact ⟨(A158, c159, i + 1, l ++ [(⟨(R.int).1, A137, c138, (((R.int).2).bytes).1⟩ : EntP)], (((R.int).2).bytes).2), ⟨rfl, F140, hO154, ob160, ob161, ob162, oo164, hM168, oe169, oe170, oe171, hok125, (by rw [List.map_append]; exact (Rdr.ents_next hE hF (by omega) (by omega)).1), (Rdr.ents_next hE hF (by omega) (by omega)).2, (by omega), (by simp only [List.length_append, List.length_cons, List.length_nil]; omega), (EntsOk.add hlo (by simp only; omega)), K108, H109, H124, H174⟩, (show (⟨bs, 0, 0⟩ : Rdr).mcnt.1 - (i + 1) < (⟨bs, 0, 0⟩ : Rdr).mcnt.1 - i from by omega)⟩
      · rw [h114]
        have p177 : ¬ (R.why = 0) := of_beq_f h114
        have hd := Rdr.ents_done hE hF (by omega)
        have hme : (⟨bs, 0, 0⟩ : Rdr).ments = (l.map EntP.key, R) := Prod.ext hd.1 hd.2
        have hmd : (⟨bs, 0, 0⟩ : Rdr).mdata = R.bytes := by unfold Rdr.mdata; rw [hme]
        refine q_exit (id := 0) (by kernel_rfl) ?_
        refine q_seq (by kernel_rfl) ?_
        refine q_region (by kernel_rfl) ?_
        refine Ops.regs 1 [(2, (ptr b1)), (3, (i64 0)), (4, (ptr b13)), (5, (ptr b25)), (6, (i64 (((⟨bs, 0, 0⟩ : Rdr).int).1))), (7, (i64 (((((⟨bs, 0, 0⟩ : Rdr).int).2).int).1))), (8, (i64 (((((((⟨bs, 0, 0⟩ : Rdr).int).2).int).2).int).1))), (9, (i64 (((((((((⟨bs, 0, 0⟩ : Rdr).int).2).int).2).int).2).int).1))), (70, (ptr b13))] (j := 1) (by kernel_rfl) (by kernel_rfl) ?_
        refine Ops.call (by kernel_rfl) (d := (some 71)) (by kernel_rfl) (RRBytes_calls _ b13 A14 c15 R hokR H110 hRdA14 hne21 ) ?_
        rintro _ w178 ⟨v183, rfl, K179, hO184, H180⟩
        obtain ⟨A193, c194, hf195⟩ := RdB.form (OwnB.rd hO184)
        subst hf195
        have hok181 : (R.bytes).2.Ok := Rdr.Ok.bytes hokR
        have hu182 := Rdr.bytes_le hokR
        have ob186 : ∀ i, ((Value.slice A193 (((R.bytes).1).length) c194)).ownBlock = some i → i ≠ b1 := fun i hi => by have := (World.ownsRow.lt hO184 i hi).1; have := H109.lt; omega
        have ob187 : ∀ i, ((Value.slice A193 (((R.bytes).1).length) c194)).ownBlock = some i → i ≠ b13 := fun i hi => by have := (World.ownsRow.lt hO184 i hi).1; have := H110.lt; omega
        have ob188 : ∀ i, ((Value.slice A193 (((R.bytes).1).length) c194)).ownBlock = some i → i ≠ b25 := fun i hi => by have := (World.ownsRow.lt hO184 i hi).1; have := H111.lt; omega
        have oo189 : ∀ i o s, A14 = some ⟨i, o, s⟩ → ((Value.slice A193 (((R.bytes).1).length) c194)).ownBlock = some i → False := fun i o s hi hs => by have := (World.ownsRow.lt hO184 i hs).1; have := hRdA14.2 i o s hi; omega
        have oo191 : ∀ i, ((Value.slice VA l.length vc)).ownBlock = some i → ((Value.slice A193 (((R.bytes).1).length) c194)).ownBlock = some i → False := fun i hi hs => by have := (World.ownsRow.lt hO184 i hs).1; have := (World.ownsRow.lt hOV i hi).2; omega
        have oo192 : ∀ i, ((Value.slice A193 (((R.bytes).1).length) c194)).ownBlock = some i → ((Value.slice VA l.length vc)).ownBlock = some i → False := fun i hi hs => oo191 i hs hi
        have O185 := own_base hO184 K108.size
        clear hO184
        refine ⟨_, _, rfl, rfl, ?_⟩
        replace K108 := K108.trans K179 (U := none_) (fun i h1 h2 => h2) (fun i h1 h2 => by have h2 : i = b13 := h2; exfalso; omega)
        replace H109 := H109.keep K179 (by intro h; change b1 = b13 at h; omega)
        replace H111 := H111.keep K179 (by intro h; change b25 = b13 at h; omega)
        replace hRdA14 := RdO.keep hRdA14 K179 (fun i _ _ hi hs => by have hs : i = b13 := hs; have := hne21 i _ _ hi; omega)
        replace hOV := own_keep hOV K179 (fun i hi hs => by have hs : i = b13 := hs; have := obVb13 i hi; omega)
        replace hM := EntsMine.keep2 hM K179 (fun x hx i o s hA hs => by have hs : i = b13 := hs; exact oeb13 x hx i o s hA hs)
        clear K179
        have F196 : RdO w178 A14 c15 (R.bytes).2.bs := by rw [Rdr.bytes_bs]; exact hRdA14
        clear hRdA14
        refine Ops.regs 1 [(2, (ptr b1)), (3, (i64 0)), (4, (ptr b13)), (5, (ptr b25)), (6, (i64 (((⟨bs, 0, 0⟩ : Rdr).int).1))), (7, (i64 (((((⟨bs, 0, 0⟩ : Rdr).int).2).int).1))), (8, (i64 (((((((⟨bs, 0, 0⟩ : Rdr).int).2).int).2).int).1))), (9, (i64 (((((((((⟨bs, 0, 0⟩ : Rdr).int).2).int).2).int).2).int).1))), (71, (Value.slice A193 (((R.bytes).1).length) c194)), (72, (Value.pointer (some ⟨b25, 10, none⟩)))] (j := 3) (by kernel_rfl) (by kernel_rfl) ?_
        refine Ops.put (t := 23) (b := b25) (off := 10) (v := (Value.slice A193 (((R.bytes).1).length) c194)) (ys := [(i64 0), (i64 0), (i64 0), (i64 0), (i64 (((((((((((⟨bs, 0, 0⟩ : Rdr).int).2).int).2).int).2).int).2).int).1)), (i64 (((((((((((((⟨bs, 0, 0⟩ : Rdr).int).2).int).2).int).2).int).2).int).2).int).1)), (i64 (((((((((((((((⟨bs, 0, 0⟩ : Rdr).int).2).int).2).int).2).int).2).int).2).int).2).int).1)), (i64 (((((((((((((((((⟨bs, 0, 0⟩ : Rdr).int).2).int).2).int).2).int).2).int).2).int).2).int).2).int).1)), (Value.bool (((((((((((((((((((⟨bs, 0, 0⟩ : Rdr).int).2).int).2).int).2).int).2).int).2).int).2).int).2).int).2).bool_).1)), (Value.slice VA l.length vc), (Value.slice A193 (((R.bytes).1).length) c194)]) (by kernel_rfl) (by kernel_rfl) H111 (by kernel_rfl) (d := none) (by kernel_rfl) rfl (fun w197 H198 K199 => ?_)
        clear H111
        replace K108 := K108.trans K199 (U := none_) (fun i h1 h2 => h2) (fun i h1 h2 => by have h2 : i = b25 := h2; exfalso; omega)
        replace H109 := H109.keep K199 (by intro h; change b1 = b25 at h; omega)
        replace H180 := H180.keep K199 (by intro h; change b13 = b25 at h; omega)
        replace F196 := RdO.keep F196 K199 (fun i _ _ hi hs => by have hs : i = b25 := hs; have := ob31 i _ _ hi; omega)
        replace hOV := own_keep hOV K199 (fun i hi hs => by have hs : i = b25 := hs; have := obVb25 i hi; omega)
        replace hM := EntsMine.keep2 hM K199 (fun x hx i o s hA hs => by have hs : i = b25 := hs; exact oeb25 x hx i o s hA hs)
        replace O185 := own_keep O185 K199 (fun i hi hs => by have hs : i = b25 := hs; have := ob188 i hi; omega)
        clear K199
        refine Ops.done (by kernel_rfl) ?_
        refine q_seq (by kernel_rfl) ?_
        refine q_region (by kernel_rfl) ?_
        refine Ops.regs 1 [(2, (ptr b1)), (3, (i64 0)), (5, (ptr b25)), (6, (i64 (((⟨bs, 0, 0⟩ : Rdr).int).1))), (7, (i64 (((((⟨bs, 0, 0⟩ : Rdr).int).2).int).1))), (8, (i64 (((((((⟨bs, 0, 0⟩ : Rdr).int).2).int).2).int).1))), (9, (i64 (((((((((⟨bs, 0, 0⟩ : Rdr).int).2).int).2).int).2).int).1))), (73, (ptr b13))] (j := 1) (by kernel_rfl) (by kernel_rfl) ?_
        refine Ops.call (by kernel_rfl) (d := (some 74)) (by kernel_rfl) (RREnd_calls _ b13 A14 c15 ((R.bytes).2) hok181 H180 F196 hne21) ?_
        rintro _ w200 ⟨rfl, K201⟩
        refine ⟨_, _, rfl, rfl, ?_⟩
        replace K108 := K108.trans K201 (U := none_) (fun i h1 h2 => h2) (fun i h1 h2 => by exact h2)
        replace H109 := H109.keep K201 (fun h => h)
        replace H180 := H180.keep K201 (fun h => h)
        replace H198 := H198.keep K201 (fun h => h)
        replace F196 := RdO.keep0 F196 K201
        replace hOV := own_keep0 hOV K201
        replace hM := hM.keep2 K201 (fun _ _ _ _ _ _ h => h)
        replace O185 := own_keep0 O185 K201
        clear K201
        refine Ops.regs 1 [(2, (ptr b1)), (3, (i64 0)), (5, (ptr b25)), (6, (i64 (((⟨bs, 0, 0⟩ : Rdr).int).1))), (7, (i64 (((((⟨bs, 0, 0⟩ : Rdr).int).2).int).1))), (8, (i64 (((((((⟨bs, 0, 0⟩ : Rdr).int).2).int).2).int).1))), (9, (i64 (((((((((⟨bs, 0, 0⟩ : Rdr).int).2).int).2).int).2).int).1))), (14, (i64 (((R.bytes).2).end_)))] (j := 3) (by kernel_rfl) (by kernel_rfl) ?_
        refine Ops.done (by kernel_rfl) ?_
        refine q_seq (by kernel_rfl) ?_
        refine q_seq (by kernel_rfl) ?_
        refine q_region (by kernel_rfl) ?_
        refine Ops.regs 2 [(2, (ptr b1)), (3, (i64 0)), (5, (ptr b25)), (6, (i64 (((⟨bs, 0, 0⟩ : Rdr).int).1))), (7, (i64 (((((⟨bs, 0, 0⟩ : Rdr).int).2).int).1))), (8, (i64 (((((((⟨bs, 0, 0⟩ : Rdr).int).2).int).2).int).1))), (9, (i64 (((((((((⟨bs, 0, 0⟩ : Rdr).int).2).int).2).int).2).int).1))), (14, (i64 (((R.bytes).2).end_))), (76, (Value.bool ((((R.bytes).2).end_) != 0)))] (j := 2) (by kernel_rfl) (by kernel_rfl) ?_
        refine Ops.done (by kernel_rfl) ?_
        refine q_cond (o := .tmp 76) (b := ((((R.bytes).2).end_) != 0)) (by kernel_rfl) rfl (fun h202 => ?_) (fun h202 => ?_)
        · rw [h202]
          have p203 : ¬ (((R.bytes).2).end_ = 0) := of_bne_t h202
          refine q_seq (by kernel_rfl) ?_
          refine q_region (by kernel_rfl) ?_
          refine Ops.regs 2 [(2, (ptr b1)), (3, (i64 0)), (5, (ptr b25)), (6, (i64 (((⟨bs, 0, 0⟩ : Rdr).int).1))), (7, (i64 (((((⟨bs, 0, 0⟩ : Rdr).int).2).int).1))), (8, (i64 (((((((⟨bs, 0, 0⟩ : Rdr).int).2).int).2).int).1))), (9, (i64 (((((((((⟨bs, 0, 0⟩ : Rdr).int).2).int).2).int).2).int).1))), (77, (agg [(i64 0), (i64 0), (i64 0), (i64 0), (i64 0), (i64 0), (i64 0), (i64 0), (Value.bool false), (Value.slice none 0 0), (Value.slice none 0 0)])), (78, (i64 (((R.bytes).2).end_)))] (j := 2) (by kernel_rfl) (by kernel_rfl) ?_
          refine Ops.put (t := 49) (b := b1) (off := 0) (v := (agg [(i64 0), (i64 0), (i64 0), (i64 0), (i64 0), (i64 0), (i64 0), (i64 0), (Value.bool false), (Value.slice none 0 0), (Value.slice none 0 0)])) (ys := [(i64 0), (i64 0), (i64 0), (i64 0), (i64 0), (i64 0), (i64 0), (i64 0), (Value.bool false), (Value.slice none 0 0), (Value.slice none 0 0)]) (by kernel_rfl) (by kernel_rfl) H109 (by kernel_rfl) (d := none) (by kernel_rfl) rfl (fun w204 H205 K206 => ?_)
          clear H109
          replace K108 := K108.trans K206 (U := none_) (fun i h1 h2 => h2) (fun i h1 h2 => by have h2 : i = b1 := h2; exfalso; omega)
          replace H180 := H180.keep K206 (by intro h; change b13 = b1 at h; omega)
          replace H198 := H198.keep K206 (by intro h; change b25 = b1 at h; omega)
          replace F196 := RdO.keep F196 K206 (fun i _ _ hi hs => by have hs : i = b1 := hs; have := ob24 i _ _ hi; omega)
          replace hOV := own_keep hOV K206 (fun i hi hs => by have hs : i = b1 := hs; have := obVb1 i hi; omega)
          replace hM := EntsMine.keep2 hM K206 (fun x hx i o s hA hs => by have hs : i = b1 := hs; exact oeb1 x hx i o s hA hs)
          replace O185 := own_keep O185 K206 (fun i hi hs => by have hs : i = b1 := hs; have := ob186 i hi; omega)
          clear K206
          refine Ops.regs 1 [(2, (ptr b1)), (3, (i64 (((R.bytes).2).end_))), (5, (ptr b25)), (6, (i64 (((⟨bs, 0, 0⟩ : Rdr).int).1))), (7, (i64 (((((⟨bs, 0, 0⟩ : Rdr).int).2).int).1))), (8, (i64 (((((((⟨bs, 0, 0⟩ : Rdr).int).2).int).2).int).1))), (9, (i64 (((((((((⟨bs, 0, 0⟩ : Rdr).int).2).int).2).int).2).int).1)))] (j := 4) (by kernel_rfl) (by kernel_rfl) ?_
          refine Ops.done (by kernel_rfl) ?_
          refine q_ret (by kernel_rfl) ?_
          refine ⟨(Value.tuple #[(agg [(i64 0), (i64 0), (i64 0), (i64 0), (i64 0), (i64 0), (i64 0), (i64 0), (Value.bool false), (Value.slice none 0 0), (Value.slice none 0 0)]), (i64 (((R.bytes).2).end_))]), retv_cell_tmp rfl rfl (H205.loads (by kernel_rfl)) rfl, ?_⟩
          exact ⟨(⟨0, 0, 0, 0, 0, 0, 0, 0, false, [], []⟩ : MsgP), none, none, 0, 0, ((R.bytes).2).end_, rfl, K108, ⟨by (try simp only); omega, by (try simp only); omega, by (try simp only); omega, by (try simp only); omega, by (try simp only); omega, by (try simp only); omega, by (try simp only); omega, by (try simp only); omega, fun x hx => by cases hx⟩, by unfold unmsgB; rw [if_neg (by omega), if_pos (by rw [hmd]; omega), hmd]; rfl, (OwnT.nil _ _ _ _ _), (EntsMine.nil _ _ _), (World.ownsRow_nil _ _ _ _)⟩
        · rw [h202]
          have p207 : ((R.bytes).2).end_ = 0 := of_bne_f h202
          refine q_skip (by kernel_rfl) ?_
          refine q_seq (by kernel_rfl) ?_
          refine q_seq (by kernel_rfl) ?_
          refine q_region (by kernel_rfl) ?_
          refine Ops.regs 3 [(2, (ptr b1)), (3, (i64 0)), (5, (ptr b25)), (6, (i64 (((⟨bs, 0, 0⟩ : Rdr).int).1))), (7, (i64 (((((⟨bs, 0, 0⟩ : Rdr).int).2).int).1))), (8, (i64 (((((((⟨bs, 0, 0⟩ : Rdr).int).2).int).2).int).1))), (9, (i64 (((((((((⟨bs, 0, 0⟩ : Rdr).int).2).int).2).int).2).int).1))), (81, (Value.bool (decide (((⟨bs, 0, 0⟩ : Rdr).int).1 < 1))))] (j := 3) (by kernel_rfl) (by kernel_rfl) ?_
          refine Ops.split (decide (((⟨bs, 0, 0⟩ : Rdr).int).1 < 1)) (fun h208 => ?_) (fun h208 => ?_)
          · rw [h208]
            have p209 : ((⟨bs, 0, 0⟩ : Rdr).int).1 < 1 := of_decide_eq_true h208
            refine Ops.regs 27 [(2, (ptr b1)), (3, (i64 0)), (5, (ptr b25)), (6, (i64 (((⟨bs, 0, 0⟩ : Rdr).int).1))), (7, (i64 (((((⟨bs, 0, 0⟩ : Rdr).int).2).int).1))), (8, (i64 (((((((⟨bs, 0, 0⟩ : Rdr).int).2).int).2).int).1))), (9, (i64 (((((((((⟨bs, 0, 0⟩ : Rdr).int).2).int).2).int).2).int).1))), (108, (Value.bool true))] (j := 30) (by kernel_rfl) (by kernel_rfl) ?_
            refine Ops.done (by kernel_rfl) ?_
            refine q_then (o := .tmp 108) (by kernel_rfl) rfl ?_
            refine q_seq (by kernel_rfl) ?_
            refine q_region (by kernel_rfl) ?_
            refine Ops.regs 1 [(2, (ptr b1)), (3, (i64 0)), (5, (ptr b25)), (6, (i64 (((⟨bs, 0, 0⟩ : Rdr).int).1))), (7, (i64 (((((⟨bs, 0, 0⟩ : Rdr).int).2).int).1))), (8, (i64 (((((((⟨bs, 0, 0⟩ : Rdr).int).2).int).2).int).1))), (9, (i64 (((((((((⟨bs, 0, 0⟩ : Rdr).int).2).int).2).int).2).int).1))), (109, (agg [(i64 0), (i64 0), (i64 0), (i64 0), (i64 0), (i64 0), (i64 0), (i64 0), (Value.bool false), (Value.slice none 0 0), (Value.slice none 0 0)]))] (j := 1) (by kernel_rfl) (by kernel_rfl) ?_
            refine Ops.put (t := 49) (b := b1) (off := 0) (v := (agg [(i64 0), (i64 0), (i64 0), (i64 0), (i64 0), (i64 0), (i64 0), (i64 0), (Value.bool false), (Value.slice none 0 0), (Value.slice none 0 0)])) (ys := [(i64 0), (i64 0), (i64 0), (i64 0), (i64 0), (i64 0), (i64 0), (i64 0), (Value.bool false), (Value.slice none 0 0), (Value.slice none 0 0)]) (by kernel_rfl) (by kernel_rfl) H109 (by kernel_rfl) (d := none) (by kernel_rfl) rfl (fun w210 H211 K212 => ?_)
            clear H109
            replace K108 := K108.trans K212 (U := none_) (fun i h1 h2 => h2) (fun i h1 h2 => by have h2 : i = b1 := h2; exfalso; omega)
            replace H180 := H180.keep K212 (by intro h; change b13 = b1 at h; omega)
            replace H198 := H198.keep K212 (by intro h; change b25 = b1 at h; omega)
            replace F196 := RdO.keep F196 K212 (fun i _ _ hi hs => by have hs : i = b1 := hs; have := ob24 i _ _ hi; omega)
            replace hOV := own_keep hOV K212 (fun i hi hs => by have hs : i = b1 := hs; have := obVb1 i hi; omega)
            replace hM := EntsMine.keep2 hM K212 (fun x hx i o s hA hs => by have hs : i = b1 := hs; exact oeb1 x hx i o s hA hs)
            replace O185 := own_keep O185 K212 (fun i hi hs => by have hs : i = b1 := hs; have := ob186 i hi; omega)
            clear K212
            refine Ops.regs 1 [(2, (ptr b1)), (3, (i64 1)), (5, (ptr b25)), (6, (i64 (((⟨bs, 0, 0⟩ : Rdr).int).1))), (7, (i64 (((((⟨bs, 0, 0⟩ : Rdr).int).2).int).1))), (8, (i64 (((((((⟨bs, 0, 0⟩ : Rdr).int).2).int).2).int).1))), (9, (i64 (((((((((⟨bs, 0, 0⟩ : Rdr).int).2).int).2).int).2).int).1)))] (j := 3) (by kernel_rfl) (by kernel_rfl) ?_
            refine Ops.done (by kernel_rfl) ?_
            refine q_ret (by kernel_rfl) ?_
            refine ⟨(Value.tuple #[(agg [(i64 0), (i64 0), (i64 0), (i64 0), (i64 0), (i64 0), (i64 0), (i64 0), (Value.bool false), (Value.slice none 0 0), (Value.slice none 0 0)]), (i64 1)]), retv_cell_tmp rfl rfl (H211.loads (by kernel_rfl)) rfl, ?_⟩
            exact ⟨(⟨0, 0, 0, 0, 0, 0, 0, 0, false, [], []⟩ : MsgP), none, none, 0, 0, 1, rfl, K108, ⟨by (try simp only); omega, by (try simp only); omega, by (try simp only); omega, by (try simp only); omega, by (try simp only); omega, by (try simp only); omega, by (try simp only); omega, by (try simp only); omega, fun x hx => by cases hx⟩, by unfold unmsgB; rw [if_neg (by omega), if_neg (by rw [hmd]; omega), if_neg (fun q => by unfold Rdr.mfit at q; simp only [Rdr.mint, Rdr.nth] at q; omega)]; rfl, (OwnT.nil _ _ _ _ _), (EntsMine.nil _ _ _), (World.ownsRow_nil _ _ _ _)⟩
          · rw [h208]
            have p213 : ¬ (((⟨bs, 0, 0⟩ : Rdr).int).1 < 1) := of_decide_eq_false h208
            refine Ops.regs 4 [(2, (ptr b1)), (3, (i64 0)), (5, (ptr b25)), (6, (i64 (((⟨bs, 0, 0⟩ : Rdr).int).1))), (7, (i64 (((((⟨bs, 0, 0⟩ : Rdr).int).2).int).1))), (8, (i64 (((((((⟨bs, 0, 0⟩ : Rdr).int).2).int).2).int).1))), (9, (i64 (((((((((⟨bs, 0, 0⟩ : Rdr).int).2).int).2).int).2).int).1))), (85, (Value.bool (decide (((⟨bs, 0, 0⟩ : Rdr).int).1 > 6))))] (j := 7) (by kernel_rfl) (by kernel_rfl) ?_
            refine Ops.split (decide (((⟨bs, 0, 0⟩ : Rdr).int).1 > 6)) (fun h214 => ?_) (fun h214 => ?_)
            · rw [h214]
              have p215 : ((⟨bs, 0, 0⟩ : Rdr).int).1 > 6 := of_decide_eq_true h214
              refine Ops.regs 23 [(2, (ptr b1)), (3, (i64 0)), (5, (ptr b25)), (6, (i64 (((⟨bs, 0, 0⟩ : Rdr).int).1))), (7, (i64 (((((⟨bs, 0, 0⟩ : Rdr).int).2).int).1))), (8, (i64 (((((((⟨bs, 0, 0⟩ : Rdr).int).2).int).2).int).1))), (9, (i64 (((((((((⟨bs, 0, 0⟩ : Rdr).int).2).int).2).int).2).int).1))), (108, (Value.bool true))] (j := 30) (by kernel_rfl) (by kernel_rfl) ?_
              refine Ops.done (by kernel_rfl) ?_
              refine q_then (o := .tmp 108) (by kernel_rfl) rfl ?_
              refine q_seq (by kernel_rfl) ?_
              refine q_region (by kernel_rfl) ?_
              refine Ops.regs 1 [(2, (ptr b1)), (3, (i64 0)), (5, (ptr b25)), (6, (i64 (((⟨bs, 0, 0⟩ : Rdr).int).1))), (7, (i64 (((((⟨bs, 0, 0⟩ : Rdr).int).2).int).1))), (8, (i64 (((((((⟨bs, 0, 0⟩ : Rdr).int).2).int).2).int).1))), (9, (i64 (((((((((⟨bs, 0, 0⟩ : Rdr).int).2).int).2).int).2).int).1))), (109, (agg [(i64 0), (i64 0), (i64 0), (i64 0), (i64 0), (i64 0), (i64 0), (i64 0), (Value.bool false), (Value.slice none 0 0), (Value.slice none 0 0)]))] (j := 1) (by kernel_rfl) (by kernel_rfl) ?_
              refine Ops.put (t := 49) (b := b1) (off := 0) (v := (agg [(i64 0), (i64 0), (i64 0), (i64 0), (i64 0), (i64 0), (i64 0), (i64 0), (Value.bool false), (Value.slice none 0 0), (Value.slice none 0 0)])) (ys := [(i64 0), (i64 0), (i64 0), (i64 0), (i64 0), (i64 0), (i64 0), (i64 0), (Value.bool false), (Value.slice none 0 0), (Value.slice none 0 0)]) (by kernel_rfl) (by kernel_rfl) H109 (by kernel_rfl) (d := none) (by kernel_rfl) rfl (fun w216 H217 K218 => ?_)
              clear H109
              replace K108 := K108.trans K218 (U := none_) (fun i h1 h2 => h2) (fun i h1 h2 => by have h2 : i = b1 := h2; exfalso; omega)
              replace H180 := H180.keep K218 (by intro h; change b13 = b1 at h; omega)
              replace H198 := H198.keep K218 (by intro h; change b25 = b1 at h; omega)
              replace F196 := RdO.keep F196 K218 (fun i _ _ hi hs => by have hs : i = b1 := hs; have := ob24 i _ _ hi; omega)
              replace hOV := own_keep hOV K218 (fun i hi hs => by have hs : i = b1 := hs; have := obVb1 i hi; omega)
              replace hM := EntsMine.keep2 hM K218 (fun x hx i o s hA hs => by have hs : i = b1 := hs; exact oeb1 x hx i o s hA hs)
              replace O185 := own_keep O185 K218 (fun i hi hs => by have hs : i = b1 := hs; have := ob186 i hi; omega)
              clear K218
              refine Ops.regs 1 [(2, (ptr b1)), (3, (i64 1)), (5, (ptr b25)), (6, (i64 (((⟨bs, 0, 0⟩ : Rdr).int).1))), (7, (i64 (((((⟨bs, 0, 0⟩ : Rdr).int).2).int).1))), (8, (i64 (((((((⟨bs, 0, 0⟩ : Rdr).int).2).int).2).int).1))), (9, (i64 (((((((((⟨bs, 0, 0⟩ : Rdr).int).2).int).2).int).2).int).1)))] (j := 3) (by kernel_rfl) (by kernel_rfl) ?_
              refine Ops.done (by kernel_rfl) ?_
              refine q_ret (by kernel_rfl) ?_
              refine ⟨(Value.tuple #[(agg [(i64 0), (i64 0), (i64 0), (i64 0), (i64 0), (i64 0), (i64 0), (i64 0), (Value.bool false), (Value.slice none 0 0), (Value.slice none 0 0)]), (i64 1)]), retv_cell_tmp rfl rfl (H217.loads (by kernel_rfl)) rfl, ?_⟩
              exact ⟨(⟨0, 0, 0, 0, 0, 0, 0, 0, false, [], []⟩ : MsgP), none, none, 0, 0, 1, rfl, K108, ⟨by (try simp only); omega, by (try simp only); omega, by (try simp only); omega, by (try simp only); omega, by (try simp only); omega, by (try simp only); omega, by (try simp only); omega, by (try simp only); omega, fun x hx => by cases hx⟩, by unfold unmsgB; rw [if_neg (by omega), if_neg (by rw [hmd]; omega), if_neg (fun q => by unfold Rdr.mfit at q; simp only [Rdr.mint, Rdr.nth] at q; omega)]; rfl, (OwnT.nil _ _ _ _ _), (EntsMine.nil _ _ _), (World.ownsRow_nil _ _ _ _)⟩
            · rw [h214]
              have p219 : ¬ (((⟨bs, 0, 0⟩ : Rdr).int).1 > 6) := of_decide_eq_false h214
              refine Ops.regs 4 [(2, (ptr b1)), (3, (i64 0)), (5, (ptr b25)), (6, (i64 (((⟨bs, 0, 0⟩ : Rdr).int).1))), (7, (i64 (((((⟨bs, 0, 0⟩ : Rdr).int).2).int).1))), (8, (i64 (((((((⟨bs, 0, 0⟩ : Rdr).int).2).int).2).int).1))), (9, (i64 (((((((((⟨bs, 0, 0⟩ : Rdr).int).2).int).2).int).2).int).1))), (89, (Value.bool (decide (((((⟨bs, 0, 0⟩ : Rdr).int).2).int).1 < 0))))] (j := 11) (by kernel_rfl) (by kernel_rfl) ?_
              refine Ops.split (decide (((((⟨bs, 0, 0⟩ : Rdr).int).2).int).1 < 0)) (fun h220 => ?_) (fun h220 => ?_)
              · rw [h220]
                have p221 : ((((⟨bs, 0, 0⟩ : Rdr).int).2).int).1 < 0 := of_decide_eq_true h220
                refine Ops.regs 19 [(2, (ptr b1)), (3, (i64 0)), (5, (ptr b25)), (6, (i64 (((⟨bs, 0, 0⟩ : Rdr).int).1))), (7, (i64 (((((⟨bs, 0, 0⟩ : Rdr).int).2).int).1))), (8, (i64 (((((((⟨bs, 0, 0⟩ : Rdr).int).2).int).2).int).1))), (9, (i64 (((((((((⟨bs, 0, 0⟩ : Rdr).int).2).int).2).int).2).int).1))), (108, (Value.bool true))] (j := 30) (by kernel_rfl) (by kernel_rfl) ?_
                refine Ops.done (by kernel_rfl) ?_
                refine q_then (o := .tmp 108) (by kernel_rfl) rfl ?_
                refine q_seq (by kernel_rfl) ?_
                refine q_region (by kernel_rfl) ?_
                refine Ops.regs 1 [(2, (ptr b1)), (3, (i64 0)), (5, (ptr b25)), (6, (i64 (((⟨bs, 0, 0⟩ : Rdr).int).1))), (7, (i64 (((((⟨bs, 0, 0⟩ : Rdr).int).2).int).1))), (8, (i64 (((((((⟨bs, 0, 0⟩ : Rdr).int).2).int).2).int).1))), (9, (i64 (((((((((⟨bs, 0, 0⟩ : Rdr).int).2).int).2).int).2).int).1))), (109, (agg [(i64 0), (i64 0), (i64 0), (i64 0), (i64 0), (i64 0), (i64 0), (i64 0), (Value.bool false), (Value.slice none 0 0), (Value.slice none 0 0)]))] (j := 1) (by kernel_rfl) (by kernel_rfl) ?_
                refine Ops.put (t := 49) (b := b1) (off := 0) (v := (agg [(i64 0), (i64 0), (i64 0), (i64 0), (i64 0), (i64 0), (i64 0), (i64 0), (Value.bool false), (Value.slice none 0 0), (Value.slice none 0 0)])) (ys := [(i64 0), (i64 0), (i64 0), (i64 0), (i64 0), (i64 0), (i64 0), (i64 0), (Value.bool false), (Value.slice none 0 0), (Value.slice none 0 0)]) (by kernel_rfl) (by kernel_rfl) H109 (by kernel_rfl) (d := none) (by kernel_rfl) rfl (fun w222 H223 K224 => ?_)
                clear H109
                replace K108 := K108.trans K224 (U := none_) (fun i h1 h2 => h2) (fun i h1 h2 => by have h2 : i = b1 := h2; exfalso; omega)
                replace H180 := H180.keep K224 (by intro h; change b13 = b1 at h; omega)
                replace H198 := H198.keep K224 (by intro h; change b25 = b1 at h; omega)
                replace F196 := RdO.keep F196 K224 (fun i _ _ hi hs => by have hs : i = b1 := hs; have := ob24 i _ _ hi; omega)
                replace hOV := own_keep hOV K224 (fun i hi hs => by have hs : i = b1 := hs; have := obVb1 i hi; omega)
                replace hM := EntsMine.keep2 hM K224 (fun x hx i o s hA hs => by have hs : i = b1 := hs; exact oeb1 x hx i o s hA hs)
                replace O185 := own_keep O185 K224 (fun i hi hs => by have hs : i = b1 := hs; have := ob186 i hi; omega)
                clear K224
                refine Ops.regs 1 [(2, (ptr b1)), (3, (i64 1)), (5, (ptr b25)), (6, (i64 (((⟨bs, 0, 0⟩ : Rdr).int).1))), (7, (i64 (((((⟨bs, 0, 0⟩ : Rdr).int).2).int).1))), (8, (i64 (((((((⟨bs, 0, 0⟩ : Rdr).int).2).int).2).int).1))), (9, (i64 (((((((((⟨bs, 0, 0⟩ : Rdr).int).2).int).2).int).2).int).1)))] (j := 3) (by kernel_rfl) (by kernel_rfl) ?_
                refine Ops.done (by kernel_rfl) ?_
                refine q_ret (by kernel_rfl) ?_
                refine ⟨(Value.tuple #[(agg [(i64 0), (i64 0), (i64 0), (i64 0), (i64 0), (i64 0), (i64 0), (i64 0), (Value.bool false), (Value.slice none 0 0), (Value.slice none 0 0)]), (i64 1)]), retv_cell_tmp rfl rfl (H223.loads (by kernel_rfl)) rfl, ?_⟩
                exact ⟨(⟨0, 0, 0, 0, 0, 0, 0, 0, false, [], []⟩ : MsgP), none, none, 0, 0, 1, rfl, K108, ⟨by (try simp only); omega, by (try simp only); omega, by (try simp only); omega, by (try simp only); omega, by (try simp only); omega, by (try simp only); omega, by (try simp only); omega, by (try simp only); omega, fun x hx => by cases hx⟩, by unfold unmsgB; rw [if_neg (by omega), if_neg (by rw [hmd]; omega), if_neg (fun q => by unfold Rdr.mfit at q; simp only [Rdr.mint, Rdr.nth] at q; omega)]; rfl, (OwnT.nil _ _ _ _ _), (EntsMine.nil _ _ _), (World.ownsRow_nil _ _ _ _)⟩
              · rw [h220]
                have p225 : ¬ (((((⟨bs, 0, 0⟩ : Rdr).int).2).int).1 < 0) := of_decide_eq_false h220
                refine Ops.regs 4 [(2, (ptr b1)), (3, (i64 0)), (5, (ptr b25)), (6, (i64 (((⟨bs, 0, 0⟩ : Rdr).int).1))), (7, (i64 (((((⟨bs, 0, 0⟩ : Rdr).int).2).int).1))), (8, (i64 (((((((⟨bs, 0, 0⟩ : Rdr).int).2).int).2).int).1))), (9, (i64 (((((((((⟨bs, 0, 0⟩ : Rdr).int).2).int).2).int).2).int).1))), (93, (Value.bool (decide (((((⟨bs, 0, 0⟩ : Rdr).int).2).int).1 > 3))))] (j := 15) (by kernel_rfl) (by kernel_rfl) ?_
                refine Ops.split (decide (((((⟨bs, 0, 0⟩ : Rdr).int).2).int).1 > 3)) (fun h226 => ?_) (fun h226 => ?_)
                · rw [h226]
                  have p227 : ((((⟨bs, 0, 0⟩ : Rdr).int).2).int).1 > 3 := of_decide_eq_true h226
                  refine Ops.regs 15 [(2, (ptr b1)), (3, (i64 0)), (5, (ptr b25)), (6, (i64 (((⟨bs, 0, 0⟩ : Rdr).int).1))), (7, (i64 (((((⟨bs, 0, 0⟩ : Rdr).int).2).int).1))), (8, (i64 (((((((⟨bs, 0, 0⟩ : Rdr).int).2).int).2).int).1))), (9, (i64 (((((((((⟨bs, 0, 0⟩ : Rdr).int).2).int).2).int).2).int).1))), (108, (Value.bool true))] (j := 30) (by kernel_rfl) (by kernel_rfl) ?_
                  refine Ops.done (by kernel_rfl) ?_
                  refine q_then (o := .tmp 108) (by kernel_rfl) rfl ?_
                  refine q_seq (by kernel_rfl) ?_
                  refine q_region (by kernel_rfl) ?_
                  refine Ops.regs 1 [(2, (ptr b1)), (3, (i64 0)), (5, (ptr b25)), (6, (i64 (((⟨bs, 0, 0⟩ : Rdr).int).1))), (7, (i64 (((((⟨bs, 0, 0⟩ : Rdr).int).2).int).1))), (8, (i64 (((((((⟨bs, 0, 0⟩ : Rdr).int).2).int).2).int).1))), (9, (i64 (((((((((⟨bs, 0, 0⟩ : Rdr).int).2).int).2).int).2).int).1))), (109, (agg [(i64 0), (i64 0), (i64 0), (i64 0), (i64 0), (i64 0), (i64 0), (i64 0), (Value.bool false), (Value.slice none 0 0), (Value.slice none 0 0)]))] (j := 1) (by kernel_rfl) (by kernel_rfl) ?_
                  refine Ops.put (t := 49) (b := b1) (off := 0) (v := (agg [(i64 0), (i64 0), (i64 0), (i64 0), (i64 0), (i64 0), (i64 0), (i64 0), (Value.bool false), (Value.slice none 0 0), (Value.slice none 0 0)])) (ys := [(i64 0), (i64 0), (i64 0), (i64 0), (i64 0), (i64 0), (i64 0), (i64 0), (Value.bool false), (Value.slice none 0 0), (Value.slice none 0 0)]) (by kernel_rfl) (by kernel_rfl) H109 (by kernel_rfl) (d := none) (by kernel_rfl) rfl (fun w228 H229 K230 => ?_)
                  clear H109
                  replace K108 := K108.trans K230 (U := none_) (fun i h1 h2 => h2) (fun i h1 h2 => by have h2 : i = b1 := h2; exfalso; omega)
                  replace H180 := H180.keep K230 (by intro h; change b13 = b1 at h; omega)
                  replace H198 := H198.keep K230 (by intro h; change b25 = b1 at h; omega)
                  replace F196 := RdO.keep F196 K230 (fun i _ _ hi hs => by have hs : i = b1 := hs; have := ob24 i _ _ hi; omega)
                  replace hOV := own_keep hOV K230 (fun i hi hs => by have hs : i = b1 := hs; have := obVb1 i hi; omega)
                  replace hM := EntsMine.keep2 hM K230 (fun x hx i o s hA hs => by have hs : i = b1 := hs; exact oeb1 x hx i o s hA hs)
                  replace O185 := own_keep O185 K230 (fun i hi hs => by have hs : i = b1 := hs; have := ob186 i hi; omega)
                  clear K230
                  refine Ops.regs 1 [(2, (ptr b1)), (3, (i64 1)), (5, (ptr b25)), (6, (i64 (((⟨bs, 0, 0⟩ : Rdr).int).1))), (7, (i64 (((((⟨bs, 0, 0⟩ : Rdr).int).2).int).1))), (8, (i64 (((((((⟨bs, 0, 0⟩ : Rdr).int).2).int).2).int).1))), (9, (i64 (((((((((⟨bs, 0, 0⟩ : Rdr).int).2).int).2).int).2).int).1)))] (j := 3) (by kernel_rfl) (by kernel_rfl) ?_
                  refine Ops.done (by kernel_rfl) ?_
                  refine q_ret (by kernel_rfl) ?_
                  refine ⟨(Value.tuple #[(agg [(i64 0), (i64 0), (i64 0), (i64 0), (i64 0), (i64 0), (i64 0), (i64 0), (Value.bool false), (Value.slice none 0 0), (Value.slice none 0 0)]), (i64 1)]), retv_cell_tmp rfl rfl (H229.loads (by kernel_rfl)) rfl, ?_⟩
                  exact ⟨(⟨0, 0, 0, 0, 0, 0, 0, 0, false, [], []⟩ : MsgP), none, none, 0, 0, 1, rfl, K108, ⟨by (try simp only); omega, by (try simp only); omega, by (try simp only); omega, by (try simp only); omega, by (try simp only); omega, by (try simp only); omega, by (try simp only); omega, by (try simp only); omega, fun x hx => by cases hx⟩, by unfold unmsgB; rw [if_neg (by omega), if_neg (by rw [hmd]; omega), if_neg (fun q => by unfold Rdr.mfit at q; simp only [Rdr.mint, Rdr.nth] at q; omega)]; rfl, (OwnT.nil _ _ _ _ _), (EntsMine.nil _ _ _), (World.ownsRow_nil _ _ _ _)⟩
                · rw [h226]
                  have p231 : ¬ (((((⟨bs, 0, 0⟩ : Rdr).int).2).int).1 > 3) := of_decide_eq_false h226
                  refine Ops.regs 4 [(2, (ptr b1)), (3, (i64 0)), (5, (ptr b25)), (6, (i64 (((⟨bs, 0, 0⟩ : Rdr).int).1))), (7, (i64 (((((⟨bs, 0, 0⟩ : Rdr).int).2).int).1))), (8, (i64 (((((((⟨bs, 0, 0⟩ : Rdr).int).2).int).2).int).1))), (9, (i64 (((((((((⟨bs, 0, 0⟩ : Rdr).int).2).int).2).int).2).int).1))), (97, (Value.bool (decide (((((((⟨bs, 0, 0⟩ : Rdr).int).2).int).2).int).1 < 0))))] (j := 19) (by kernel_rfl) (by kernel_rfl) ?_
                  refine Ops.split (decide (((((((⟨bs, 0, 0⟩ : Rdr).int).2).int).2).int).1 < 0)) (fun h232 => ?_) (fun h232 => ?_)
                  · rw [h232]
                    have p233 : ((((((⟨bs, 0, 0⟩ : Rdr).int).2).int).2).int).1 < 0 := of_decide_eq_true h232
                    refine Ops.regs 11 [(2, (ptr b1)), (3, (i64 0)), (5, (ptr b25)), (6, (i64 (((⟨bs, 0, 0⟩ : Rdr).int).1))), (7, (i64 (((((⟨bs, 0, 0⟩ : Rdr).int).2).int).1))), (8, (i64 (((((((⟨bs, 0, 0⟩ : Rdr).int).2).int).2).int).1))), (9, (i64 (((((((((⟨bs, 0, 0⟩ : Rdr).int).2).int).2).int).2).int).1))), (108, (Value.bool true))] (j := 30) (by kernel_rfl) (by kernel_rfl) ?_
                    refine Ops.done (by kernel_rfl) ?_
                    refine q_then (o := .tmp 108) (by kernel_rfl) rfl ?_
                    refine q_seq (by kernel_rfl) ?_
                    refine q_region (by kernel_rfl) ?_
                    refine Ops.regs 1 [(2, (ptr b1)), (3, (i64 0)), (5, (ptr b25)), (6, (i64 (((⟨bs, 0, 0⟩ : Rdr).int).1))), (7, (i64 (((((⟨bs, 0, 0⟩ : Rdr).int).2).int).1))), (8, (i64 (((((((⟨bs, 0, 0⟩ : Rdr).int).2).int).2).int).1))), (9, (i64 (((((((((⟨bs, 0, 0⟩ : Rdr).int).2).int).2).int).2).int).1))), (109, (agg [(i64 0), (i64 0), (i64 0), (i64 0), (i64 0), (i64 0), (i64 0), (i64 0), (Value.bool false), (Value.slice none 0 0), (Value.slice none 0 0)]))] (j := 1) (by kernel_rfl) (by kernel_rfl) ?_
                    refine Ops.put (t := 49) (b := b1) (off := 0) (v := (agg [(i64 0), (i64 0), (i64 0), (i64 0), (i64 0), (i64 0), (i64 0), (i64 0), (Value.bool false), (Value.slice none 0 0), (Value.slice none 0 0)])) (ys := [(i64 0), (i64 0), (i64 0), (i64 0), (i64 0), (i64 0), (i64 0), (i64 0), (Value.bool false), (Value.slice none 0 0), (Value.slice none 0 0)]) (by kernel_rfl) (by kernel_rfl) H109 (by kernel_rfl) (d := none) (by kernel_rfl) rfl (fun w234 H235 K236 => ?_)
                    clear H109
                    replace K108 := K108.trans K236 (U := none_) (fun i h1 h2 => h2) (fun i h1 h2 => by have h2 : i = b1 := h2; exfalso; omega)
                    replace H180 := H180.keep K236 (by intro h; change b13 = b1 at h; omega)
                    replace H198 := H198.keep K236 (by intro h; change b25 = b1 at h; omega)
                    replace F196 := RdO.keep F196 K236 (fun i _ _ hi hs => by have hs : i = b1 := hs; have := ob24 i _ _ hi; omega)
                    replace hOV := own_keep hOV K236 (fun i hi hs => by have hs : i = b1 := hs; have := obVb1 i hi; omega)
                    replace hM := EntsMine.keep2 hM K236 (fun x hx i o s hA hs => by have hs : i = b1 := hs; exact oeb1 x hx i o s hA hs)
                    replace O185 := own_keep O185 K236 (fun i hi hs => by have hs : i = b1 := hs; have := ob186 i hi; omega)
                    clear K236
                    refine Ops.regs 1 [(2, (ptr b1)), (3, (i64 1)), (5, (ptr b25)), (6, (i64 (((⟨bs, 0, 0⟩ : Rdr).int).1))), (7, (i64 (((((⟨bs, 0, 0⟩ : Rdr).int).2).int).1))), (8, (i64 (((((((⟨bs, 0, 0⟩ : Rdr).int).2).int).2).int).1))), (9, (i64 (((((((((⟨bs, 0, 0⟩ : Rdr).int).2).int).2).int).2).int).1)))] (j := 3) (by kernel_rfl) (by kernel_rfl) ?_
                    refine Ops.done (by kernel_rfl) ?_
                    refine q_ret (by kernel_rfl) ?_
                    refine ⟨(Value.tuple #[(agg [(i64 0), (i64 0), (i64 0), (i64 0), (i64 0), (i64 0), (i64 0), (i64 0), (Value.bool false), (Value.slice none 0 0), (Value.slice none 0 0)]), (i64 1)]), retv_cell_tmp rfl rfl (H235.loads (by kernel_rfl)) rfl, ?_⟩
                    exact ⟨(⟨0, 0, 0, 0, 0, 0, 0, 0, false, [], []⟩ : MsgP), none, none, 0, 0, 1, rfl, K108, ⟨by (try simp only); omega, by (try simp only); omega, by (try simp only); omega, by (try simp only); omega, by (try simp only); omega, by (try simp only); omega, by (try simp only); omega, by (try simp only); omega, fun x hx => by cases hx⟩, by unfold unmsgB; rw [if_neg (by omega), if_neg (by rw [hmd]; omega), if_neg (fun q => by unfold Rdr.mfit at q; simp only [Rdr.mint, Rdr.nth] at q; omega)]; rfl, (OwnT.nil _ _ _ _ _), (EntsMine.nil _ _ _), (World.ownsRow_nil _ _ _ _)⟩
                  · rw [h232]
                    have p237 : ¬ (((((((⟨bs, 0, 0⟩ : Rdr).int).2).int).2).int).1 < 0) := of_decide_eq_false h232
                    refine Ops.regs 4 [(2, (ptr b1)), (3, (i64 0)), (5, (ptr b25)), (6, (i64 (((⟨bs, 0, 0⟩ : Rdr).int).1))), (7, (i64 (((((⟨bs, 0, 0⟩ : Rdr).int).2).int).1))), (8, (i64 (((((((⟨bs, 0, 0⟩ : Rdr).int).2).int).2).int).1))), (9, (i64 (((((((((⟨bs, 0, 0⟩ : Rdr).int).2).int).2).int).2).int).1))), (101, (Value.bool (decide (((((((⟨bs, 0, 0⟩ : Rdr).int).2).int).2).int).1 ≥ 5))))] (j := 23) (by kernel_rfl) (by kernel_rfl) ?_
                    refine Ops.split (decide (((((((⟨bs, 0, 0⟩ : Rdr).int).2).int).2).int).1 ≥ 5)) (fun h238 => ?_) (fun h238 => ?_)
                    · rw [h238]
                      have p239 : ((((((⟨bs, 0, 0⟩ : Rdr).int).2).int).2).int).1 ≥ 5 := of_decide_eq_true h238
                      refine Ops.regs 7 [(2, (ptr b1)), (3, (i64 0)), (5, (ptr b25)), (6, (i64 (((⟨bs, 0, 0⟩ : Rdr).int).1))), (7, (i64 (((((⟨bs, 0, 0⟩ : Rdr).int).2).int).1))), (8, (i64 (((((((⟨bs, 0, 0⟩ : Rdr).int).2).int).2).int).1))), (9, (i64 (((((((((⟨bs, 0, 0⟩ : Rdr).int).2).int).2).int).2).int).1))), (108, (Value.bool true))] (j := 30) (by kernel_rfl) (by kernel_rfl) ?_
                      refine Ops.done (by kernel_rfl) ?_
                      refine q_then (o := .tmp 108) (by kernel_rfl) rfl ?_
                      refine q_seq (by kernel_rfl) ?_
                      refine q_region (by kernel_rfl) ?_
                      refine Ops.regs 1 [(2, (ptr b1)), (3, (i64 0)), (5, (ptr b25)), (6, (i64 (((⟨bs, 0, 0⟩ : Rdr).int).1))), (7, (i64 (((((⟨bs, 0, 0⟩ : Rdr).int).2).int).1))), (8, (i64 (((((((⟨bs, 0, 0⟩ : Rdr).int).2).int).2).int).1))), (9, (i64 (((((((((⟨bs, 0, 0⟩ : Rdr).int).2).int).2).int).2).int).1))), (109, (agg [(i64 0), (i64 0), (i64 0), (i64 0), (i64 0), (i64 0), (i64 0), (i64 0), (Value.bool false), (Value.slice none 0 0), (Value.slice none 0 0)]))] (j := 1) (by kernel_rfl) (by kernel_rfl) ?_
                      refine Ops.put (t := 49) (b := b1) (off := 0) (v := (agg [(i64 0), (i64 0), (i64 0), (i64 0), (i64 0), (i64 0), (i64 0), (i64 0), (Value.bool false), (Value.slice none 0 0), (Value.slice none 0 0)])) (ys := [(i64 0), (i64 0), (i64 0), (i64 0), (i64 0), (i64 0), (i64 0), (i64 0), (Value.bool false), (Value.slice none 0 0), (Value.slice none 0 0)]) (by kernel_rfl) (by kernel_rfl) H109 (by kernel_rfl) (d := none) (by kernel_rfl) rfl (fun w240 H241 K242 => ?_)
                      clear H109
                      replace K108 := K108.trans K242 (U := none_) (fun i h1 h2 => h2) (fun i h1 h2 => by have h2 : i = b1 := h2; exfalso; omega)
                      replace H180 := H180.keep K242 (by intro h; change b13 = b1 at h; omega)
                      replace H198 := H198.keep K242 (by intro h; change b25 = b1 at h; omega)
                      replace F196 := RdO.keep F196 K242 (fun i _ _ hi hs => by have hs : i = b1 := hs; have := ob24 i _ _ hi; omega)
                      replace hOV := own_keep hOV K242 (fun i hi hs => by have hs : i = b1 := hs; have := obVb1 i hi; omega)
                      replace hM := EntsMine.keep2 hM K242 (fun x hx i o s hA hs => by have hs : i = b1 := hs; exact oeb1 x hx i o s hA hs)
                      replace O185 := own_keep O185 K242 (fun i hi hs => by have hs : i = b1 := hs; have := ob186 i hi; omega)
                      clear K242
                      refine Ops.regs 1 [(2, (ptr b1)), (3, (i64 1)), (5, (ptr b25)), (6, (i64 (((⟨bs, 0, 0⟩ : Rdr).int).1))), (7, (i64 (((((⟨bs, 0, 0⟩ : Rdr).int).2).int).1))), (8, (i64 (((((((⟨bs, 0, 0⟩ : Rdr).int).2).int).2).int).1))), (9, (i64 (((((((((⟨bs, 0, 0⟩ : Rdr).int).2).int).2).int).2).int).1)))] (j := 3) (by kernel_rfl) (by kernel_rfl) ?_
                      refine Ops.done (by kernel_rfl) ?_
                      refine q_ret (by kernel_rfl) ?_
                      refine ⟨(Value.tuple #[(agg [(i64 0), (i64 0), (i64 0), (i64 0), (i64 0), (i64 0), (i64 0), (i64 0), (Value.bool false), (Value.slice none 0 0), (Value.slice none 0 0)]), (i64 1)]), retv_cell_tmp rfl rfl (H241.loads (by kernel_rfl)) rfl, ?_⟩
                      exact ⟨(⟨0, 0, 0, 0, 0, 0, 0, 0, false, [], []⟩ : MsgP), none, none, 0, 0, 1, rfl, K108, ⟨by (try simp only); omega, by (try simp only); omega, by (try simp only); omega, by (try simp only); omega, by (try simp only); omega, by (try simp only); omega, by (try simp only); omega, by (try simp only); omega, fun x hx => by cases hx⟩, by unfold unmsgB; rw [if_neg (by omega), if_neg (by rw [hmd]; omega), if_neg (fun q => by unfold Rdr.mfit at q; simp only [Rdr.mint, Rdr.nth] at q; omega)]; rfl, (OwnT.nil _ _ _ _ _), (EntsMine.nil _ _ _), (World.ownsRow_nil _ _ _ _)⟩
                    · rw [h238]
                      have p243 : ¬ (((((((⟨bs, 0, 0⟩ : Rdr).int).2).int).2).int).1 ≥ 5) := of_decide_eq_false h238
                      refine Ops.regs 4 [(2, (ptr b1)), (3, (i64 0)), (5, (ptr b25)), (6, (i64 (((⟨bs, 0, 0⟩ : Rdr).int).1))), (7, (i64 (((((⟨bs, 0, 0⟩ : Rdr).int).2).int).1))), (8, (i64 (((((((⟨bs, 0, 0⟩ : Rdr).int).2).int).2).int).1))), (9, (i64 (((((((((⟨bs, 0, 0⟩ : Rdr).int).2).int).2).int).2).int).1))), (105, (Value.bool (decide (((((((((⟨bs, 0, 0⟩ : Rdr).int).2).int).2).int).2).int).1 < 0))))] (j := 27) (by kernel_rfl) (by kernel_rfl) ?_
                      refine Ops.split (decide (((((((((⟨bs, 0, 0⟩ : Rdr).int).2).int).2).int).2).int).1 < 0)) (fun h244 => ?_) (fun h244 => ?_)
                      · rw [h244]
                        have p245 : ((((((((⟨bs, 0, 0⟩ : Rdr).int).2).int).2).int).2).int).1 < 0 := of_decide_eq_true h244
                        refine Ops.regs 3 [(2, (ptr b1)), (3, (i64 0)), (5, (ptr b25)), (6, (i64 (((⟨bs, 0, 0⟩ : Rdr).int).1))), (7, (i64 (((((⟨bs, 0, 0⟩ : Rdr).int).2).int).1))), (8, (i64 (((((((⟨bs, 0, 0⟩ : Rdr).int).2).int).2).int).1))), (9, (i64 (((((((((⟨bs, 0, 0⟩ : Rdr).int).2).int).2).int).2).int).1))), (108, (Value.bool true))] (j := 30) (by kernel_rfl) (by kernel_rfl) ?_
                        refine Ops.done (by kernel_rfl) ?_
                        refine q_then (o := .tmp 108) (by kernel_rfl) rfl ?_
                        refine q_seq (by kernel_rfl) ?_
                        refine q_region (by kernel_rfl) ?_
                        refine Ops.regs 1 [(2, (ptr b1)), (3, (i64 0)), (5, (ptr b25)), (6, (i64 (((⟨bs, 0, 0⟩ : Rdr).int).1))), (7, (i64 (((((⟨bs, 0, 0⟩ : Rdr).int).2).int).1))), (8, (i64 (((((((⟨bs, 0, 0⟩ : Rdr).int).2).int).2).int).1))), (9, (i64 (((((((((⟨bs, 0, 0⟩ : Rdr).int).2).int).2).int).2).int).1))), (109, (agg [(i64 0), (i64 0), (i64 0), (i64 0), (i64 0), (i64 0), (i64 0), (i64 0), (Value.bool false), (Value.slice none 0 0), (Value.slice none 0 0)]))] (j := 1) (by kernel_rfl) (by kernel_rfl) ?_
                        refine Ops.put (t := 49) (b := b1) (off := 0) (v := (agg [(i64 0), (i64 0), (i64 0), (i64 0), (i64 0), (i64 0), (i64 0), (i64 0), (Value.bool false), (Value.slice none 0 0), (Value.slice none 0 0)])) (ys := [(i64 0), (i64 0), (i64 0), (i64 0), (i64 0), (i64 0), (i64 0), (i64 0), (Value.bool false), (Value.slice none 0 0), (Value.slice none 0 0)]) (by kernel_rfl) (by kernel_rfl) H109 (by kernel_rfl) (d := none) (by kernel_rfl) rfl (fun w246 H247 K248 => ?_)
                        clear H109
                        replace K108 := K108.trans K248 (U := none_) (fun i h1 h2 => h2) (fun i h1 h2 => by have h2 : i = b1 := h2; exfalso; omega)
                        replace H180 := H180.keep K248 (by intro h; change b13 = b1 at h; omega)
                        replace H198 := H198.keep K248 (by intro h; change b25 = b1 at h; omega)
                        replace F196 := RdO.keep F196 K248 (fun i _ _ hi hs => by have hs : i = b1 := hs; have := ob24 i _ _ hi; omega)
                        replace hOV := own_keep hOV K248 (fun i hi hs => by have hs : i = b1 := hs; have := obVb1 i hi; omega)
                        replace hM := EntsMine.keep2 hM K248 (fun x hx i o s hA hs => by have hs : i = b1 := hs; exact oeb1 x hx i o s hA hs)
                        replace O185 := own_keep O185 K248 (fun i hi hs => by have hs : i = b1 := hs; have := ob186 i hi; omega)
                        clear K248
                        refine Ops.regs 1 [(2, (ptr b1)), (3, (i64 1)), (5, (ptr b25)), (6, (i64 (((⟨bs, 0, 0⟩ : Rdr).int).1))), (7, (i64 (((((⟨bs, 0, 0⟩ : Rdr).int).2).int).1))), (8, (i64 (((((((⟨bs, 0, 0⟩ : Rdr).int).2).int).2).int).1))), (9, (i64 (((((((((⟨bs, 0, 0⟩ : Rdr).int).2).int).2).int).2).int).1)))] (j := 3) (by kernel_rfl) (by kernel_rfl) ?_
                        refine Ops.done (by kernel_rfl) ?_
                        refine q_ret (by kernel_rfl) ?_
                        refine ⟨(Value.tuple #[(agg [(i64 0), (i64 0), (i64 0), (i64 0), (i64 0), (i64 0), (i64 0), (i64 0), (Value.bool false), (Value.slice none 0 0), (Value.slice none 0 0)]), (i64 1)]), retv_cell_tmp rfl rfl (H247.loads (by kernel_rfl)) rfl, ?_⟩
                        exact ⟨(⟨0, 0, 0, 0, 0, 0, 0, 0, false, [], []⟩ : MsgP), none, none, 0, 0, 1, rfl, K108, ⟨by (try simp only); omega, by (try simp only); omega, by (try simp only); omega, by (try simp only); omega, by (try simp only); omega, by (try simp only); omega, by (try simp only); omega, by (try simp only); omega, fun x hx => by cases hx⟩, by unfold unmsgB; rw [if_neg (by omega), if_neg (by rw [hmd]; omega), if_neg (fun q => by unfold Rdr.mfit at q; simp only [Rdr.mint, Rdr.nth] at q; omega)]; rfl, (OwnT.nil _ _ _ _ _), (EntsMine.nil _ _ _), (World.ownsRow_nil _ _ _ _)⟩
                      · rw [h244]
                        have p249 : ¬ (((((((((⟨bs, 0, 0⟩ : Rdr).int).2).int).2).int).2).int).1 < 0) := of_decide_eq_false h244
                        refine Ops.regs 3 [(2, (ptr b1)), (3, (i64 0)), (5, (ptr b25)), (6, (i64 (((⟨bs, 0, 0⟩ : Rdr).int).1))), (7, (i64 (((((⟨bs, 0, 0⟩ : Rdr).int).2).int).1))), (8, (i64 (((((((⟨bs, 0, 0⟩ : Rdr).int).2).int).2).int).1))), (9, (i64 (((((((((⟨bs, 0, 0⟩ : Rdr).int).2).int).2).int).2).int).1))), (108, (Value.bool (decide (((((((((⟨bs, 0, 0⟩ : Rdr).int).2).int).2).int).2).int).1 ≥ 5))))] (j := 30) (by kernel_rfl) (by kernel_rfl) ?_
                        refine Ops.done (by kernel_rfl) ?_
                        refine q_cond (o := .tmp 108) (b := (decide (((((((((⟨bs, 0, 0⟩ : Rdr).int).2).int).2).int).2).int).1 ≥ 5))) (by kernel_rfl) rfl (fun h250 => ?_) (fun h250 => ?_)
                        · rw [h250]
                          have p251 : ((((((((⟨bs, 0, 0⟩ : Rdr).int).2).int).2).int).2).int).1 ≥ 5 := of_decide_eq_true h250
                          refine q_seq (by kernel_rfl) ?_
                          refine q_region (by kernel_rfl) ?_
                          refine Ops.regs 1 [(2, (ptr b1)), (3, (i64 0)), (5, (ptr b25)), (6, (i64 (((⟨bs, 0, 0⟩ : Rdr).int).1))), (7, (i64 (((((⟨bs, 0, 0⟩ : Rdr).int).2).int).1))), (8, (i64 (((((((⟨bs, 0, 0⟩ : Rdr).int).2).int).2).int).1))), (9, (i64 (((((((((⟨bs, 0, 0⟩ : Rdr).int).2).int).2).int).2).int).1))), (109, (agg [(i64 0), (i64 0), (i64 0), (i64 0), (i64 0), (i64 0), (i64 0), (i64 0), (Value.bool false), (Value.slice none 0 0), (Value.slice none 0 0)]))] (j := 1) (by kernel_rfl) (by kernel_rfl) ?_
                          refine Ops.put (t := 49) (b := b1) (off := 0) (v := (agg [(i64 0), (i64 0), (i64 0), (i64 0), (i64 0), (i64 0), (i64 0), (i64 0), (Value.bool false), (Value.slice none 0 0), (Value.slice none 0 0)])) (ys := [(i64 0), (i64 0), (i64 0), (i64 0), (i64 0), (i64 0), (i64 0), (i64 0), (Value.bool false), (Value.slice none 0 0), (Value.slice none 0 0)]) (by kernel_rfl) (by kernel_rfl) H109 (by kernel_rfl) (d := none) (by kernel_rfl) rfl (fun w252 H253 K254 => ?_)
                          clear H109
                          replace K108 := K108.trans K254 (U := none_) (fun i h1 h2 => h2) (fun i h1 h2 => by have h2 : i = b1 := h2; exfalso; omega)
                          replace H180 := H180.keep K254 (by intro h; change b13 = b1 at h; omega)
                          replace H198 := H198.keep K254 (by intro h; change b25 = b1 at h; omega)
                          replace F196 := RdO.keep F196 K254 (fun i _ _ hi hs => by have hs : i = b1 := hs; have := ob24 i _ _ hi; omega)
                          replace hOV := own_keep hOV K254 (fun i hi hs => by have hs : i = b1 := hs; have := obVb1 i hi; omega)
                          replace hM := EntsMine.keep2 hM K254 (fun x hx i o s hA hs => by have hs : i = b1 := hs; exact oeb1 x hx i o s hA hs)
                          replace O185 := own_keep O185 K254 (fun i hi hs => by have hs : i = b1 := hs; have := ob186 i hi; omega)
                          clear K254
                          refine Ops.regs 1 [(2, (ptr b1)), (3, (i64 1)), (5, (ptr b25)), (6, (i64 (((⟨bs, 0, 0⟩ : Rdr).int).1))), (7, (i64 (((((⟨bs, 0, 0⟩ : Rdr).int).2).int).1))), (8, (i64 (((((((⟨bs, 0, 0⟩ : Rdr).int).2).int).2).int).1))), (9, (i64 (((((((((⟨bs, 0, 0⟩ : Rdr).int).2).int).2).int).2).int).1)))] (j := 3) (by kernel_rfl) (by kernel_rfl) ?_
                          refine Ops.done (by kernel_rfl) ?_
                          refine q_ret (by kernel_rfl) ?_
                          refine ⟨(Value.tuple #[(agg [(i64 0), (i64 0), (i64 0), (i64 0), (i64 0), (i64 0), (i64 0), (i64 0), (Value.bool false), (Value.slice none 0 0), (Value.slice none 0 0)]), (i64 1)]), retv_cell_tmp rfl rfl (H253.loads (by kernel_rfl)) rfl, ?_⟩
                          exact ⟨(⟨0, 0, 0, 0, 0, 0, 0, 0, false, [], []⟩ : MsgP), none, none, 0, 0, 1, rfl, K108, ⟨by (try simp only); omega, by (try simp only); omega, by (try simp only); omega, by (try simp only); omega, by (try simp only); omega, by (try simp only); omega, by (try simp only); omega, by (try simp only); omega, fun x hx => by cases hx⟩, by unfold unmsgB; rw [if_neg (by omega), if_neg (by rw [hmd]; omega), if_neg (fun q => by unfold Rdr.mfit at q; simp only [Rdr.mint, Rdr.nth] at q; omega)]; rfl, (OwnT.nil _ _ _ _ _), (EntsMine.nil _ _ _), (World.ownsRow_nil _ _ _ _)⟩
                        · rw [h250]
                          have p255 : ¬ (((((((((⟨bs, 0, 0⟩ : Rdr).int).2).int).2).int).2).int).1 ≥ 5) := of_decide_eq_false h250
                          refine q_skip (by kernel_rfl) ?_
                          refine q_seq (by kernel_rfl) ?_
                          refine q_region (by kernel_rfl) ?_
                          refine Ops.regs 2 [(2, (ptr b1)), (3, (i64 0)), (5, (ptr b25)), (7, (i64 (((((⟨bs, 0, 0⟩ : Rdr).int).2).int).1))), (8, (i64 (((((((⟨bs, 0, 0⟩ : Rdr).int).2).int).2).int).1))), (9, (i64 (((((((((⟨bs, 0, 0⟩ : Rdr).int).2).int).2).int).2).int).1))), (110, (i64 (((⟨bs, 0, 0⟩ : Rdr).int).1))), (111, (ptr b25))] (j := 2) (by kernel_rfl) (by kernel_rfl) ?_
                          refine Ops.put (t := 3) (b := b25) (off := 0) (v := (i64 (((⟨bs, 0, 0⟩ : Rdr).int).1))) (ys := [(i64 (((⟨bs, 0, 0⟩ : Rdr).int).1)), (i64 0), (i64 0), (i64 0), (i64 (((((((((((⟨bs, 0, 0⟩ : Rdr).int).2).int).2).int).2).int).2).int).1)), (i64 (((((((((((((⟨bs, 0, 0⟩ : Rdr).int).2).int).2).int).2).int).2).int).2).int).1)), (i64 (((((((((((((((⟨bs, 0, 0⟩ : Rdr).int).2).int).2).int).2).int).2).int).2).int).2).int).1)), (i64 (((((((((((((((((⟨bs, 0, 0⟩ : Rdr).int).2).int).2).int).2).int).2).int).2).int).2).int).2).int).1)), (Value.bool (((((((((((((((((((⟨bs, 0, 0⟩ : Rdr).int).2).int).2).int).2).int).2).int).2).int).2).int).2).int).2).bool_).1)), (Value.slice VA l.length vc), (Value.slice A193 (((R.bytes).1).length) c194)]) (by kernel_rfl) (by kernel_rfl) H198 (by kernel_rfl) (d := none) (by kernel_rfl) rfl (fun w256 H257 K258 => ?_)
                          clear H198
                          replace K108 := K108.trans K258 (U := none_) (fun i h1 h2 => h2) (fun i h1 h2 => by have h2 : i = b25 := h2; exfalso; omega)
                          replace H109 := H109.keep K258 (by intro h; change b1 = b25 at h; omega)
                          replace H180 := H180.keep K258 (by intro h; change b13 = b25 at h; omega)
                          replace F196 := RdO.keep F196 K258 (fun i _ _ hi hs => by have hs : i = b25 := hs; have := ob31 i _ _ hi; omega)
                          replace hOV := own_keep hOV K258 (fun i hi hs => by have hs : i = b25 := hs; have := obVb25 i hi; omega)
                          replace hM := EntsMine.keep2 hM K258 (fun x hx i o s hA hs => by have hs : i = b25 := hs; exact oeb25 x hx i o s hA hs)
                          replace O185 := own_keep O185 K258 (fun i hi hs => by have hs : i = b25 := hs; have := ob188 i hi; omega)
                          clear K258
                          refine Ops.done (by kernel_rfl) ?_
                          refine q_seq (by kernel_rfl) ?_
                          refine q_region (by kernel_rfl) ?_
                          refine Ops.regs 2 [(2, (ptr b1)), (3, (i64 0)), (5, (ptr b25)), (8, (i64 (((((((⟨bs, 0, 0⟩ : Rdr).int).2).int).2).int).1))), (9, (i64 (((((((((⟨bs, 0, 0⟩ : Rdr).int).2).int).2).int).2).int).1))), (112, (i64 (((((⟨bs, 0, 0⟩ : Rdr).int).2).int).1))), (113, (Value.pointer (some ⟨b25, 1, none⟩)))] (j := 2) (by kernel_rfl) (by kernel_rfl) ?_
                          refine Ops.put (t := 3) (b := b25) (off := 1) (v := (i64 (((((⟨bs, 0, 0⟩ : Rdr).int).2).int).1))) (ys := [(i64 (((⟨bs, 0, 0⟩ : Rdr).int).1)), (i64 (((((⟨bs, 0, 0⟩ : Rdr).int).2).int).1)), (i64 0), (i64 0), (i64 (((((((((((⟨bs, 0, 0⟩ : Rdr).int).2).int).2).int).2).int).2).int).1)), (i64 (((((((((((((⟨bs, 0, 0⟩ : Rdr).int).2).int).2).int).2).int).2).int).2).int).1)), (i64 (((((((((((((((⟨bs, 0, 0⟩ : Rdr).int).2).int).2).int).2).int).2).int).2).int).2).int).1)), (i64 (((((((((((((((((⟨bs, 0, 0⟩ : Rdr).int).2).int).2).int).2).int).2).int).2).int).2).int).2).int).1)), (Value.bool (((((((((((((((((((⟨bs, 0, 0⟩ : Rdr).int).2).int).2).int).2).int).2).int).2).int).2).int).2).int).2).bool_).1)), (Value.slice VA l.length vc), (Value.slice A193 (((R.bytes).1).length) c194)]) (by kernel_rfl) (by kernel_rfl) H257 (by kernel_rfl) (d := none) (by kernel_rfl) rfl (fun w259 H260 K261 => ?_)
                          clear H257
                          replace K108 := K108.trans K261 (U := none_) (fun i h1 h2 => h2) (fun i h1 h2 => by have h2 : i = b25 := h2; exfalso; omega)
                          replace H109 := H109.keep K261 (by intro h; change b1 = b25 at h; omega)
                          replace H180 := H180.keep K261 (by intro h; change b13 = b25 at h; omega)
                          replace F196 := RdO.keep F196 K261 (fun i _ _ hi hs => by have hs : i = b25 := hs; have := ob31 i _ _ hi; omega)
                          replace hOV := own_keep hOV K261 (fun i hi hs => by have hs : i = b25 := hs; have := obVb25 i hi; omega)
                          replace hM := EntsMine.keep2 hM K261 (fun x hx i o s hA hs => by have hs : i = b25 := hs; exact oeb25 x hx i o s hA hs)
                          replace O185 := own_keep O185 K261 (fun i hi hs => by have hs : i = b25 := hs; have := ob188 i hi; omega)
                          clear K261
                          refine Ops.done (by kernel_rfl) ?_
                          refine q_seq (by kernel_rfl) ?_
                          refine q_region (by kernel_rfl) ?_
                          refine Ops.regs 2 [(2, (ptr b1)), (3, (i64 0)), (5, (ptr b25)), (9, (i64 (((((((((⟨bs, 0, 0⟩ : Rdr).int).2).int).2).int).2).int).1))), (114, (i64 (((((((⟨bs, 0, 0⟩ : Rdr).int).2).int).2).int).1))), (115, (Value.pointer (some ⟨b25, 2, none⟩)))] (j := 2) (by kernel_rfl) (by kernel_rfl) ?_
                          refine Ops.put (t := 3) (b := b25) (off := 2) (v := (i64 (((((((⟨bs, 0, 0⟩ : Rdr).int).2).int).2).int).1))) (ys := [(i64 (((⟨bs, 0, 0⟩ : Rdr).int).1)), (i64 (((((⟨bs, 0, 0⟩ : Rdr).int).2).int).1)), (i64 (((((((⟨bs, 0, 0⟩ : Rdr).int).2).int).2).int).1)), (i64 0), (i64 (((((((((((⟨bs, 0, 0⟩ : Rdr).int).2).int).2).int).2).int).2).int).1)), (i64 (((((((((((((⟨bs, 0, 0⟩ : Rdr).int).2).int).2).int).2).int).2).int).2).int).1)), (i64 (((((((((((((((⟨bs, 0, 0⟩ : Rdr).int).2).int).2).int).2).int).2).int).2).int).2).int).1)), (i64 (((((((((((((((((⟨bs, 0, 0⟩ : Rdr).int).2).int).2).int).2).int).2).int).2).int).2).int).2).int).1)), (Value.bool (((((((((((((((((((⟨bs, 0, 0⟩ : Rdr).int).2).int).2).int).2).int).2).int).2).int).2).int).2).int).2).bool_).1)), (Value.slice VA l.length vc), (Value.slice A193 (((R.bytes).1).length) c194)]) (by kernel_rfl) (by kernel_rfl) H260 (by kernel_rfl) (d := none) (by kernel_rfl) rfl (fun w262 H263 K264 => ?_)
                          clear H260
                          replace K108 := K108.trans K264 (U := none_) (fun i h1 h2 => h2) (fun i h1 h2 => by have h2 : i = b25 := h2; exfalso; omega)
                          replace H109 := H109.keep K264 (by intro h; change b1 = b25 at h; omega)
                          replace H180 := H180.keep K264 (by intro h; change b13 = b25 at h; omega)
                          replace F196 := RdO.keep F196 K264 (fun i _ _ hi hs => by have hs : i = b25 := hs; have := ob31 i _ _ hi; omega)
                          replace hOV := own_keep hOV K264 (fun i hi hs => by have hs : i = b25 := hs; have := obVb25 i hi; omega)
                          replace hM := EntsMine.keep2 hM K264 (fun x hx i o s hA hs => by have hs : i = b25 := hs; exact oeb25 x hx i o s hA hs)
                          replace O185 := own_keep O185 K264 (fun i hi hs => by have hs : i = b25 := hs; have := ob188 i hi; omega)
                          clear K264
                          refine Ops.done (by kernel_rfl) ?_
                          refine q_seq (by kernel_rfl) ?_
                          refine q_region (by kernel_rfl) ?_
                          refine Ops.regs 2 [(2, (ptr b1)), (3, (i64 0)), (5, (ptr b25)), (116, (i64 (((((((((⟨bs, 0, 0⟩ : Rdr).int).2).int).2).int).2).int).1))), (117, (Value.pointer (some ⟨b25, 3, none⟩)))] (j := 2) (by kernel_rfl) (by kernel_rfl) ?_
                          refine Ops.put (t := 3) (b := b25) (off := 3) (v := (i64 (((((((((⟨bs, 0, 0⟩ : Rdr).int).2).int).2).int).2).int).1))) (ys := [(i64 (((⟨bs, 0, 0⟩ : Rdr).int).1)), (i64 (((((⟨bs, 0, 0⟩ : Rdr).int).2).int).1)), (i64 (((((((⟨bs, 0, 0⟩ : Rdr).int).2).int).2).int).1)), (i64 (((((((((⟨bs, 0, 0⟩ : Rdr).int).2).int).2).int).2).int).1)), (i64 (((((((((((⟨bs, 0, 0⟩ : Rdr).int).2).int).2).int).2).int).2).int).1)), (i64 (((((((((((((⟨bs, 0, 0⟩ : Rdr).int).2).int).2).int).2).int).2).int).2).int).1)), (i64 (((((((((((((((⟨bs, 0, 0⟩ : Rdr).int).2).int).2).int).2).int).2).int).2).int).2).int).1)), (i64 (((((((((((((((((⟨bs, 0, 0⟩ : Rdr).int).2).int).2).int).2).int).2).int).2).int).2).int).2).int).1)), (Value.bool (((((((((((((((((((⟨bs, 0, 0⟩ : Rdr).int).2).int).2).int).2).int).2).int).2).int).2).int).2).int).2).bool_).1)), (Value.slice VA l.length vc), (Value.slice A193 (((R.bytes).1).length) c194)]) (by kernel_rfl) (by kernel_rfl) H263 (by kernel_rfl) (d := none) (by kernel_rfl) rfl (fun w265 H266 K267 => ?_)
                          clear H263
                          replace K108 := K108.trans K267 (U := none_) (fun i h1 h2 => h2) (fun i h1 h2 => by have h2 : i = b25 := h2; exfalso; omega)
                          replace H109 := H109.keep K267 (by intro h; change b1 = b25 at h; omega)
                          replace H180 := H180.keep K267 (by intro h; change b13 = b25 at h; omega)
                          replace F196 := RdO.keep F196 K267 (fun i _ _ hi hs => by have hs : i = b25 := hs; have := ob31 i _ _ hi; omega)
                          replace hOV := own_keep hOV K267 (fun i hi hs => by have hs : i = b25 := hs; have := obVb25 i hi; omega)
                          replace hM := EntsMine.keep2 hM K267 (fun x hx i o s hA hs => by have hs : i = b25 := hs; exact oeb25 x hx i o s hA hs)
                          replace O185 := own_keep O185 K267 (fun i hi hs => by have hs : i = b25 := hs; have := ob188 i hi; omega)
                          clear K267
                          refine Ops.done (by kernel_rfl) ?_
                          refine q_seq (by kernel_rfl) ?_
                          refine q_region (by kernel_rfl) ?_
                          refine Ops.go (v := (agg [(i64 (((⟨bs, 0, 0⟩ : Rdr).int).1)), (i64 (((((⟨bs, 0, 0⟩ : Rdr).int).2).int).1)), (i64 (((((((⟨bs, 0, 0⟩ : Rdr).int).2).int).2).int).1)), (i64 (((((((((⟨bs, 0, 0⟩ : Rdr).int).2).int).2).int).2).int).1)), (i64 (((((((((((⟨bs, 0, 0⟩ : Rdr).int).2).int).2).int).2).int).2).int).1)), (i64 (((((((((((((⟨bs, 0, 0⟩ : Rdr).int).2).int).2).int).2).int).2).int).2).int).1)), (i64 (((((((((((((((⟨bs, 0, 0⟩ : Rdr).int).2).int).2).int).2).int).2).int).2).int).2).int).1)), (i64 (((((((((((((((((⟨bs, 0, 0⟩ : Rdr).int).2).int).2).int).2).int).2).int).2).int).2).int).2).int).1)), (Value.bool (((((((((((((((((((⟨bs, 0, 0⟩ : Rdr).int).2).int).2).int).2).int).2).int).2).int).2).int).2).int).2).bool_).1)), (Value.slice VA l.length vc), (Value.slice A193 (((R.bytes).1).length) c194)])) (by kernel_rfl) (Runs.load (t := 49) (a := ⟨b25, 0, none⟩) (by kernel_rfl) (H266.loads (by kernel_rfl))) (d := (some 118)) (by kernel_rfl) rfl ?_
                          refine Ops.put (t := 49) (b := b1) (off := 0) (v := (agg [(i64 (((⟨bs, 0, 0⟩ : Rdr).int).1)), (i64 (((((⟨bs, 0, 0⟩ : Rdr).int).2).int).1)), (i64 (((((((⟨bs, 0, 0⟩ : Rdr).int).2).int).2).int).1)), (i64 (((((((((⟨bs, 0, 0⟩ : Rdr).int).2).int).2).int).2).int).1)), (i64 (((((((((((⟨bs, 0, 0⟩ : Rdr).int).2).int).2).int).2).int).2).int).1)), (i64 (((((((((((((⟨bs, 0, 0⟩ : Rdr).int).2).int).2).int).2).int).2).int).2).int).1)), (i64 (((((((((((((((⟨bs, 0, 0⟩ : Rdr).int).2).int).2).int).2).int).2).int).2).int).2).int).1)), (i64 (((((((((((((((((⟨bs, 0, 0⟩ : Rdr).int).2).int).2).int).2).int).2).int).2).int).2).int).2).int).1)), (Value.bool (((((((((((((((((((⟨bs, 0, 0⟩ : Rdr).int).2).int).2).int).2).int).2).int).2).int).2).int).2).int).2).bool_).1)), (Value.slice VA l.length vc), (Value.slice A193 (((R.bytes).1).length) c194)])) (ys := [(i64 (((⟨bs, 0, 0⟩ : Rdr).int).1)), (i64 (((((⟨bs, 0, 0⟩ : Rdr).int).2).int).1)), (i64 (((((((⟨bs, 0, 0⟩ : Rdr).int).2).int).2).int).1)), (i64 (((((((((⟨bs, 0, 0⟩ : Rdr).int).2).int).2).int).2).int).1)), (i64 (((((((((((⟨bs, 0, 0⟩ : Rdr).int).2).int).2).int).2).int).2).int).1)), (i64 (((((((((((((⟨bs, 0, 0⟩ : Rdr).int).2).int).2).int).2).int).2).int).2).int).1)), (i64 (((((((((((((((⟨bs, 0, 0⟩ : Rdr).int).2).int).2).int).2).int).2).int).2).int).2).int).1)), (i64 (((((((((((((((((⟨bs, 0, 0⟩ : Rdr).int).2).int).2).int).2).int).2).int).2).int).2).int).2).int).1)), (Value.bool (((((((((((((((((((⟨bs, 0, 0⟩ : Rdr).int).2).int).2).int).2).int).2).int).2).int).2).int).2).int).2).bool_).1)), (Value.slice VA l.length vc), (Value.slice A193 (((R.bytes).1).length) c194)]) (by kernel_rfl) (by kernel_rfl) H109 (by kernel_rfl) (d := none) (by kernel_rfl) rfl (fun w268 H269 K270 => ?_)
                          clear H109
                          replace K108 := K108.trans K270 (U := none_) (fun i h1 h2 => h2) (fun i h1 h2 => by have h2 : i = b1 := h2; exfalso; omega)
                          replace H180 := H180.keep K270 (by intro h; change b13 = b1 at h; omega)
                          replace H266 := H266.keep K270 (by intro h; change b25 = b1 at h; omega)
                          replace F196 := RdO.keep F196 K270 (fun i _ _ hi hs => by have hs : i = b1 := hs; have := ob24 i _ _ hi; omega)
                          replace hOV := own_keep hOV K270 (fun i hi hs => by have hs : i = b1 := hs; have := obVb1 i hi; omega)
                          replace hM := EntsMine.keep2 hM K270 (fun x hx i o s hA hs => by have hs : i = b1 := hs; exact oeb1 x hx i o s hA hs)
                          replace O185 := own_keep O185 K270 (fun i hi hs => by have hs : i = b1 := hs; have := ob186 i hi; omega)
                          clear K270
                          refine Ops.regs 1 [(2, (ptr b1)), (3, (i64 0))] (j := 3) (by kernel_rfl) (by kernel_rfl) ?_
                          refine Ops.done (by kernel_rfl) ?_
                          refine q_ret (by kernel_rfl) ?_
                          refine ⟨(Value.tuple #[(agg [(i64 (((⟨bs, 0, 0⟩ : Rdr).int).1)), (i64 (((((⟨bs, 0, 0⟩ : Rdr).int).2).int).1)), (i64 (((((((⟨bs, 0, 0⟩ : Rdr).int).2).int).2).int).1)), (i64 (((((((((⟨bs, 0, 0⟩ : Rdr).int).2).int).2).int).2).int).1)), (i64 (((((((((((⟨bs, 0, 0⟩ : Rdr).int).2).int).2).int).2).int).2).int).1)), (i64 (((((((((((((⟨bs, 0, 0⟩ : Rdr).int).2).int).2).int).2).int).2).int).2).int).1)), (i64 (((((((((((((((⟨bs, 0, 0⟩ : Rdr).int).2).int).2).int).2).int).2).int).2).int).2).int).1)), (i64 (((((((((((((((((⟨bs, 0, 0⟩ : Rdr).int).2).int).2).int).2).int).2).int).2).int).2).int).2).int).1)), (Value.bool (((((((((((((((((((⟨bs, 0, 0⟩ : Rdr).int).2).int).2).int).2).int).2).int).2).int).2).int).2).int).2).bool_).1)), (Value.slice VA l.length vc), (Value.slice A193 (((R.bytes).1).length) c194)]), (i64 0)]), retv_cell_tmp rfl rfl (H269.loads (by kernel_rfl)) rfl, ?_⟩
                          exact ⟨(⟨((⟨bs, 0, 0⟩ : Rdr).int).1, ((((⟨bs, 0, 0⟩ : Rdr).int).2).int).1, ((((((⟨bs, 0, 0⟩ : Rdr).int).2).int).2).int).1, ((((((((⟨bs, 0, 0⟩ : Rdr).int).2).int).2).int).2).int).1, ((((((((((⟨bs, 0, 0⟩ : Rdr).int).2).int).2).int).2).int).2).int).1, ((((((((((((⟨bs, 0, 0⟩ : Rdr).int).2).int).2).int).2).int).2).int).2).int).1, ((((((((((((((⟨bs, 0, 0⟩ : Rdr).int).2).int).2).int).2).int).2).int).2).int).2).int).1, ((((((((((((((((⟨bs, 0, 0⟩ : Rdr).int).2).int).2).int).2).int).2).int).2).int).2).int).2).int).1, (((((((((((((((((((⟨bs, 0, 0⟩ : Rdr).int).2).int).2).int).2).int).2).int).2).int).2).int).2).int).2).bool_).1), l, (R.bytes).1⟩ : MsgP), VA, A193, vc, c194, 0, rfl, K108, ⟨by (try simp only); omega, by (try simp only); omega, by (try simp only); omega, by (try simp only); omega, by (try simp only); omega, by (try simp only); omega, by (try simp only); omega, by (try simp only); omega, hlo⟩, by unfold unmsgB; rw [if_neg (by omega), if_neg (by rw [hmd]; omega), if_pos (by unfold Rdr.mfit; simp only [Rdr.mint, Rdr.nth]; omega), hme, hmd]; rfl, hOV, hM, O185⟩
    · rw [h112]
      have p271 : ¬ (((i : Nat) : Int) < ((((((((((((((((((((((⟨bs, 0, 0⟩ : Rdr).int).2).int).2).int).2).int).2).int).2).int).2).int).2).int).2).bool_).2).sized 4096).1 : Nat) : Int)) := of_decide_eq_false h112
      have hd := Rdr.ents_done hE hF (by omega)
      have hme : (⟨bs, 0, 0⟩ : Rdr).ments = (l.map EntP.key, R) := Prod.ext hd.1 hd.2
      have hmd : (⟨bs, 0, 0⟩ : Rdr).mdata = R.bytes := by unfold Rdr.mdata; rw [hme]
      refine Ops.regs 6 [(2, (ptr b1)), (3, (i64 0)), (4, (ptr b13)), (5, (ptr b25)), (6, (i64 (((⟨bs, 0, 0⟩ : Rdr).int).1))), (7, (i64 (((((⟨bs, 0, 0⟩ : Rdr).int).2).int).1))), (8, (i64 (((((((⟨bs, 0, 0⟩ : Rdr).int).2).int).2).int).1))), (9, (i64 (((((((((⟨bs, 0, 0⟩ : Rdr).int).2).int).2).int).2).int).1))), (10, (i64 ((((((((((((((((((((((⟨bs, 0, 0⟩ : Rdr).int).2).int).2).int).2).int).2).int).2).int).2).int).2).int).2).bool_).2).sized 4096).1 : Nat) : Int))), (11, (i64 ((i : Nat) : Int))), (55, (Value.bool false))] (j := 10) (by kernel_rfl) (by kernel_rfl) ?_
      refine Ops.done (by kernel_rfl) ?_
      refine q_else (o := .tmp 55) (by kernel_rfl) rfl ?_
      refine q_exit (id := 0) (by kernel_rfl) ?_
      refine q_seq (by kernel_rfl) ?_
      refine q_region (by kernel_rfl) ?_
      refine Ops.regs 1 [(2, (ptr b1)), (3, (i64 0)), (4, (ptr b13)), (5, (ptr b25)), (6, (i64 (((⟨bs, 0, 0⟩ : Rdr).int).1))), (7, (i64 (((((⟨bs, 0, 0⟩ : Rdr).int).2).int).1))), (8, (i64 (((((((⟨bs, 0, 0⟩ : Rdr).int).2).int).2).int).1))), (9, (i64 (((((((((⟨bs, 0, 0⟩ : Rdr).int).2).int).2).int).2).int).1))), (70, (ptr b13))] (j := 1) (by kernel_rfl) (by kernel_rfl) ?_
      refine Ops.call (by kernel_rfl) (d := (some 71)) (by kernel_rfl) (RRBytes_calls _ b13 A14 c15 R hokR H110 hRdA14 hne21 ) ?_
      rintro _ w272 ⟨v277, rfl, K273, hO278, H274⟩
      obtain ⟨A287, c288, hf289⟩ := RdB.form (OwnB.rd hO278)
      subst hf289
      have hok275 : (R.bytes).2.Ok := Rdr.Ok.bytes hokR
      have hu276 := Rdr.bytes_le hokR
      have ob280 : ∀ i, ((Value.slice A287 (((R.bytes).1).length) c288)).ownBlock = some i → i ≠ b1 := fun i hi => by have := (World.ownsRow.lt hO278 i hi).1; have := H109.lt; omega
      have ob281 : ∀ i, ((Value.slice A287 (((R.bytes).1).length) c288)).ownBlock = some i → i ≠ b13 := fun i hi => by have := (World.ownsRow.lt hO278 i hi).1; have := H110.lt; omega
      have ob282 : ∀ i, ((Value.slice A287 (((R.bytes).1).length) c288)).ownBlock = some i → i ≠ b25 := fun i hi => by have := (World.ownsRow.lt hO278 i hi).1; have := H111.lt; omega
      have oo283 : ∀ i o s, A14 = some ⟨i, o, s⟩ → ((Value.slice A287 (((R.bytes).1).length) c288)).ownBlock = some i → False := fun i o s hi hs => by have := (World.ownsRow.lt hO278 i hs).1; have := hRdA14.2 i o s hi; omega
      have oo285 : ∀ i, ((Value.slice VA l.length vc)).ownBlock = some i → ((Value.slice A287 (((R.bytes).1).length) c288)).ownBlock = some i → False := fun i hi hs => by have := (World.ownsRow.lt hO278 i hs).1; have := (World.ownsRow.lt hOV i hi).2; omega
      have oo286 : ∀ i, ((Value.slice A287 (((R.bytes).1).length) c288)).ownBlock = some i → ((Value.slice VA l.length vc)).ownBlock = some i → False := fun i hi hs => oo285 i hs hi
      have O279 := own_base hO278 K108.size
      clear hO278
      refine ⟨_, _, rfl, rfl, ?_⟩
      replace K108 := K108.trans K273 (U := none_) (fun i h1 h2 => h2) (fun i h1 h2 => by have h2 : i = b13 := h2; exfalso; omega)
      replace H109 := H109.keep K273 (by intro h; change b1 = b13 at h; omega)
      replace H111 := H111.keep K273 (by intro h; change b25 = b13 at h; omega)
      replace hRdA14 := RdO.keep hRdA14 K273 (fun i _ _ hi hs => by have hs : i = b13 := hs; have := hne21 i _ _ hi; omega)
      replace hOV := own_keep hOV K273 (fun i hi hs => by have hs : i = b13 := hs; have := obVb13 i hi; omega)
      replace hM := EntsMine.keep2 hM K273 (fun x hx i o s hA hs => by have hs : i = b13 := hs; exact oeb13 x hx i o s hA hs)
      clear K273
      have F290 : RdO w272 A14 c15 (R.bytes).2.bs := by rw [Rdr.bytes_bs]; exact hRdA14
      clear hRdA14
      refine Ops.regs 1 [(2, (ptr b1)), (3, (i64 0)), (4, (ptr b13)), (5, (ptr b25)), (6, (i64 (((⟨bs, 0, 0⟩ : Rdr).int).1))), (7, (i64 (((((⟨bs, 0, 0⟩ : Rdr).int).2).int).1))), (8, (i64 (((((((⟨bs, 0, 0⟩ : Rdr).int).2).int).2).int).1))), (9, (i64 (((((((((⟨bs, 0, 0⟩ : Rdr).int).2).int).2).int).2).int).1))), (71, (Value.slice A287 (((R.bytes).1).length) c288)), (72, (Value.pointer (some ⟨b25, 10, none⟩)))] (j := 3) (by kernel_rfl) (by kernel_rfl) ?_
      refine Ops.put (t := 23) (b := b25) (off := 10) (v := (Value.slice A287 (((R.bytes).1).length) c288)) (ys := [(i64 0), (i64 0), (i64 0), (i64 0), (i64 (((((((((((⟨bs, 0, 0⟩ : Rdr).int).2).int).2).int).2).int).2).int).1)), (i64 (((((((((((((⟨bs, 0, 0⟩ : Rdr).int).2).int).2).int).2).int).2).int).2).int).1)), (i64 (((((((((((((((⟨bs, 0, 0⟩ : Rdr).int).2).int).2).int).2).int).2).int).2).int).2).int).1)), (i64 (((((((((((((((((⟨bs, 0, 0⟩ : Rdr).int).2).int).2).int).2).int).2).int).2).int).2).int).2).int).1)), (Value.bool (((((((((((((((((((⟨bs, 0, 0⟩ : Rdr).int).2).int).2).int).2).int).2).int).2).int).2).int).2).int).2).bool_).1)), (Value.slice VA l.length vc), (Value.slice A287 (((R.bytes).1).length) c288)]) (by kernel_rfl) (by kernel_rfl) H111 (by kernel_rfl) (d := none) (by kernel_rfl) rfl (fun w291 H292 K293 => ?_)
      clear H111
      replace K108 := K108.trans K293 (U := none_) (fun i h1 h2 => h2) (fun i h1 h2 => by have h2 : i = b25 := h2; exfalso; omega)
      replace H109 := H109.keep K293 (by intro h; change b1 = b25 at h; omega)
      replace H274 := H274.keep K293 (by intro h; change b13 = b25 at h; omega)
      replace F290 := RdO.keep F290 K293 (fun i _ _ hi hs => by have hs : i = b25 := hs; have := ob31 i _ _ hi; omega)
      replace hOV := own_keep hOV K293 (fun i hi hs => by have hs : i = b25 := hs; have := obVb25 i hi; omega)
      replace hM := EntsMine.keep2 hM K293 (fun x hx i o s hA hs => by have hs : i = b25 := hs; exact oeb25 x hx i o s hA hs)
      replace O279 := own_keep O279 K293 (fun i hi hs => by have hs : i = b25 := hs; have := ob282 i hi; omega)
      clear K293
      refine Ops.done (by kernel_rfl) ?_
      refine q_seq (by kernel_rfl) ?_
      refine q_region (by kernel_rfl) ?_
      refine Ops.regs 1 [(2, (ptr b1)), (3, (i64 0)), (5, (ptr b25)), (6, (i64 (((⟨bs, 0, 0⟩ : Rdr).int).1))), (7, (i64 (((((⟨bs, 0, 0⟩ : Rdr).int).2).int).1))), (8, (i64 (((((((⟨bs, 0, 0⟩ : Rdr).int).2).int).2).int).1))), (9, (i64 (((((((((⟨bs, 0, 0⟩ : Rdr).int).2).int).2).int).2).int).1))), (73, (ptr b13))] (j := 1) (by kernel_rfl) (by kernel_rfl) ?_
      refine Ops.call (by kernel_rfl) (d := (some 74)) (by kernel_rfl) (RREnd_calls _ b13 A14 c15 ((R.bytes).2) hok275 H274 F290 hne21) ?_
      rintro _ w294 ⟨rfl, K295⟩
      refine ⟨_, _, rfl, rfl, ?_⟩
      replace K108 := K108.trans K295 (U := none_) (fun i h1 h2 => h2) (fun i h1 h2 => by exact h2)
      replace H109 := H109.keep K295 (fun h => h)
      replace H274 := H274.keep K295 (fun h => h)
      replace H292 := H292.keep K295 (fun h => h)
      replace F290 := RdO.keep0 F290 K295
      replace hOV := own_keep0 hOV K295
      replace hM := hM.keep2 K295 (fun _ _ _ _ _ _ h => h)
      replace O279 := own_keep0 O279 K295
      clear K295
      refine Ops.regs 1 [(2, (ptr b1)), (3, (i64 0)), (5, (ptr b25)), (6, (i64 (((⟨bs, 0, 0⟩ : Rdr).int).1))), (7, (i64 (((((⟨bs, 0, 0⟩ : Rdr).int).2).int).1))), (8, (i64 (((((((⟨bs, 0, 0⟩ : Rdr).int).2).int).2).int).1))), (9, (i64 (((((((((⟨bs, 0, 0⟩ : Rdr).int).2).int).2).int).2).int).1))), (14, (i64 (((R.bytes).2).end_)))] (j := 3) (by kernel_rfl) (by kernel_rfl) ?_
      refine Ops.done (by kernel_rfl) ?_
      refine q_seq (by kernel_rfl) ?_
      refine q_seq (by kernel_rfl) ?_
      refine q_region (by kernel_rfl) ?_
      refine Ops.regs 2 [(2, (ptr b1)), (3, (i64 0)), (5, (ptr b25)), (6, (i64 (((⟨bs, 0, 0⟩ : Rdr).int).1))), (7, (i64 (((((⟨bs, 0, 0⟩ : Rdr).int).2).int).1))), (8, (i64 (((((((⟨bs, 0, 0⟩ : Rdr).int).2).int).2).int).1))), (9, (i64 (((((((((⟨bs, 0, 0⟩ : Rdr).int).2).int).2).int).2).int).1))), (14, (i64 (((R.bytes).2).end_))), (76, (Value.bool ((((R.bytes).2).end_) != 0)))] (j := 2) (by kernel_rfl) (by kernel_rfl) ?_
      refine Ops.done (by kernel_rfl) ?_
      refine q_cond (o := .tmp 76) (b := ((((R.bytes).2).end_) != 0)) (by kernel_rfl) rfl (fun h296 => ?_) (fun h296 => ?_)
      · rw [h296]
        have p297 : ¬ (((R.bytes).2).end_ = 0) := of_bne_t h296
        refine q_seq (by kernel_rfl) ?_
        refine q_region (by kernel_rfl) ?_
        refine Ops.regs 2 [(2, (ptr b1)), (3, (i64 0)), (5, (ptr b25)), (6, (i64 (((⟨bs, 0, 0⟩ : Rdr).int).1))), (7, (i64 (((((⟨bs, 0, 0⟩ : Rdr).int).2).int).1))), (8, (i64 (((((((⟨bs, 0, 0⟩ : Rdr).int).2).int).2).int).1))), (9, (i64 (((((((((⟨bs, 0, 0⟩ : Rdr).int).2).int).2).int).2).int).1))), (77, (agg [(i64 0), (i64 0), (i64 0), (i64 0), (i64 0), (i64 0), (i64 0), (i64 0), (Value.bool false), (Value.slice none 0 0), (Value.slice none 0 0)])), (78, (i64 (((R.bytes).2).end_)))] (j := 2) (by kernel_rfl) (by kernel_rfl) ?_
        refine Ops.put (t := 49) (b := b1) (off := 0) (v := (agg [(i64 0), (i64 0), (i64 0), (i64 0), (i64 0), (i64 0), (i64 0), (i64 0), (Value.bool false), (Value.slice none 0 0), (Value.slice none 0 0)])) (ys := [(i64 0), (i64 0), (i64 0), (i64 0), (i64 0), (i64 0), (i64 0), (i64 0), (Value.bool false), (Value.slice none 0 0), (Value.slice none 0 0)]) (by kernel_rfl) (by kernel_rfl) H109 (by kernel_rfl) (d := none) (by kernel_rfl) rfl (fun w298 H299 K300 => ?_)
        clear H109
        replace K108 := K108.trans K300 (U := none_) (fun i h1 h2 => h2) (fun i h1 h2 => by have h2 : i = b1 := h2; exfalso; omega)
        replace H274 := H274.keep K300 (by intro h; change b13 = b1 at h; omega)
        replace H292 := H292.keep K300 (by intro h; change b25 = b1 at h; omega)
        replace F290 := RdO.keep F290 K300 (fun i _ _ hi hs => by have hs : i = b1 := hs; have := ob24 i _ _ hi; omega)
        replace hOV := own_keep hOV K300 (fun i hi hs => by have hs : i = b1 := hs; have := obVb1 i hi; omega)
        replace hM := EntsMine.keep2 hM K300 (fun x hx i o s hA hs => by have hs : i = b1 := hs; exact oeb1 x hx i o s hA hs)
        replace O279 := own_keep O279 K300 (fun i hi hs => by have hs : i = b1 := hs; have := ob280 i hi; omega)
        clear K300
        refine Ops.regs 1 [(2, (ptr b1)), (3, (i64 (((R.bytes).2).end_))), (5, (ptr b25)), (6, (i64 (((⟨bs, 0, 0⟩ : Rdr).int).1))), (7, (i64 (((((⟨bs, 0, 0⟩ : Rdr).int).2).int).1))), (8, (i64 (((((((⟨bs, 0, 0⟩ : Rdr).int).2).int).2).int).1))), (9, (i64 (((((((((⟨bs, 0, 0⟩ : Rdr).int).2).int).2).int).2).int).1)))] (j := 4) (by kernel_rfl) (by kernel_rfl) ?_
        refine Ops.done (by kernel_rfl) ?_
        refine q_ret (by kernel_rfl) ?_
        refine ⟨(Value.tuple #[(agg [(i64 0), (i64 0), (i64 0), (i64 0), (i64 0), (i64 0), (i64 0), (i64 0), (Value.bool false), (Value.slice none 0 0), (Value.slice none 0 0)]), (i64 (((R.bytes).2).end_))]), retv_cell_tmp rfl rfl (H299.loads (by kernel_rfl)) rfl, ?_⟩
        exact ⟨(⟨0, 0, 0, 0, 0, 0, 0, 0, false, [], []⟩ : MsgP), none, none, 0, 0, ((R.bytes).2).end_, rfl, K108, ⟨by (try simp only); omega, by (try simp only); omega, by (try simp only); omega, by (try simp only); omega, by (try simp only); omega, by (try simp only); omega, by (try simp only); omega, by (try simp only); omega, fun x hx => by cases hx⟩, by unfold unmsgB; rw [if_neg (by omega), if_pos (by rw [hmd]; omega), hmd]; rfl, (OwnT.nil _ _ _ _ _), (EntsMine.nil _ _ _), (World.ownsRow_nil _ _ _ _)⟩
      · rw [h296]
        have p301 : ((R.bytes).2).end_ = 0 := of_bne_f h296
        refine q_skip (by kernel_rfl) ?_
        refine q_seq (by kernel_rfl) ?_
        refine q_seq (by kernel_rfl) ?_
        refine q_region (by kernel_rfl) ?_
        refine Ops.regs 3 [(2, (ptr b1)), (3, (i64 0)), (5, (ptr b25)), (6, (i64 (((⟨bs, 0, 0⟩ : Rdr).int).1))), (7, (i64 (((((⟨bs, 0, 0⟩ : Rdr).int).2).int).1))), (8, (i64 (((((((⟨bs, 0, 0⟩ : Rdr).int).2).int).2).int).1))), (9, (i64 (((((((((⟨bs, 0, 0⟩ : Rdr).int).2).int).2).int).2).int).1))), (81, (Value.bool (decide (((⟨bs, 0, 0⟩ : Rdr).int).1 < 1))))] (j := 3) (by kernel_rfl) (by kernel_rfl) ?_
        refine Ops.split (decide (((⟨bs, 0, 0⟩ : Rdr).int).1 < 1)) (fun h302 => ?_) (fun h302 => ?_)
        · rw [h302]
          have p303 : ((⟨bs, 0, 0⟩ : Rdr).int).1 < 1 := of_decide_eq_true h302
          refine Ops.regs 27 [(2, (ptr b1)), (3, (i64 0)), (5, (ptr b25)), (6, (i64 (((⟨bs, 0, 0⟩ : Rdr).int).1))), (7, (i64 (((((⟨bs, 0, 0⟩ : Rdr).int).2).int).1))), (8, (i64 (((((((⟨bs, 0, 0⟩ : Rdr).int).2).int).2).int).1))), (9, (i64 (((((((((⟨bs, 0, 0⟩ : Rdr).int).2).int).2).int).2).int).1))), (108, (Value.bool true))] (j := 30) (by kernel_rfl) (by kernel_rfl) ?_
          refine Ops.done (by kernel_rfl) ?_
          refine q_then (o := .tmp 108) (by kernel_rfl) rfl ?_
          refine q_seq (by kernel_rfl) ?_
          refine q_region (by kernel_rfl) ?_
          refine Ops.regs 1 [(2, (ptr b1)), (3, (i64 0)), (5, (ptr b25)), (6, (i64 (((⟨bs, 0, 0⟩ : Rdr).int).1))), (7, (i64 (((((⟨bs, 0, 0⟩ : Rdr).int).2).int).1))), (8, (i64 (((((((⟨bs, 0, 0⟩ : Rdr).int).2).int).2).int).1))), (9, (i64 (((((((((⟨bs, 0, 0⟩ : Rdr).int).2).int).2).int).2).int).1))), (109, (agg [(i64 0), (i64 0), (i64 0), (i64 0), (i64 0), (i64 0), (i64 0), (i64 0), (Value.bool false), (Value.slice none 0 0), (Value.slice none 0 0)]))] (j := 1) (by kernel_rfl) (by kernel_rfl) ?_
          refine Ops.put (t := 49) (b := b1) (off := 0) (v := (agg [(i64 0), (i64 0), (i64 0), (i64 0), (i64 0), (i64 0), (i64 0), (i64 0), (Value.bool false), (Value.slice none 0 0), (Value.slice none 0 0)])) (ys := [(i64 0), (i64 0), (i64 0), (i64 0), (i64 0), (i64 0), (i64 0), (i64 0), (Value.bool false), (Value.slice none 0 0), (Value.slice none 0 0)]) (by kernel_rfl) (by kernel_rfl) H109 (by kernel_rfl) (d := none) (by kernel_rfl) rfl (fun w304 H305 K306 => ?_)
          clear H109
          replace K108 := K108.trans K306 (U := none_) (fun i h1 h2 => h2) (fun i h1 h2 => by have h2 : i = b1 := h2; exfalso; omega)
          replace H274 := H274.keep K306 (by intro h; change b13 = b1 at h; omega)
          replace H292 := H292.keep K306 (by intro h; change b25 = b1 at h; omega)
          replace F290 := RdO.keep F290 K306 (fun i _ _ hi hs => by have hs : i = b1 := hs; have := ob24 i _ _ hi; omega)
          replace hOV := own_keep hOV K306 (fun i hi hs => by have hs : i = b1 := hs; have := obVb1 i hi; omega)
          replace hM := EntsMine.keep2 hM K306 (fun x hx i o s hA hs => by have hs : i = b1 := hs; exact oeb1 x hx i o s hA hs)
          replace O279 := own_keep O279 K306 (fun i hi hs => by have hs : i = b1 := hs; have := ob280 i hi; omega)
          clear K306
          refine Ops.regs 1 [(2, (ptr b1)), (3, (i64 1)), (5, (ptr b25)), (6, (i64 (((⟨bs, 0, 0⟩ : Rdr).int).1))), (7, (i64 (((((⟨bs, 0, 0⟩ : Rdr).int).2).int).1))), (8, (i64 (((((((⟨bs, 0, 0⟩ : Rdr).int).2).int).2).int).1))), (9, (i64 (((((((((⟨bs, 0, 0⟩ : Rdr).int).2).int).2).int).2).int).1)))] (j := 3) (by kernel_rfl) (by kernel_rfl) ?_
          refine Ops.done (by kernel_rfl) ?_
          refine q_ret (by kernel_rfl) ?_
          refine ⟨(Value.tuple #[(agg [(i64 0), (i64 0), (i64 0), (i64 0), (i64 0), (i64 0), (i64 0), (i64 0), (Value.bool false), (Value.slice none 0 0), (Value.slice none 0 0)]), (i64 1)]), retv_cell_tmp rfl rfl (H305.loads (by kernel_rfl)) rfl, ?_⟩
          exact ⟨(⟨0, 0, 0, 0, 0, 0, 0, 0, false, [], []⟩ : MsgP), none, none, 0, 0, 1, rfl, K108, ⟨by (try simp only); omega, by (try simp only); omega, by (try simp only); omega, by (try simp only); omega, by (try simp only); omega, by (try simp only); omega, by (try simp only); omega, by (try simp only); omega, fun x hx => by cases hx⟩, by unfold unmsgB; rw [if_neg (by omega), if_neg (by rw [hmd]; omega), if_neg (fun q => by unfold Rdr.mfit at q; simp only [Rdr.mint, Rdr.nth] at q; omega)]; rfl, (OwnT.nil _ _ _ _ _), (EntsMine.nil _ _ _), (World.ownsRow_nil _ _ _ _)⟩
        · rw [h302]
          have p307 : ¬ (((⟨bs, 0, 0⟩ : Rdr).int).1 < 1) := of_decide_eq_false h302
          refine Ops.regs 4 [(2, (ptr b1)), (3, (i64 0)), (5, (ptr b25)), (6, (i64 (((⟨bs, 0, 0⟩ : Rdr).int).1))), (7, (i64 (((((⟨bs, 0, 0⟩ : Rdr).int).2).int).1))), (8, (i64 (((((((⟨bs, 0, 0⟩ : Rdr).int).2).int).2).int).1))), (9, (i64 (((((((((⟨bs, 0, 0⟩ : Rdr).int).2).int).2).int).2).int).1))), (85, (Value.bool (decide (((⟨bs, 0, 0⟩ : Rdr).int).1 > 6))))] (j := 7) (by kernel_rfl) (by kernel_rfl) ?_
          refine Ops.split (decide (((⟨bs, 0, 0⟩ : Rdr).int).1 > 6)) (fun h308 => ?_) (fun h308 => ?_)
          · rw [h308]
            have p309 : ((⟨bs, 0, 0⟩ : Rdr).int).1 > 6 := of_decide_eq_true h308
            refine Ops.regs 23 [(2, (ptr b1)), (3, (i64 0)), (5, (ptr b25)), (6, (i64 (((⟨bs, 0, 0⟩ : Rdr).int).1))), (7, (i64 (((((⟨bs, 0, 0⟩ : Rdr).int).2).int).1))), (8, (i64 (((((((⟨bs, 0, 0⟩ : Rdr).int).2).int).2).int).1))), (9, (i64 (((((((((⟨bs, 0, 0⟩ : Rdr).int).2).int).2).int).2).int).1))), (108, (Value.bool true))] (j := 30) (by kernel_rfl) (by kernel_rfl) ?_
            refine Ops.done (by kernel_rfl) ?_
            refine q_then (o := .tmp 108) (by kernel_rfl) rfl ?_
            refine q_seq (by kernel_rfl) ?_
            refine q_region (by kernel_rfl) ?_
            refine Ops.regs 1 [(2, (ptr b1)), (3, (i64 0)), (5, (ptr b25)), (6, (i64 (((⟨bs, 0, 0⟩ : Rdr).int).1))), (7, (i64 (((((⟨bs, 0, 0⟩ : Rdr).int).2).int).1))), (8, (i64 (((((((⟨bs, 0, 0⟩ : Rdr).int).2).int).2).int).1))), (9, (i64 (((((((((⟨bs, 0, 0⟩ : Rdr).int).2).int).2).int).2).int).1))), (109, (agg [(i64 0), (i64 0), (i64 0), (i64 0), (i64 0), (i64 0), (i64 0), (i64 0), (Value.bool false), (Value.slice none 0 0), (Value.slice none 0 0)]))] (j := 1) (by kernel_rfl) (by kernel_rfl) ?_
            refine Ops.put (t := 49) (b := b1) (off := 0) (v := (agg [(i64 0), (i64 0), (i64 0), (i64 0), (i64 0), (i64 0), (i64 0), (i64 0), (Value.bool false), (Value.slice none 0 0), (Value.slice none 0 0)])) (ys := [(i64 0), (i64 0), (i64 0), (i64 0), (i64 0), (i64 0), (i64 0), (i64 0), (Value.bool false), (Value.slice none 0 0), (Value.slice none 0 0)]) (by kernel_rfl) (by kernel_rfl) H109 (by kernel_rfl) (d := none) (by kernel_rfl) rfl (fun w310 H311 K312 => ?_)
            clear H109
            replace K108 := K108.trans K312 (U := none_) (fun i h1 h2 => h2) (fun i h1 h2 => by have h2 : i = b1 := h2; exfalso; omega)
            replace H274 := H274.keep K312 (by intro h; change b13 = b1 at h; omega)
            replace H292 := H292.keep K312 (by intro h; change b25 = b1 at h; omega)
            replace F290 := RdO.keep F290 K312 (fun i _ _ hi hs => by have hs : i = b1 := hs; have := ob24 i _ _ hi; omega)
            replace hOV := own_keep hOV K312 (fun i hi hs => by have hs : i = b1 := hs; have := obVb1 i hi; omega)
            replace hM := EntsMine.keep2 hM K312 (fun x hx i o s hA hs => by have hs : i = b1 := hs; exact oeb1 x hx i o s hA hs)
            replace O279 := own_keep O279 K312 (fun i hi hs => by have hs : i = b1 := hs; have := ob280 i hi; omega)
            clear K312
            refine Ops.regs 1 [(2, (ptr b1)), (3, (i64 1)), (5, (ptr b25)), (6, (i64 (((⟨bs, 0, 0⟩ : Rdr).int).1))), (7, (i64 (((((⟨bs, 0, 0⟩ : Rdr).int).2).int).1))), (8, (i64 (((((((⟨bs, 0, 0⟩ : Rdr).int).2).int).2).int).1))), (9, (i64 (((((((((⟨bs, 0, 0⟩ : Rdr).int).2).int).2).int).2).int).1)))] (j := 3) (by kernel_rfl) (by kernel_rfl) ?_
            refine Ops.done (by kernel_rfl) ?_
            refine q_ret (by kernel_rfl) ?_
            refine ⟨(Value.tuple #[(agg [(i64 0), (i64 0), (i64 0), (i64 0), (i64 0), (i64 0), (i64 0), (i64 0), (Value.bool false), (Value.slice none 0 0), (Value.slice none 0 0)]), (i64 1)]), retv_cell_tmp rfl rfl (H311.loads (by kernel_rfl)) rfl, ?_⟩
            exact ⟨(⟨0, 0, 0, 0, 0, 0, 0, 0, false, [], []⟩ : MsgP), none, none, 0, 0, 1, rfl, K108, ⟨by (try simp only); omega, by (try simp only); omega, by (try simp only); omega, by (try simp only); omega, by (try simp only); omega, by (try simp only); omega, by (try simp only); omega, by (try simp only); omega, fun x hx => by cases hx⟩, by unfold unmsgB; rw [if_neg (by omega), if_neg (by rw [hmd]; omega), if_neg (fun q => by unfold Rdr.mfit at q; simp only [Rdr.mint, Rdr.nth] at q; omega)]; rfl, (OwnT.nil _ _ _ _ _), (EntsMine.nil _ _ _), (World.ownsRow_nil _ _ _ _)⟩
          · rw [h308]
            have p313 : ¬ (((⟨bs, 0, 0⟩ : Rdr).int).1 > 6) := of_decide_eq_false h308
            refine Ops.regs 4 [(2, (ptr b1)), (3, (i64 0)), (5, (ptr b25)), (6, (i64 (((⟨bs, 0, 0⟩ : Rdr).int).1))), (7, (i64 (((((⟨bs, 0, 0⟩ : Rdr).int).2).int).1))), (8, (i64 (((((((⟨bs, 0, 0⟩ : Rdr).int).2).int).2).int).1))), (9, (i64 (((((((((⟨bs, 0, 0⟩ : Rdr).int).2).int).2).int).2).int).1))), (89, (Value.bool (decide (((((⟨bs, 0, 0⟩ : Rdr).int).2).int).1 < 0))))] (j := 11) (by kernel_rfl) (by kernel_rfl) ?_
            refine Ops.split (decide (((((⟨bs, 0, 0⟩ : Rdr).int).2).int).1 < 0)) (fun h314 => ?_) (fun h314 => ?_)
            · rw [h314]
              have p315 : ((((⟨bs, 0, 0⟩ : Rdr).int).2).int).1 < 0 := of_decide_eq_true h314
              refine Ops.regs 19 [(2, (ptr b1)), (3, (i64 0)), (5, (ptr b25)), (6, (i64 (((⟨bs, 0, 0⟩ : Rdr).int).1))), (7, (i64 (((((⟨bs, 0, 0⟩ : Rdr).int).2).int).1))), (8, (i64 (((((((⟨bs, 0, 0⟩ : Rdr).int).2).int).2).int).1))), (9, (i64 (((((((((⟨bs, 0, 0⟩ : Rdr).int).2).int).2).int).2).int).1))), (108, (Value.bool true))] (j := 30) (by kernel_rfl) (by kernel_rfl) ?_
              refine Ops.done (by kernel_rfl) ?_
              refine q_then (o := .tmp 108) (by kernel_rfl) rfl ?_
              refine q_seq (by kernel_rfl) ?_
              refine q_region (by kernel_rfl) ?_
              refine Ops.regs 1 [(2, (ptr b1)), (3, (i64 0)), (5, (ptr b25)), (6, (i64 (((⟨bs, 0, 0⟩ : Rdr).int).1))), (7, (i64 (((((⟨bs, 0, 0⟩ : Rdr).int).2).int).1))), (8, (i64 (((((((⟨bs, 0, 0⟩ : Rdr).int).2).int).2).int).1))), (9, (i64 (((((((((⟨bs, 0, 0⟩ : Rdr).int).2).int).2).int).2).int).1))), (109, (agg [(i64 0), (i64 0), (i64 0), (i64 0), (i64 0), (i64 0), (i64 0), (i64 0), (Value.bool false), (Value.slice none 0 0), (Value.slice none 0 0)]))] (j := 1) (by kernel_rfl) (by kernel_rfl) ?_
              refine Ops.put (t := 49) (b := b1) (off := 0) (v := (agg [(i64 0), (i64 0), (i64 0), (i64 0), (i64 0), (i64 0), (i64 0), (i64 0), (Value.bool false), (Value.slice none 0 0), (Value.slice none 0 0)])) (ys := [(i64 0), (i64 0), (i64 0), (i64 0), (i64 0), (i64 0), (i64 0), (i64 0), (Value.bool false), (Value.slice none 0 0), (Value.slice none 0 0)]) (by kernel_rfl) (by kernel_rfl) H109 (by kernel_rfl) (d := none) (by kernel_rfl) rfl (fun w316 H317 K318 => ?_)
              clear H109
              replace K108 := K108.trans K318 (U := none_) (fun i h1 h2 => h2) (fun i h1 h2 => by have h2 : i = b1 := h2; exfalso; omega)
              replace H274 := H274.keep K318 (by intro h; change b13 = b1 at h; omega)
              replace H292 := H292.keep K318 (by intro h; change b25 = b1 at h; omega)
              replace F290 := RdO.keep F290 K318 (fun i _ _ hi hs => by have hs : i = b1 := hs; have := ob24 i _ _ hi; omega)
              replace hOV := own_keep hOV K318 (fun i hi hs => by have hs : i = b1 := hs; have := obVb1 i hi; omega)
              replace hM := EntsMine.keep2 hM K318 (fun x hx i o s hA hs => by have hs : i = b1 := hs; exact oeb1 x hx i o s hA hs)
              replace O279 := own_keep O279 K318 (fun i hi hs => by have hs : i = b1 := hs; have := ob280 i hi; omega)
              clear K318
              refine Ops.regs 1 [(2, (ptr b1)), (3, (i64 1)), (5, (ptr b25)), (6, (i64 (((⟨bs, 0, 0⟩ : Rdr).int).1))), (7, (i64 (((((⟨bs, 0, 0⟩ : Rdr).int).2).int).1))), (8, (i64 (((((((⟨bs, 0, 0⟩ : Rdr).int).2).int).2).int).1))), (9, (i64 (((((((((⟨bs, 0, 0⟩ : Rdr).int).2).int).2).int).2).int).1)))] (j := 3) (by kernel_rfl) (by kernel_rfl) ?_
              refine Ops.done (by kernel_rfl) ?_
              refine q_ret (by kernel_rfl) ?_
              refine ⟨(Value.tuple #[(agg [(i64 0), (i64 0), (i64 0), (i64 0), (i64 0), (i64 0), (i64 0), (i64 0), (Value.bool false), (Value.slice none 0 0), (Value.slice none 0 0)]), (i64 1)]), retv_cell_tmp rfl rfl (H317.loads (by kernel_rfl)) rfl, ?_⟩
              exact ⟨(⟨0, 0, 0, 0, 0, 0, 0, 0, false, [], []⟩ : MsgP), none, none, 0, 0, 1, rfl, K108, ⟨by (try simp only); omega, by (try simp only); omega, by (try simp only); omega, by (try simp only); omega, by (try simp only); omega, by (try simp only); omega, by (try simp only); omega, by (try simp only); omega, fun x hx => by cases hx⟩, by unfold unmsgB; rw [if_neg (by omega), if_neg (by rw [hmd]; omega), if_neg (fun q => by unfold Rdr.mfit at q; simp only [Rdr.mint, Rdr.nth] at q; omega)]; rfl, (OwnT.nil _ _ _ _ _), (EntsMine.nil _ _ _), (World.ownsRow_nil _ _ _ _)⟩
            · rw [h314]
              have p319 : ¬ (((((⟨bs, 0, 0⟩ : Rdr).int).2).int).1 < 0) := of_decide_eq_false h314
              refine Ops.regs 4 [(2, (ptr b1)), (3, (i64 0)), (5, (ptr b25)), (6, (i64 (((⟨bs, 0, 0⟩ : Rdr).int).1))), (7, (i64 (((((⟨bs, 0, 0⟩ : Rdr).int).2).int).1))), (8, (i64 (((((((⟨bs, 0, 0⟩ : Rdr).int).2).int).2).int).1))), (9, (i64 (((((((((⟨bs, 0, 0⟩ : Rdr).int).2).int).2).int).2).int).1))), (93, (Value.bool (decide (((((⟨bs, 0, 0⟩ : Rdr).int).2).int).1 > 3))))] (j := 15) (by kernel_rfl) (by kernel_rfl) ?_
              refine Ops.split (decide (((((⟨bs, 0, 0⟩ : Rdr).int).2).int).1 > 3)) (fun h320 => ?_) (fun h320 => ?_)
              · rw [h320]
                have p321 : ((((⟨bs, 0, 0⟩ : Rdr).int).2).int).1 > 3 := of_decide_eq_true h320
                refine Ops.regs 15 [(2, (ptr b1)), (3, (i64 0)), (5, (ptr b25)), (6, (i64 (((⟨bs, 0, 0⟩ : Rdr).int).1))), (7, (i64 (((((⟨bs, 0, 0⟩ : Rdr).int).2).int).1))), (8, (i64 (((((((⟨bs, 0, 0⟩ : Rdr).int).2).int).2).int).1))), (9, (i64 (((((((((⟨bs, 0, 0⟩ : Rdr).int).2).int).2).int).2).int).1))), (108, (Value.bool true))] (j := 30) (by kernel_rfl) (by kernel_rfl) ?_
                refine Ops.done (by kernel_rfl) ?_
                refine q_then (o := .tmp 108) (by kernel_rfl) rfl ?_
                refine q_seq (by kernel_rfl) ?_
                refine q_region (by kernel_rfl) ?_
                refine Ops.regs 1 [(2, (ptr b1)), (3, (i64 0)), (5, (ptr b25)), (6, (i64 (((⟨bs, 0, 0⟩ : Rdr).int).1))), (7, (i64 (((((⟨bs, 0, 0⟩ : Rdr).int).2).int).1))), (8, (i64 (((((((⟨bs, 0, 0⟩ : Rdr).int).2).int).2).int).1))), (9, (i64 (((((((((⟨bs, 0, 0⟩ : Rdr).int).2).int).2).int).2).int).1))), (109, (agg [(i64 0), (i64 0), (i64 0), (i64 0), (i64 0), (i64 0), (i64 0), (i64 0), (Value.bool false), (Value.slice none 0 0), (Value.slice none 0 0)]))] (j := 1) (by kernel_rfl) (by kernel_rfl) ?_
                refine Ops.put (t := 49) (b := b1) (off := 0) (v := (agg [(i64 0), (i64 0), (i64 0), (i64 0), (i64 0), (i64 0), (i64 0), (i64 0), (Value.bool false), (Value.slice none 0 0), (Value.slice none 0 0)])) (ys := [(i64 0), (i64 0), (i64 0), (i64 0), (i64 0), (i64 0), (i64 0), (i64 0), (Value.bool false), (Value.slice none 0 0), (Value.slice none 0 0)]) (by kernel_rfl) (by kernel_rfl) H109 (by kernel_rfl) (d := none) (by kernel_rfl) rfl (fun w322 H323 K324 => ?_)
                clear H109
                replace K108 := K108.trans K324 (U := none_) (fun i h1 h2 => h2) (fun i h1 h2 => by have h2 : i = b1 := h2; exfalso; omega)
                replace H274 := H274.keep K324 (by intro h; change b13 = b1 at h; omega)
                replace H292 := H292.keep K324 (by intro h; change b25 = b1 at h; omega)
                replace F290 := RdO.keep F290 K324 (fun i _ _ hi hs => by have hs : i = b1 := hs; have := ob24 i _ _ hi; omega)
                replace hOV := own_keep hOV K324 (fun i hi hs => by have hs : i = b1 := hs; have := obVb1 i hi; omega)
                replace hM := EntsMine.keep2 hM K324 (fun x hx i o s hA hs => by have hs : i = b1 := hs; exact oeb1 x hx i o s hA hs)
                replace O279 := own_keep O279 K324 (fun i hi hs => by have hs : i = b1 := hs; have := ob280 i hi; omega)
                clear K324
                refine Ops.regs 1 [(2, (ptr b1)), (3, (i64 1)), (5, (ptr b25)), (6, (i64 (((⟨bs, 0, 0⟩ : Rdr).int).1))), (7, (i64 (((((⟨bs, 0, 0⟩ : Rdr).int).2).int).1))), (8, (i64 (((((((⟨bs, 0, 0⟩ : Rdr).int).2).int).2).int).1))), (9, (i64 (((((((((⟨bs, 0, 0⟩ : Rdr).int).2).int).2).int).2).int).1)))] (j := 3) (by kernel_rfl) (by kernel_rfl) ?_
                refine Ops.done (by kernel_rfl) ?_
                refine q_ret (by kernel_rfl) ?_
                refine ⟨(Value.tuple #[(agg [(i64 0), (i64 0), (i64 0), (i64 0), (i64 0), (i64 0), (i64 0), (i64 0), (Value.bool false), (Value.slice none 0 0), (Value.slice none 0 0)]), (i64 1)]), retv_cell_tmp rfl rfl (H323.loads (by kernel_rfl)) rfl, ?_⟩
                exact ⟨(⟨0, 0, 0, 0, 0, 0, 0, 0, false, [], []⟩ : MsgP), none, none, 0, 0, 1, rfl, K108, ⟨by (try simp only); omega, by (try simp only); omega, by (try simp only); omega, by (try simp only); omega, by (try simp only); omega, by (try simp only); omega, by (try simp only); omega, by (try simp only); omega, fun x hx => by cases hx⟩, by unfold unmsgB; rw [if_neg (by omega), if_neg (by rw [hmd]; omega), if_neg (fun q => by unfold Rdr.mfit at q; simp only [Rdr.mint, Rdr.nth] at q; omega)]; rfl, (OwnT.nil _ _ _ _ _), (EntsMine.nil _ _ _), (World.ownsRow_nil _ _ _ _)⟩
              · rw [h320]
                have p325 : ¬ (((((⟨bs, 0, 0⟩ : Rdr).int).2).int).1 > 3) := of_decide_eq_false h320
                refine Ops.regs 4 [(2, (ptr b1)), (3, (i64 0)), (5, (ptr b25)), (6, (i64 (((⟨bs, 0, 0⟩ : Rdr).int).1))), (7, (i64 (((((⟨bs, 0, 0⟩ : Rdr).int).2).int).1))), (8, (i64 (((((((⟨bs, 0, 0⟩ : Rdr).int).2).int).2).int).1))), (9, (i64 (((((((((⟨bs, 0, 0⟩ : Rdr).int).2).int).2).int).2).int).1))), (97, (Value.bool (decide (((((((⟨bs, 0, 0⟩ : Rdr).int).2).int).2).int).1 < 0))))] (j := 19) (by kernel_rfl) (by kernel_rfl) ?_
                refine Ops.split (decide (((((((⟨bs, 0, 0⟩ : Rdr).int).2).int).2).int).1 < 0)) (fun h326 => ?_) (fun h326 => ?_)
                · rw [h326]
                  have p327 : ((((((⟨bs, 0, 0⟩ : Rdr).int).2).int).2).int).1 < 0 := of_decide_eq_true h326
                  refine Ops.regs 11 [(2, (ptr b1)), (3, (i64 0)), (5, (ptr b25)), (6, (i64 (((⟨bs, 0, 0⟩ : Rdr).int).1))), (7, (i64 (((((⟨bs, 0, 0⟩ : Rdr).int).2).int).1))), (8, (i64 (((((((⟨bs, 0, 0⟩ : Rdr).int).2).int).2).int).1))), (9, (i64 (((((((((⟨bs, 0, 0⟩ : Rdr).int).2).int).2).int).2).int).1))), (108, (Value.bool true))] (j := 30) (by kernel_rfl) (by kernel_rfl) ?_
                  refine Ops.done (by kernel_rfl) ?_
                  refine q_then (o := .tmp 108) (by kernel_rfl) rfl ?_
                  refine q_seq (by kernel_rfl) ?_
                  refine q_region (by kernel_rfl) ?_
                  refine Ops.regs 1 [(2, (ptr b1)), (3, (i64 0)), (5, (ptr b25)), (6, (i64 (((⟨bs, 0, 0⟩ : Rdr).int).1))), (7, (i64 (((((⟨bs, 0, 0⟩ : Rdr).int).2).int).1))), (8, (i64 (((((((⟨bs, 0, 0⟩ : Rdr).int).2).int).2).int).1))), (9, (i64 (((((((((⟨bs, 0, 0⟩ : Rdr).int).2).int).2).int).2).int).1))), (109, (agg [(i64 0), (i64 0), (i64 0), (i64 0), (i64 0), (i64 0), (i64 0), (i64 0), (Value.bool false), (Value.slice none 0 0), (Value.slice none 0 0)]))] (j := 1) (by kernel_rfl) (by kernel_rfl) ?_
                  refine Ops.put (t := 49) (b := b1) (off := 0) (v := (agg [(i64 0), (i64 0), (i64 0), (i64 0), (i64 0), (i64 0), (i64 0), (i64 0), (Value.bool false), (Value.slice none 0 0), (Value.slice none 0 0)])) (ys := [(i64 0), (i64 0), (i64 0), (i64 0), (i64 0), (i64 0), (i64 0), (i64 0), (Value.bool false), (Value.slice none 0 0), (Value.slice none 0 0)]) (by kernel_rfl) (by kernel_rfl) H109 (by kernel_rfl) (d := none) (by kernel_rfl) rfl (fun w328 H329 K330 => ?_)
                  clear H109
                  replace K108 := K108.trans K330 (U := none_) (fun i h1 h2 => h2) (fun i h1 h2 => by have h2 : i = b1 := h2; exfalso; omega)
                  replace H274 := H274.keep K330 (by intro h; change b13 = b1 at h; omega)
                  replace H292 := H292.keep K330 (by intro h; change b25 = b1 at h; omega)
                  replace F290 := RdO.keep F290 K330 (fun i _ _ hi hs => by have hs : i = b1 := hs; have := ob24 i _ _ hi; omega)
                  replace hOV := own_keep hOV K330 (fun i hi hs => by have hs : i = b1 := hs; have := obVb1 i hi; omega)
                  replace hM := EntsMine.keep2 hM K330 (fun x hx i o s hA hs => by have hs : i = b1 := hs; exact oeb1 x hx i o s hA hs)
                  replace O279 := own_keep O279 K330 (fun i hi hs => by have hs : i = b1 := hs; have := ob280 i hi; omega)
                  clear K330
                  refine Ops.regs 1 [(2, (ptr b1)), (3, (i64 1)), (5, (ptr b25)), (6, (i64 (((⟨bs, 0, 0⟩ : Rdr).int).1))), (7, (i64 (((((⟨bs, 0, 0⟩ : Rdr).int).2).int).1))), (8, (i64 (((((((⟨bs, 0, 0⟩ : Rdr).int).2).int).2).int).1))), (9, (i64 (((((((((⟨bs, 0, 0⟩ : Rdr).int).2).int).2).int).2).int).1)))] (j := 3) (by kernel_rfl) (by kernel_rfl) ?_
                  refine Ops.done (by kernel_rfl) ?_
                  refine q_ret (by kernel_rfl) ?_
                  refine ⟨(Value.tuple #[(agg [(i64 0), (i64 0), (i64 0), (i64 0), (i64 0), (i64 0), (i64 0), (i64 0), (Value.bool false), (Value.slice none 0 0), (Value.slice none 0 0)]), (i64 1)]), retv_cell_tmp rfl rfl (H329.loads (by kernel_rfl)) rfl, ?_⟩
                  exact ⟨(⟨0, 0, 0, 0, 0, 0, 0, 0, false, [], []⟩ : MsgP), none, none, 0, 0, 1, rfl, K108, ⟨by (try simp only); omega, by (try simp only); omega, by (try simp only); omega, by (try simp only); omega, by (try simp only); omega, by (try simp only); omega, by (try simp only); omega, by (try simp only); omega, fun x hx => by cases hx⟩, by unfold unmsgB; rw [if_neg (by omega), if_neg (by rw [hmd]; omega), if_neg (fun q => by unfold Rdr.mfit at q; simp only [Rdr.mint, Rdr.nth] at q; omega)]; rfl, (OwnT.nil _ _ _ _ _), (EntsMine.nil _ _ _), (World.ownsRow_nil _ _ _ _)⟩
                · rw [h326]
                  have p331 : ¬ (((((((⟨bs, 0, 0⟩ : Rdr).int).2).int).2).int).1 < 0) := of_decide_eq_false h326
                  refine Ops.regs 4 [(2, (ptr b1)), (3, (i64 0)), (5, (ptr b25)), (6, (i64 (((⟨bs, 0, 0⟩ : Rdr).int).1))), (7, (i64 (((((⟨bs, 0, 0⟩ : Rdr).int).2).int).1))), (8, (i64 (((((((⟨bs, 0, 0⟩ : Rdr).int).2).int).2).int).1))), (9, (i64 (((((((((⟨bs, 0, 0⟩ : Rdr).int).2).int).2).int).2).int).1))), (101, (Value.bool (decide (((((((⟨bs, 0, 0⟩ : Rdr).int).2).int).2).int).1 ≥ 5))))] (j := 23) (by kernel_rfl) (by kernel_rfl) ?_
                  refine Ops.split (decide (((((((⟨bs, 0, 0⟩ : Rdr).int).2).int).2).int).1 ≥ 5)) (fun h332 => ?_) (fun h332 => ?_)
                  · rw [h332]
                    have p333 : ((((((⟨bs, 0, 0⟩ : Rdr).int).2).int).2).int).1 ≥ 5 := of_decide_eq_true h332
                    refine Ops.regs 7 [(2, (ptr b1)), (3, (i64 0)), (5, (ptr b25)), (6, (i64 (((⟨bs, 0, 0⟩ : Rdr).int).1))), (7, (i64 (((((⟨bs, 0, 0⟩ : Rdr).int).2).int).1))), (8, (i64 (((((((⟨bs, 0, 0⟩ : Rdr).int).2).int).2).int).1))), (9, (i64 (((((((((⟨bs, 0, 0⟩ : Rdr).int).2).int).2).int).2).int).1))), (108, (Value.bool true))] (j := 30) (by kernel_rfl) (by kernel_rfl) ?_
                    refine Ops.done (by kernel_rfl) ?_
                    refine q_then (o := .tmp 108) (by kernel_rfl) rfl ?_
                    refine q_seq (by kernel_rfl) ?_
                    refine q_region (by kernel_rfl) ?_
                    refine Ops.regs 1 [(2, (ptr b1)), (3, (i64 0)), (5, (ptr b25)), (6, (i64 (((⟨bs, 0, 0⟩ : Rdr).int).1))), (7, (i64 (((((⟨bs, 0, 0⟩ : Rdr).int).2).int).1))), (8, (i64 (((((((⟨bs, 0, 0⟩ : Rdr).int).2).int).2).int).1))), (9, (i64 (((((((((⟨bs, 0, 0⟩ : Rdr).int).2).int).2).int).2).int).1))), (109, (agg [(i64 0), (i64 0), (i64 0), (i64 0), (i64 0), (i64 0), (i64 0), (i64 0), (Value.bool false), (Value.slice none 0 0), (Value.slice none 0 0)]))] (j := 1) (by kernel_rfl) (by kernel_rfl) ?_
                    refine Ops.put (t := 49) (b := b1) (off := 0) (v := (agg [(i64 0), (i64 0), (i64 0), (i64 0), (i64 0), (i64 0), (i64 0), (i64 0), (Value.bool false), (Value.slice none 0 0), (Value.slice none 0 0)])) (ys := [(i64 0), (i64 0), (i64 0), (i64 0), (i64 0), (i64 0), (i64 0), (i64 0), (Value.bool false), (Value.slice none 0 0), (Value.slice none 0 0)]) (by kernel_rfl) (by kernel_rfl) H109 (by kernel_rfl) (d := none) (by kernel_rfl) rfl (fun w334 H335 K336 => ?_)
                    clear H109
                    replace K108 := K108.trans K336 (U := none_) (fun i h1 h2 => h2) (fun i h1 h2 => by have h2 : i = b1 := h2; exfalso; omega)
                    replace H274 := H274.keep K336 (by intro h; change b13 = b1 at h; omega)
                    replace H292 := H292.keep K336 (by intro h; change b25 = b1 at h; omega)
                    replace F290 := RdO.keep F290 K336 (fun i _ _ hi hs => by have hs : i = b1 := hs; have := ob24 i _ _ hi; omega)
                    replace hOV := own_keep hOV K336 (fun i hi hs => by have hs : i = b1 := hs; have := obVb1 i hi; omega)
                    replace hM := EntsMine.keep2 hM K336 (fun x hx i o s hA hs => by have hs : i = b1 := hs; exact oeb1 x hx i o s hA hs)
                    replace O279 := own_keep O279 K336 (fun i hi hs => by have hs : i = b1 := hs; have := ob280 i hi; omega)
                    clear K336
                    refine Ops.regs 1 [(2, (ptr b1)), (3, (i64 1)), (5, (ptr b25)), (6, (i64 (((⟨bs, 0, 0⟩ : Rdr).int).1))), (7, (i64 (((((⟨bs, 0, 0⟩ : Rdr).int).2).int).1))), (8, (i64 (((((((⟨bs, 0, 0⟩ : Rdr).int).2).int).2).int).1))), (9, (i64 (((((((((⟨bs, 0, 0⟩ : Rdr).int).2).int).2).int).2).int).1)))] (j := 3) (by kernel_rfl) (by kernel_rfl) ?_
                    refine Ops.done (by kernel_rfl) ?_
                    refine q_ret (by kernel_rfl) ?_
                    refine ⟨(Value.tuple #[(agg [(i64 0), (i64 0), (i64 0), (i64 0), (i64 0), (i64 0), (i64 0), (i64 0), (Value.bool false), (Value.slice none 0 0), (Value.slice none 0 0)]), (i64 1)]), retv_cell_tmp rfl rfl (H335.loads (by kernel_rfl)) rfl, ?_⟩
                    exact ⟨(⟨0, 0, 0, 0, 0, 0, 0, 0, false, [], []⟩ : MsgP), none, none, 0, 0, 1, rfl, K108, ⟨by (try simp only); omega, by (try simp only); omega, by (try simp only); omega, by (try simp only); omega, by (try simp only); omega, by (try simp only); omega, by (try simp only); omega, by (try simp only); omega, fun x hx => by cases hx⟩, by unfold unmsgB; rw [if_neg (by omega), if_neg (by rw [hmd]; omega), if_neg (fun q => by unfold Rdr.mfit at q; simp only [Rdr.mint, Rdr.nth] at q; omega)]; rfl, (OwnT.nil _ _ _ _ _), (EntsMine.nil _ _ _), (World.ownsRow_nil _ _ _ _)⟩
                  · rw [h332]
                    have p337 : ¬ (((((((⟨bs, 0, 0⟩ : Rdr).int).2).int).2).int).1 ≥ 5) := of_decide_eq_false h332
                    refine Ops.regs 4 [(2, (ptr b1)), (3, (i64 0)), (5, (ptr b25)), (6, (i64 (((⟨bs, 0, 0⟩ : Rdr).int).1))), (7, (i64 (((((⟨bs, 0, 0⟩ : Rdr).int).2).int).1))), (8, (i64 (((((((⟨bs, 0, 0⟩ : Rdr).int).2).int).2).int).1))), (9, (i64 (((((((((⟨bs, 0, 0⟩ : Rdr).int).2).int).2).int).2).int).1))), (105, (Value.bool (decide (((((((((⟨bs, 0, 0⟩ : Rdr).int).2).int).2).int).2).int).1 < 0))))] (j := 27) (by kernel_rfl) (by kernel_rfl) ?_
                    refine Ops.split (decide (((((((((⟨bs, 0, 0⟩ : Rdr).int).2).int).2).int).2).int).1 < 0)) (fun h338 => ?_) (fun h338 => ?_)
                    · rw [h338]
                      have p339 : ((((((((⟨bs, 0, 0⟩ : Rdr).int).2).int).2).int).2).int).1 < 0 := of_decide_eq_true h338
                      refine Ops.regs 3 [(2, (ptr b1)), (3, (i64 0)), (5, (ptr b25)), (6, (i64 (((⟨bs, 0, 0⟩ : Rdr).int).1))), (7, (i64 (((((⟨bs, 0, 0⟩ : Rdr).int).2).int).1))), (8, (i64 (((((((⟨bs, 0, 0⟩ : Rdr).int).2).int).2).int).1))), (9, (i64 (((((((((⟨bs, 0, 0⟩ : Rdr).int).2).int).2).int).2).int).1))), (108, (Value.bool true))] (j := 30) (by kernel_rfl) (by kernel_rfl) ?_
                      refine Ops.done (by kernel_rfl) ?_
                      refine q_then (o := .tmp 108) (by kernel_rfl) rfl ?_
                      refine q_seq (by kernel_rfl) ?_
                      refine q_region (by kernel_rfl) ?_
                      refine Ops.regs 1 [(2, (ptr b1)), (3, (i64 0)), (5, (ptr b25)), (6, (i64 (((⟨bs, 0, 0⟩ : Rdr).int).1))), (7, (i64 (((((⟨bs, 0, 0⟩ : Rdr).int).2).int).1))), (8, (i64 (((((((⟨bs, 0, 0⟩ : Rdr).int).2).int).2).int).1))), (9, (i64 (((((((((⟨bs, 0, 0⟩ : Rdr).int).2).int).2).int).2).int).1))), (109, (agg [(i64 0), (i64 0), (i64 0), (i64 0), (i64 0), (i64 0), (i64 0), (i64 0), (Value.bool false), (Value.slice none 0 0), (Value.slice none 0 0)]))] (j := 1) (by kernel_rfl) (by kernel_rfl) ?_
                      refine Ops.put (t := 49) (b := b1) (off := 0) (v := (agg [(i64 0), (i64 0), (i64 0), (i64 0), (i64 0), (i64 0), (i64 0), (i64 0), (Value.bool false), (Value.slice none 0 0), (Value.slice none 0 0)])) (ys := [(i64 0), (i64 0), (i64 0), (i64 0), (i64 0), (i64 0), (i64 0), (i64 0), (Value.bool false), (Value.slice none 0 0), (Value.slice none 0 0)]) (by kernel_rfl) (by kernel_rfl) H109 (by kernel_rfl) (d := none) (by kernel_rfl) rfl (fun w340 H341 K342 => ?_)
                      clear H109
                      replace K108 := K108.trans K342 (U := none_) (fun i h1 h2 => h2) (fun i h1 h2 => by have h2 : i = b1 := h2; exfalso; omega)
                      replace H274 := H274.keep K342 (by intro h; change b13 = b1 at h; omega)
                      replace H292 := H292.keep K342 (by intro h; change b25 = b1 at h; omega)
                      replace F290 := RdO.keep F290 K342 (fun i _ _ hi hs => by have hs : i = b1 := hs; have := ob24 i _ _ hi; omega)
                      replace hOV := own_keep hOV K342 (fun i hi hs => by have hs : i = b1 := hs; have := obVb1 i hi; omega)
                      replace hM := EntsMine.keep2 hM K342 (fun x hx i o s hA hs => by have hs : i = b1 := hs; exact oeb1 x hx i o s hA hs)
                      replace O279 := own_keep O279 K342 (fun i hi hs => by have hs : i = b1 := hs; have := ob280 i hi; omega)
                      clear K342
                      refine Ops.regs 1 [(2, (ptr b1)), (3, (i64 1)), (5, (ptr b25)), (6, (i64 (((⟨bs, 0, 0⟩ : Rdr).int).1))), (7, (i64 (((((⟨bs, 0, 0⟩ : Rdr).int).2).int).1))), (8, (i64 (((((((⟨bs, 0, 0⟩ : Rdr).int).2).int).2).int).1))), (9, (i64 (((((((((⟨bs, 0, 0⟩ : Rdr).int).2).int).2).int).2).int).1)))] (j := 3) (by kernel_rfl) (by kernel_rfl) ?_
                      refine Ops.done (by kernel_rfl) ?_
                      refine q_ret (by kernel_rfl) ?_
                      refine ⟨(Value.tuple #[(agg [(i64 0), (i64 0), (i64 0), (i64 0), (i64 0), (i64 0), (i64 0), (i64 0), (Value.bool false), (Value.slice none 0 0), (Value.slice none 0 0)]), (i64 1)]), retv_cell_tmp rfl rfl (H341.loads (by kernel_rfl)) rfl, ?_⟩
                      exact ⟨(⟨0, 0, 0, 0, 0, 0, 0, 0, false, [], []⟩ : MsgP), none, none, 0, 0, 1, rfl, K108, ⟨by (try simp only); omega, by (try simp only); omega, by (try simp only); omega, by (try simp only); omega, by (try simp only); omega, by (try simp only); omega, by (try simp only); omega, by (try simp only); omega, fun x hx => by cases hx⟩, by unfold unmsgB; rw [if_neg (by omega), if_neg (by rw [hmd]; omega), if_neg (fun q => by unfold Rdr.mfit at q; simp only [Rdr.mint, Rdr.nth] at q; omega)]; rfl, (OwnT.nil _ _ _ _ _), (EntsMine.nil _ _ _), (World.ownsRow_nil _ _ _ _)⟩
                    · rw [h338]
                      have p343 : ¬ (((((((((⟨bs, 0, 0⟩ : Rdr).int).2).int).2).int).2).int).1 < 0) := of_decide_eq_false h338
                      refine Ops.regs 3 [(2, (ptr b1)), (3, (i64 0)), (5, (ptr b25)), (6, (i64 (((⟨bs, 0, 0⟩ : Rdr).int).1))), (7, (i64 (((((⟨bs, 0, 0⟩ : Rdr).int).2).int).1))), (8, (i64 (((((((⟨bs, 0, 0⟩ : Rdr).int).2).int).2).int).1))), (9, (i64 (((((((((⟨bs, 0, 0⟩ : Rdr).int).2).int).2).int).2).int).1))), (108, (Value.bool (decide (((((((((⟨bs, 0, 0⟩ : Rdr).int).2).int).2).int).2).int).1 ≥ 5))))] (j := 30) (by kernel_rfl) (by kernel_rfl) ?_
                      refine Ops.done (by kernel_rfl) ?_
                      refine q_cond (o := .tmp 108) (b := (decide (((((((((⟨bs, 0, 0⟩ : Rdr).int).2).int).2).int).2).int).1 ≥ 5))) (by kernel_rfl) rfl (fun h344 => ?_) (fun h344 => ?_)
                      · rw [h344]
                        have p345 : ((((((((⟨bs, 0, 0⟩ : Rdr).int).2).int).2).int).2).int).1 ≥ 5 := of_decide_eq_true h344
                        refine q_seq (by kernel_rfl) ?_
                        refine q_region (by kernel_rfl) ?_
                        refine Ops.regs 1 [(2, (ptr b1)), (3, (i64 0)), (5, (ptr b25)), (6, (i64 (((⟨bs, 0, 0⟩ : Rdr).int).1))), (7, (i64 (((((⟨bs, 0, 0⟩ : Rdr).int).2).int).1))), (8, (i64 (((((((⟨bs, 0, 0⟩ : Rdr).int).2).int).2).int).1))), (9, (i64 (((((((((⟨bs, 0, 0⟩ : Rdr).int).2).int).2).int).2).int).1))), (109, (agg [(i64 0), (i64 0), (i64 0), (i64 0), (i64 0), (i64 0), (i64 0), (i64 0), (Value.bool false), (Value.slice none 0 0), (Value.slice none 0 0)]))] (j := 1) (by kernel_rfl) (by kernel_rfl) ?_
                        refine Ops.put (t := 49) (b := b1) (off := 0) (v := (agg [(i64 0), (i64 0), (i64 0), (i64 0), (i64 0), (i64 0), (i64 0), (i64 0), (Value.bool false), (Value.slice none 0 0), (Value.slice none 0 0)])) (ys := [(i64 0), (i64 0), (i64 0), (i64 0), (i64 0), (i64 0), (i64 0), (i64 0), (Value.bool false), (Value.slice none 0 0), (Value.slice none 0 0)]) (by kernel_rfl) (by kernel_rfl) H109 (by kernel_rfl) (d := none) (by kernel_rfl) rfl (fun w346 H347 K348 => ?_)
                        clear H109
                        replace K108 := K108.trans K348 (U := none_) (fun i h1 h2 => h2) (fun i h1 h2 => by have h2 : i = b1 := h2; exfalso; omega)
                        replace H274 := H274.keep K348 (by intro h; change b13 = b1 at h; omega)
                        replace H292 := H292.keep K348 (by intro h; change b25 = b1 at h; omega)
                        replace F290 := RdO.keep F290 K348 (fun i _ _ hi hs => by have hs : i = b1 := hs; have := ob24 i _ _ hi; omega)
                        replace hOV := own_keep hOV K348 (fun i hi hs => by have hs : i = b1 := hs; have := obVb1 i hi; omega)
                        replace hM := EntsMine.keep2 hM K348 (fun x hx i o s hA hs => by have hs : i = b1 := hs; exact oeb1 x hx i o s hA hs)
                        replace O279 := own_keep O279 K348 (fun i hi hs => by have hs : i = b1 := hs; have := ob280 i hi; omega)
                        clear K348
                        refine Ops.regs 1 [(2, (ptr b1)), (3, (i64 1)), (5, (ptr b25)), (6, (i64 (((⟨bs, 0, 0⟩ : Rdr).int).1))), (7, (i64 (((((⟨bs, 0, 0⟩ : Rdr).int).2).int).1))), (8, (i64 (((((((⟨bs, 0, 0⟩ : Rdr).int).2).int).2).int).1))), (9, (i64 (((((((((⟨bs, 0, 0⟩ : Rdr).int).2).int).2).int).2).int).1)))] (j := 3) (by kernel_rfl) (by kernel_rfl) ?_
                        refine Ops.done (by kernel_rfl) ?_
                        refine q_ret (by kernel_rfl) ?_
                        refine ⟨(Value.tuple #[(agg [(i64 0), (i64 0), (i64 0), (i64 0), (i64 0), (i64 0), (i64 0), (i64 0), (Value.bool false), (Value.slice none 0 0), (Value.slice none 0 0)]), (i64 1)]), retv_cell_tmp rfl rfl (H347.loads (by kernel_rfl)) rfl, ?_⟩
                        exact ⟨(⟨0, 0, 0, 0, 0, 0, 0, 0, false, [], []⟩ : MsgP), none, none, 0, 0, 1, rfl, K108, ⟨by (try simp only); omega, by (try simp only); omega, by (try simp only); omega, by (try simp only); omega, by (try simp only); omega, by (try simp only); omega, by (try simp only); omega, by (try simp only); omega, fun x hx => by cases hx⟩, by unfold unmsgB; rw [if_neg (by omega), if_neg (by rw [hmd]; omega), if_neg (fun q => by unfold Rdr.mfit at q; simp only [Rdr.mint, Rdr.nth] at q; omega)]; rfl, (OwnT.nil _ _ _ _ _), (EntsMine.nil _ _ _), (World.ownsRow_nil _ _ _ _)⟩
                      · rw [h344]
                        have p349 : ¬ (((((((((⟨bs, 0, 0⟩ : Rdr).int).2).int).2).int).2).int).1 ≥ 5) := of_decide_eq_false h344
                        refine q_skip (by kernel_rfl) ?_
                        refine q_seq (by kernel_rfl) ?_
                        refine q_region (by kernel_rfl) ?_
                        refine Ops.regs 2 [(2, (ptr b1)), (3, (i64 0)), (5, (ptr b25)), (7, (i64 (((((⟨bs, 0, 0⟩ : Rdr).int).2).int).1))), (8, (i64 (((((((⟨bs, 0, 0⟩ : Rdr).int).2).int).2).int).1))), (9, (i64 (((((((((⟨bs, 0, 0⟩ : Rdr).int).2).int).2).int).2).int).1))), (110, (i64 (((⟨bs, 0, 0⟩ : Rdr).int).1))), (111, (ptr b25))] (j := 2) (by kernel_rfl) (by kernel_rfl) ?_
                        refine Ops.put (t := 3) (b := b25) (off := 0) (v := (i64 (((⟨bs, 0, 0⟩ : Rdr).int).1))) (ys := [(i64 (((⟨bs, 0, 0⟩ : Rdr).int).1)), (i64 0), (i64 0), (i64 0), (i64 (((((((((((⟨bs, 0, 0⟩ : Rdr).int).2).int).2).int).2).int).2).int).1)), (i64 (((((((((((((⟨bs, 0, 0⟩ : Rdr).int).2).int).2).int).2).int).2).int).2).int).1)), (i64 (((((((((((((((⟨bs, 0, 0⟩ : Rdr).int).2).int).2).int).2).int).2).int).2).int).2).int).1)), (i64 (((((((((((((((((⟨bs, 0, 0⟩ : Rdr).int).2).int).2).int).2).int).2).int).2).int).2).int).2).int).1)), (Value.bool (((((((((((((((((((⟨bs, 0, 0⟩ : Rdr).int).2).int).2).int).2).int).2).int).2).int).2).int).2).int).2).bool_).1)), (Value.slice VA l.length vc), (Value.slice A287 (((R.bytes).1).length) c288)]) (by kernel_rfl) (by kernel_rfl) H292 (by kernel_rfl) (d := none) (by kernel_rfl) rfl (fun w350 H351 K352 => ?_)
                        clear H292
                        replace K108 := K108.trans K352 (U := none_) (fun i h1 h2 => h2) (fun i h1 h2 => by have h2 : i = b25 := h2; exfalso; omega)
                        replace H109 := H109.keep K352 (by intro h; change b1 = b25 at h; omega)
                        replace H274 := H274.keep K352 (by intro h; change b13 = b25 at h; omega)
                        replace F290 := RdO.keep F290 K352 (fun i _ _ hi hs => by have hs : i = b25 := hs; have := ob31 i _ _ hi; omega)
                        replace hOV := own_keep hOV K352 (fun i hi hs => by have hs : i = b25 := hs; have := obVb25 i hi; omega)
                        replace hM := EntsMine.keep2 hM K352 (fun x hx i o s hA hs => by have hs : i = b25 := hs; exact oeb25 x hx i o s hA hs)
                        replace O279 := own_keep O279 K352 (fun i hi hs => by have hs : i = b25 := hs; have := ob282 i hi; omega)
                        clear K352
                        refine Ops.done (by kernel_rfl) ?_
                        refine q_seq (by kernel_rfl) ?_
                        refine q_region (by kernel_rfl) ?_
                        refine Ops.regs 2 [(2, (ptr b1)), (3, (i64 0)), (5, (ptr b25)), (8, (i64 (((((((⟨bs, 0, 0⟩ : Rdr).int).2).int).2).int).1))), (9, (i64 (((((((((⟨bs, 0, 0⟩ : Rdr).int).2).int).2).int).2).int).1))), (112, (i64 (((((⟨bs, 0, 0⟩ : Rdr).int).2).int).1))), (113, (Value.pointer (some ⟨b25, 1, none⟩)))] (j := 2) (by kernel_rfl) (by kernel_rfl) ?_
                        refine Ops.put (t := 3) (b := b25) (off := 1) (v := (i64 (((((⟨bs, 0, 0⟩ : Rdr).int).2).int).1))) (ys := [(i64 (((⟨bs, 0, 0⟩ : Rdr).int).1)), (i64 (((((⟨bs, 0, 0⟩ : Rdr).int).2).int).1)), (i64 0), (i64 0), (i64 (((((((((((⟨bs, 0, 0⟩ : Rdr).int).2).int).2).int).2).int).2).int).1)), (i64 (((((((((((((⟨bs, 0, 0⟩ : Rdr).int).2).int).2).int).2).int).2).int).2).int).1)), (i64 (((((((((((((((⟨bs, 0, 0⟩ : Rdr).int).2).int).2).int).2).int).2).int).2).int).2).int).1)), (i64 (((((((((((((((((⟨bs, 0, 0⟩ : Rdr).int).2).int).2).int).2).int).2).int).2).int).2).int).2).int).1)), (Value.bool (((((((((((((((((((⟨bs, 0, 0⟩ : Rdr).int).2).int).2).int).2).int).2).int).2).int).2).int).2).int).2).bool_).1)), (Value.slice VA l.length vc), (Value.slice A287 (((R.bytes).1).length) c288)]) (by kernel_rfl) (by kernel_rfl) H351 (by kernel_rfl) (d := none) (by kernel_rfl) rfl (fun w353 H354 K355 => ?_)
                        clear H351
                        replace K108 := K108.trans K355 (U := none_) (fun i h1 h2 => h2) (fun i h1 h2 => by have h2 : i = b25 := h2; exfalso; omega)
                        replace H109 := H109.keep K355 (by intro h; change b1 = b25 at h; omega)
                        replace H274 := H274.keep K355 (by intro h; change b13 = b25 at h; omega)
                        replace F290 := RdO.keep F290 K355 (fun i _ _ hi hs => by have hs : i = b25 := hs; have := ob31 i _ _ hi; omega)
                        replace hOV := own_keep hOV K355 (fun i hi hs => by have hs : i = b25 := hs; have := obVb25 i hi; omega)
                        replace hM := EntsMine.keep2 hM K355 (fun x hx i o s hA hs => by have hs : i = b25 := hs; exact oeb25 x hx i o s hA hs)
                        replace O279 := own_keep O279 K355 (fun i hi hs => by have hs : i = b25 := hs; have := ob282 i hi; omega)
                        clear K355
                        refine Ops.done (by kernel_rfl) ?_
                        refine q_seq (by kernel_rfl) ?_
                        refine q_region (by kernel_rfl) ?_
                        refine Ops.regs 2 [(2, (ptr b1)), (3, (i64 0)), (5, (ptr b25)), (9, (i64 (((((((((⟨bs, 0, 0⟩ : Rdr).int).2).int).2).int).2).int).1))), (114, (i64 (((((((⟨bs, 0, 0⟩ : Rdr).int).2).int).2).int).1))), (115, (Value.pointer (some ⟨b25, 2, none⟩)))] (j := 2) (by kernel_rfl) (by kernel_rfl) ?_
                        refine Ops.put (t := 3) (b := b25) (off := 2) (v := (i64 (((((((⟨bs, 0, 0⟩ : Rdr).int).2).int).2).int).1))) (ys := [(i64 (((⟨bs, 0, 0⟩ : Rdr).int).1)), (i64 (((((⟨bs, 0, 0⟩ : Rdr).int).2).int).1)), (i64 (((((((⟨bs, 0, 0⟩ : Rdr).int).2).int).2).int).1)), (i64 0), (i64 (((((((((((⟨bs, 0, 0⟩ : Rdr).int).2).int).2).int).2).int).2).int).1)), (i64 (((((((((((((⟨bs, 0, 0⟩ : Rdr).int).2).int).2).int).2).int).2).int).2).int).1)), (i64 (((((((((((((((⟨bs, 0, 0⟩ : Rdr).int).2).int).2).int).2).int).2).int).2).int).2).int).1)), (i64 (((((((((((((((((⟨bs, 0, 0⟩ : Rdr).int).2).int).2).int).2).int).2).int).2).int).2).int).2).int).1)), (Value.bool (((((((((((((((((((⟨bs, 0, 0⟩ : Rdr).int).2).int).2).int).2).int).2).int).2).int).2).int).2).int).2).bool_).1)), (Value.slice VA l.length vc), (Value.slice A287 (((R.bytes).1).length) c288)]) (by kernel_rfl) (by kernel_rfl) H354 (by kernel_rfl) (d := none) (by kernel_rfl) rfl (fun w356 H357 K358 => ?_)
                        clear H354
                        replace K108 := K108.trans K358 (U := none_) (fun i h1 h2 => h2) (fun i h1 h2 => by have h2 : i = b25 := h2; exfalso; omega)
                        replace H109 := H109.keep K358 (by intro h; change b1 = b25 at h; omega)
                        replace H274 := H274.keep K358 (by intro h; change b13 = b25 at h; omega)
                        replace F290 := RdO.keep F290 K358 (fun i _ _ hi hs => by have hs : i = b25 := hs; have := ob31 i _ _ hi; omega)
                        replace hOV := own_keep hOV K358 (fun i hi hs => by have hs : i = b25 := hs; have := obVb25 i hi; omega)
                        replace hM := EntsMine.keep2 hM K358 (fun x hx i o s hA hs => by have hs : i = b25 := hs; exact oeb25 x hx i o s hA hs)
                        replace O279 := own_keep O279 K358 (fun i hi hs => by have hs : i = b25 := hs; have := ob282 i hi; omega)
                        clear K358
                        refine Ops.done (by kernel_rfl) ?_
                        refine q_seq (by kernel_rfl) ?_
                        refine q_region (by kernel_rfl) ?_
                        refine Ops.regs 2 [(2, (ptr b1)), (3, (i64 0)), (5, (ptr b25)), (116, (i64 (((((((((⟨bs, 0, 0⟩ : Rdr).int).2).int).2).int).2).int).1))), (117, (Value.pointer (some ⟨b25, 3, none⟩)))] (j := 2) (by kernel_rfl) (by kernel_rfl) ?_
                        refine Ops.put (t := 3) (b := b25) (off := 3) (v := (i64 (((((((((⟨bs, 0, 0⟩ : Rdr).int).2).int).2).int).2).int).1))) (ys := [(i64 (((⟨bs, 0, 0⟩ : Rdr).int).1)), (i64 (((((⟨bs, 0, 0⟩ : Rdr).int).2).int).1)), (i64 (((((((⟨bs, 0, 0⟩ : Rdr).int).2).int).2).int).1)), (i64 (((((((((⟨bs, 0, 0⟩ : Rdr).int).2).int).2).int).2).int).1)), (i64 (((((((((((⟨bs, 0, 0⟩ : Rdr).int).2).int).2).int).2).int).2).int).1)), (i64 (((((((((((((⟨bs, 0, 0⟩ : Rdr).int).2).int).2).int).2).int).2).int).2).int).1)), (i64 (((((((((((((((⟨bs, 0, 0⟩ : Rdr).int).2).int).2).int).2).int).2).int).2).int).2).int).1)), (i64 (((((((((((((((((⟨bs, 0, 0⟩ : Rdr).int).2).int).2).int).2).int).2).int).2).int).2).int).2).int).1)), (Value.bool (((((((((((((((((((⟨bs, 0, 0⟩ : Rdr).int).2).int).2).int).2).int).2).int).2).int).2).int).2).int).2).bool_).1)), (Value.slice VA l.length vc), (Value.slice A287 (((R.bytes).1).length) c288)]) (by kernel_rfl) (by kernel_rfl) H357 (by kernel_rfl) (d := none) (by kernel_rfl) rfl (fun w359 H360 K361 => ?_)
                        clear H357
                        replace K108 := K108.trans K361 (U := none_) (fun i h1 h2 => h2) (fun i h1 h2 => by have h2 : i = b25 := h2; exfalso; omega)
                        replace H109 := H109.keep K361 (by intro h; change b1 = b25 at h; omega)
                        replace H274 := H274.keep K361 (by intro h; change b13 = b25 at h; omega)
                        replace F290 := RdO.keep F290 K361 (fun i _ _ hi hs => by have hs : i = b25 := hs; have := ob31 i _ _ hi; omega)
                        replace hOV := own_keep hOV K361 (fun i hi hs => by have hs : i = b25 := hs; have := obVb25 i hi; omega)
                        replace hM := EntsMine.keep2 hM K361 (fun x hx i o s hA hs => by have hs : i = b25 := hs; exact oeb25 x hx i o s hA hs)
                        replace O279 := own_keep O279 K361 (fun i hi hs => by have hs : i = b25 := hs; have := ob282 i hi; omega)
                        clear K361
                        refine Ops.done (by kernel_rfl) ?_
                        refine q_seq (by kernel_rfl) ?_
                        refine q_region (by kernel_rfl) ?_
                        refine Ops.go (v := (agg [(i64 (((⟨bs, 0, 0⟩ : Rdr).int).1)), (i64 (((((⟨bs, 0, 0⟩ : Rdr).int).2).int).1)), (i64 (((((((⟨bs, 0, 0⟩ : Rdr).int).2).int).2).int).1)), (i64 (((((((((⟨bs, 0, 0⟩ : Rdr).int).2).int).2).int).2).int).1)), (i64 (((((((((((⟨bs, 0, 0⟩ : Rdr).int).2).int).2).int).2).int).2).int).1)), (i64 (((((((((((((⟨bs, 0, 0⟩ : Rdr).int).2).int).2).int).2).int).2).int).2).int).1)), (i64 (((((((((((((((⟨bs, 0, 0⟩ : Rdr).int).2).int).2).int).2).int).2).int).2).int).2).int).1)), (i64 (((((((((((((((((⟨bs, 0, 0⟩ : Rdr).int).2).int).2).int).2).int).2).int).2).int).2).int).2).int).1)), (Value.bool (((((((((((((((((((⟨bs, 0, 0⟩ : Rdr).int).2).int).2).int).2).int).2).int).2).int).2).int).2).int).2).bool_).1)), (Value.slice VA l.length vc), (Value.slice A287 (((R.bytes).1).length) c288)])) (by kernel_rfl) (Runs.load (t := 49) (a := ⟨b25, 0, none⟩) (by kernel_rfl) (H360.loads (by kernel_rfl))) (d := (some 118)) (by kernel_rfl) rfl ?_
                        refine Ops.put (t := 49) (b := b1) (off := 0) (v := (agg [(i64 (((⟨bs, 0, 0⟩ : Rdr).int).1)), (i64 (((((⟨bs, 0, 0⟩ : Rdr).int).2).int).1)), (i64 (((((((⟨bs, 0, 0⟩ : Rdr).int).2).int).2).int).1)), (i64 (((((((((⟨bs, 0, 0⟩ : Rdr).int).2).int).2).int).2).int).1)), (i64 (((((((((((⟨bs, 0, 0⟩ : Rdr).int).2).int).2).int).2).int).2).int).1)), (i64 (((((((((((((⟨bs, 0, 0⟩ : Rdr).int).2).int).2).int).2).int).2).int).2).int).1)), (i64 (((((((((((((((⟨bs, 0, 0⟩ : Rdr).int).2).int).2).int).2).int).2).int).2).int).2).int).1)), (i64 (((((((((((((((((⟨bs, 0, 0⟩ : Rdr).int).2).int).2).int).2).int).2).int).2).int).2).int).2).int).1)), (Value.bool (((((((((((((((((((⟨bs, 0, 0⟩ : Rdr).int).2).int).2).int).2).int).2).int).2).int).2).int).2).int).2).bool_).1)), (Value.slice VA l.length vc), (Value.slice A287 (((R.bytes).1).length) c288)])) (ys := [(i64 (((⟨bs, 0, 0⟩ : Rdr).int).1)), (i64 (((((⟨bs, 0, 0⟩ : Rdr).int).2).int).1)), (i64 (((((((⟨bs, 0, 0⟩ : Rdr).int).2).int).2).int).1)), (i64 (((((((((⟨bs, 0, 0⟩ : Rdr).int).2).int).2).int).2).int).1)), (i64 (((((((((((⟨bs, 0, 0⟩ : Rdr).int).2).int).2).int).2).int).2).int).1)), (i64 (((((((((((((⟨bs, 0, 0⟩ : Rdr).int).2).int).2).int).2).int).2).int).2).int).1)), (i64 (((((((((((((((⟨bs, 0, 0⟩ : Rdr).int).2).int).2).int).2).int).2).int).2).int).2).int).1)), (i64 (((((((((((((((((⟨bs, 0, 0⟩ : Rdr).int).2).int).2).int).2).int).2).int).2).int).2).int).2).int).1)), (Value.bool (((((((((((((((((((⟨bs, 0, 0⟩ : Rdr).int).2).int).2).int).2).int).2).int).2).int).2).int).2).int).2).bool_).1)), (Value.slice VA l.length vc), (Value.slice A287 (((R.bytes).1).length) c288)]) (by kernel_rfl) (by kernel_rfl) H109 (by kernel_rfl) (d := none) (by kernel_rfl) rfl (fun w362 H363 K364 => ?_)
                        clear H109
                        replace K108 := K108.trans K364 (U := none_) (fun i h1 h2 => h2) (fun i h1 h2 => by have h2 : i = b1 := h2; exfalso; omega)
                        replace H274 := H274.keep K364 (by intro h; change b13 = b1 at h; omega)
                        replace H360 := H360.keep K364 (by intro h; change b25 = b1 at h; omega)
                        replace F290 := RdO.keep F290 K364 (fun i _ _ hi hs => by have hs : i = b1 := hs; have := ob24 i _ _ hi; omega)
                        replace hOV := own_keep hOV K364 (fun i hi hs => by have hs : i = b1 := hs; have := obVb1 i hi; omega)
                        replace hM := EntsMine.keep2 hM K364 (fun x hx i o s hA hs => by have hs : i = b1 := hs; exact oeb1 x hx i o s hA hs)
                        replace O279 := own_keep O279 K364 (fun i hi hs => by have hs : i = b1 := hs; have := ob280 i hi; omega)
                        clear K364
                        refine Ops.regs 1 [(2, (ptr b1)), (3, (i64 0))] (j := 3) (by kernel_rfl) (by kernel_rfl) ?_
                        refine Ops.done (by kernel_rfl) ?_
                        refine q_ret (by kernel_rfl) ?_
                        refine ⟨(Value.tuple #[(agg [(i64 (((⟨bs, 0, 0⟩ : Rdr).int).1)), (i64 (((((⟨bs, 0, 0⟩ : Rdr).int).2).int).1)), (i64 (((((((⟨bs, 0, 0⟩ : Rdr).int).2).int).2).int).1)), (i64 (((((((((⟨bs, 0, 0⟩ : Rdr).int).2).int).2).int).2).int).1)), (i64 (((((((((((⟨bs, 0, 0⟩ : Rdr).int).2).int).2).int).2).int).2).int).1)), (i64 (((((((((((((⟨bs, 0, 0⟩ : Rdr).int).2).int).2).int).2).int).2).int).2).int).1)), (i64 (((((((((((((((⟨bs, 0, 0⟩ : Rdr).int).2).int).2).int).2).int).2).int).2).int).2).int).1)), (i64 (((((((((((((((((⟨bs, 0, 0⟩ : Rdr).int).2).int).2).int).2).int).2).int).2).int).2).int).2).int).1)), (Value.bool (((((((((((((((((((⟨bs, 0, 0⟩ : Rdr).int).2).int).2).int).2).int).2).int).2).int).2).int).2).int).2).bool_).1)), (Value.slice VA l.length vc), (Value.slice A287 (((R.bytes).1).length) c288)]), (i64 0)]), retv_cell_tmp rfl rfl (H363.loads (by kernel_rfl)) rfl, ?_⟩
                        exact ⟨(⟨((⟨bs, 0, 0⟩ : Rdr).int).1, ((((⟨bs, 0, 0⟩ : Rdr).int).2).int).1, ((((((⟨bs, 0, 0⟩ : Rdr).int).2).int).2).int).1, ((((((((⟨bs, 0, 0⟩ : Rdr).int).2).int).2).int).2).int).1, ((((((((((⟨bs, 0, 0⟩ : Rdr).int).2).int).2).int).2).int).2).int).1, ((((((((((((⟨bs, 0, 0⟩ : Rdr).int).2).int).2).int).2).int).2).int).2).int).1, ((((((((((((((⟨bs, 0, 0⟩ : Rdr).int).2).int).2).int).2).int).2).int).2).int).2).int).1, ((((((((((((((((⟨bs, 0, 0⟩ : Rdr).int).2).int).2).int).2).int).2).int).2).int).2).int).2).int).1, (((((((((((((((((((⟨bs, 0, 0⟩ : Rdr).int).2).int).2).int).2).int).2).int).2).int).2).int).2).int).2).bool_).1), l, (R.bytes).1⟩ : MsgP), VA, A287, vc, c288, 0, rfl, K108, ⟨by (try simp only); omega, by (try simp only); omega, by (try simp only); omega, by (try simp only); omega, by (try simp only); omega, by (try simp only); omega, by (try simp only); omega, by (try simp only); omega, hlo⟩, by unfold unmsgB; rw [if_neg (by omega), if_neg (by rw [hmd]; omega), if_pos (by unfold Rdr.mfit; simp only [Rdr.mint, Rdr.nth]; omega), hme, hmd]; rfl, hOV, hM, O279⟩

theorem RUnmsg_calls (w : World) (B : Option Addr) (bc : Nat) (bs : List UInt8) (hB : RdB w (.slice B bs.length bc) bs) (hbl : bs.length ≤ 140737488351232) : Calls Try.prog 52 ⟨[(Value.slice B bs.length bc)]⟩ w (fun e w' => ∃ (m : MsgP) (E D : Option Addr) (ec dc : Nat) (er : Int), e = .returned (.tuple #[agg [i64 m.kind, i64 m.group, i64 m.frm, i64 m.to, i64 m.term, i64 m.index, i64 m.logTerm, i64 m.commit, .bool m.ok, .slice E m.entries.length ec, .slice D m.data.length dc], i64 er]) ∧ Keeps none_ w w' ∧ m.Ok ∧ (m.core, er) = unmsgB bs ∧ RdE w' (.slice E m.entries.length ec) m.entries ∧ EntsIn w' m.entries ∧ RdB w' (.slice D m.data.length dc) m.data) :=
  (RUnmsg_own w B bc bs hB hbl).mono fun e w' ⟨m, E, D, ec, dc, er, h1, h2, h3, h4, h5, h6, h7⟩ => ⟨m, E, D, ec, dc, er, h1, h2, h3, h4, OwnT.rd h5, EntsMine.ins h6, OwnB.rd h7⟩
end Go.Proofs.Ytnepjfnkaigakaa
