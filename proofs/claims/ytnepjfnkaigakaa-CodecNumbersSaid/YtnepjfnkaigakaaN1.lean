/- chapter 02: CodecNumbers returns true -/
import Derived.Test.YtnepjfnkaigakaaProg
import Derived.Test.YtnepjfnkaigakaaK12
import Derived.Test.YtnepjfnkaigakaaLibNum
set_option linter.unusedVariables false
namespace Go.Proofs.Ytnepjfnkaigakaa
open Go.Q Go.RowKit

theorem Numbers_calls (w : World) (a b : Nat) (ha : a < 18446744073709551616) (hb : b < 18446744073709551616) : Calls Try.prog 3 ⟨[(Value.int IntKind.u64 ((a : Nat) : Int)), (Value.int IntKind.u64 ((b : Nat) : Int))]⟩ w (fun e w' => e = .returned (.bool true) ∧ Keeps none_ w w') := by
  have K0 : Keeps none_ w w := Keeps.refl w
  refine q_calls Try.func3 (by kernel_rfl) (by kernel_rfl) ?_
  refine q_seq (by kernel_rfl) ?_
  refine q_region (by kernel_rfl) ?_
  refine Ops.regs 1 [(0, (Value.int IntKind.u64 ((a : Nat) : Int))), (1, (Value.int IntKind.u64 ((b : Nat) : Int))), (4, (Value.bool false))] (j := 1) (by kernel_rfl) (by kernel_rfl) ?_
  refine Ops.done (by kernel_rfl) ?_
  refine q_seq (by kernel_rfl) ?_
  refine q_region (by kernel_rfl) ?_
  refine Ops.regs 1 [(0, (Value.int IntKind.u64 ((a : Nat) : Int))), (1, (Value.int IntKind.u64 ((b : Nat) : Int))), (4, (Value.bool false)), (11, (Value.int IntKind.u64 ((a : Nat) : Int)))] (j := 1) (by kernel_rfl) (by kernel_rfl) ?_
  refine Ops.call (by kernel_rfl) (d := (some 12)) (by kernel_rfl) (Uint_calls _ (.slice none 0 0) [] a (Rd.nil _ _) (by omega) (by decide)) ?_
  rintro _ w2 ⟨v1, rfl, K3, hO4⟩
  have O5 : OwnB w2 w.heap.size _ v1 (uv a) := own_base hO4 K0.size
  obtain ⟨A6, c7, hf8⟩ := RdB.form (OwnB.rd O5)
  subst hf8
  clear hO4
  have hsA6 := (OwnB.rd O5).slice
  have huA6 := uv_length_10 (n := a) (by omega)
  refine ⟨_, _, rfl, rfl, ?_⟩
  have K9 := K0.trans K3 (U := none_) (fun i h1 h2 => h2) (fun i h1 h2 => by exact h2)
  clear K0
  clear K3
  refine Ops.regs 1 [(0, (Value.int IntKind.u64 ((a : Nat) : Int))), (1, (Value.int IntKind.u64 ((b : Nat) : Int))), (4, (Value.bool false)), (5, (Value.slice A6 ((uv a).length) c7))] (j := 3) (by kernel_rfl) (by kernel_rfl) ?_
  refine Ops.done (by kernel_rfl) ?_
  refine q_seq (by kernel_rfl) ?_
  refine q_region (by kernel_rfl) ?_
  refine Ops.regs 1 [(0, (Value.int IntKind.u64 ((a : Nat) : Int))), (1, (Value.int IntKind.u64 ((b : Nat) : Int))), (4, (Value.bool false)), (5, (Value.slice A6 ((uv a).length) c7)), (13, (Value.int IntKind.u64 ((b : Nat) : Int)))] (j := 1) (by kernel_rfl) (by kernel_rfl) ?_
  refine Ops.call (by kernel_rfl) (d := (some 14)) (by kernel_rfl) (Uint_calls _ (.slice none 0 0) [] b (Rd.nil _ _) (by omega) (by decide)) ?_
  rintro _ w11 ⟨v10, rfl, K12, hO13⟩
  have O14 : OwnB w11 w.heap.size _ v10 (uv b) := own_base hO13 K9.size
  obtain ⟨A15, c16, hf17⟩ := RdB.form (OwnB.rd O14)
  subst hf17
  clear hO13
  have hsA15 := (OwnB.rd O14).slice
  have huA15 := uv_length_10 (n := b) (by omega)
  refine ⟨_, _, rfl, rfl, ?_⟩
  have F18 := own_keep0 O5 K12
  clear O5
  have K19 := K9.trans K12 (U := none_) (fun i h1 h2 => h2) (fun i h1 h2 => by exact h2)
  clear K9
  clear K12
  refine Ops.regs 1 [(0, (Value.int IntKind.u64 ((a : Nat) : Int))), (1, (Value.int IntKind.u64 ((b : Nat) : Int))), (4, (Value.bool false)), (5, (Value.slice A6 ((uv a).length) c7)), (6, (Value.slice A15 ((uv b).length) c16))] (j := 3) (by kernel_rfl) (by kernel_rfl) ?_
  refine Ops.done (by kernel_rfl) ?_
  refine q_seq (by kernel_rfl) ?_
  refine q_region (by kernel_rfl) ?_
  refine Ops.regs 1 [(0, (Value.int IntKind.u64 ((a : Nat) : Int))), (1, (Value.int IntKind.u64 ((b : Nat) : Int))), (4, (Value.bool false)), (5, (Value.slice A6 ((uv a).length) c7)), (6, (Value.slice A15 ((uv b).length) c16)), (7, (i64 1))] (j := 1) (by kernel_rfl) (by kernel_rfl) ?_
  refine Ops.done (by kernel_rfl) ?_
  refine q_seq (by kernel_rfl) ?_
  refine q_seq (by kernel_rfl) ?_
  refine q_region (by kernel_rfl) ?_
  refine Ops.regs 2 [(0, (Value.int IntKind.u64 ((a : Nat) : Int))), (1, (Value.int IntKind.u64 ((b : Nat) : Int))), (4, (Value.bool false)), (5, (Value.slice A6 ((uv a).length) c7)), (6, (Value.slice A15 ((uv b).length) c16)), (7, (i64 1)), (8, (Value.int IntKind.u64 ((a : Nat) : Int)))] (j := 2) (by kernel_rfl) (by kernel_rfl) ?_
  refine Ops.done (by kernel_rfl) ?_
  refine q_block (id := 0) (by kernel_rfl) ?_
  refine q_keep (R := [(0, (Value.int IntKind.u64 ((a : Nat) : Int))), (1, (Value.int IntKind.u64 ((b : Nat) : Int))), (4, (Value.bool false)), (5, (Value.slice A6 ((uv a).length) c7)), (6, (Value.slice A15 ((uv b).length) c16)), (7, (i64 1)), (8, (Value.int IntKind.u64 ((a : Nat) : Int)))]) (by kernel_rfl) ?_
  refine q_loop (fun (gs : Nat × Nat) L (wx : World) => match gs with | (n, size) => L = [(0, (Value.int IntKind.u64 ((a : Nat) : Int))), (1, (Value.int IntKind.u64 ((b : Nat) : Int))), (4, (Value.bool false)), (5, (Value.slice A6 ((uv a).length) c7)), (6, (Value.slice A15 ((uv b).length) c16)), (7, (i64 ((size : Nat) : Int))), (8, (Value.int IntKind.u64 ((n : Nat) : Int)))] ∧ OwnB wx w.heap.size 5 (Value.slice A6 ((uv a).length) c7) (uv a) ∧ OwnB wx w.heap.size 5 (Value.slice A15 ((uv b).length) c16) (uv b) ∧ size + (uv n).length = 1 + (uv a).length ∧ n < 18446744073709551616 ∧ Keeps none_ w wx) (fun (gs : Nat × Nat) => match gs with | (n, size) => n) (a, 1) (by kernel_rfl) ⟨rfl, F18, O14, rfl, ha, K19⟩ ?_
  clear F18 O14 K19
  rintro ⟨n, size⟩ _ w20 ⟨rfl, hOw0, hOw1, hE, hn, K21⟩
  refine q_seq (by kernel_rfl) ?_
  refine q_seq (by kernel_rfl) ?_
  refine q_region (by kernel_rfl) ?_
  refine Ops.regs 2 [(0, (Value.int IntKind.u64 ((a : Nat) : Int))), (1, (Value.int IntKind.u64 ((b : Nat) : Int))), (4, (Value.bool false)), (5, (Value.slice A6 ((uv a).length) c7)), (6, (Value.slice A15 ((uv b).length) c16)), (7, (i64 ((size : Nat) : Int))), (8, (Value.int IntKind.u64 ((n : Nat) : Int))), (17, (Value.bool (decide (((n : Nat) : Int) > 127))))] (j := 2) (by kernel_rfl) (by kernel_rfl) ?_
  refine Ops.done (by kernel_rfl) ?_
  refine q_cond (o := .tmp 17) (b := (decide (((n : Nat) : Int) > 127))) (by kernel_rfl) rfl (fun h22 => ?_) (fun h22 => ?_)
  · rw [h22]
    have p23 : ((n : Nat) : Int) > 127 := of_decide_eq_true h22
    refine q_skip (by kernel_rfl) ?_
    refine q_seq (by kernel_rfl) ?_
    refine q_block (id := 1) (by kernel_rfl) ?_
    refine q_region (by kernel_rfl) ?_
    refine Ops.regs 2 [(0, (Value.int IntKind.u64 ((a : Nat) : Int))), (1, (Value.int IntKind.u64 ((b : Nat) : Int))), (4, (Value.bool false)), (5, (Value.slice A6 ((uv a).length) c7)), (6, (Value.slice A15 ((uv b).length) c16)), (7, (i64 ((size : Nat) : Int))), (8, (Value.int IntKind.u64 ((n : Nat) : Int))), (17, (Value.bool true)), (21, (i64 (IntKind.i64.wrap (((size : Nat) : Int) + 1))))] (j := 2) (by kernel_rfl) (by kernel_rfl) ?_
    have e24 : IntKind.i64.wrap (((size : Nat) : Int) + 1) = ((size + 1 : Nat) : Int) := by rw [wrap_i64 (by omega) (by omega)]; omega
    rw [e24]
    clear e24
    refine Ops.regs 1 [(0, (Value.int IntKind.u64 ((a : Nat) : Int))), (1, (Value.int IntKind.u64 ((b : Nat) : Int))), (4, (Value.bool false)), (5, (Value.slice A6 ((uv a).length) c7)), (6, (Value.slice A15 ((uv b).length) c16)), (7, (i64 ((size + 1 : Nat) : Int))), (8, (Value.int IntKind.u64 ((n : Nat) : Int))), (17, (Value.bool true))] (j := 3) (by kernel_rfl) (by kernel_rfl) ?_
    refine Ops.done (by kernel_rfl) ?_
    refine q_region (by kernel_rfl) ?_
    refine Ops.regs 2 [(0, (Value.int IntKind.u64 ((a : Nat) : Int))), (1, (Value.int IntKind.u64 ((b : Nat) : Int))), (4, (Value.bool false)), (5, (Value.slice A6 ((uv a).length) c7)), (6, (Value.slice A15 ((uv b).length) c16)), (7, (i64 ((size + 1 : Nat) : Int))), (8, (Value.int IntKind.u64 ((n : Nat) : Int))), (17, (Value.bool true)), (19, (Value.int IntKind.u64 (IntKind.u64.wrap ((((n : Nat) : Int)).tdiv 128))))] (j := 2) (by kernel_rfl) (by kernel_rfl) ?_
    have e25 : IntKind.u64.wrap ((((n : Nat) : Int)).tdiv 128) = ((n / 128 : Nat) : Int) := (congrArg (IntKind.u64.wrap ·) (tdiv_nat n 128)).trans (wrap_u64 (by omega) (by omega))
    rw [e25]
    clear e25
    refine Ops.regs 1 [(0, (Value.int IntKind.u64 ((a : Nat) : Int))), (1, (Value.int IntKind.u64 ((b : Nat) : Int))), (4, (Value.bool false)), (5, (Value.slice A6 ((uv a).length) c7)), (6, (Value.slice A15 ((uv b).length) c16)), (7, (i64 ((size + 1 : Nat) : Int))), (8, (Value.int IntKind.u64 ((n / 128 : Nat) : Int))), (17, (Value.bool true))] (j := 3) (by kernel_rfl) (by kernel_rfl) ?_
    refine Ops.keep (R := [(0, (Value.int IntKind.u64 ((a : Nat) : Int))), (1, (Value.int IntKind.u64 ((b : Nat) : Int))), (4, (Value.bool false)), (5, (Value.slice A6 ((uv a).length) c7)), (6, (Value.slice A15 ((uv b).length) c16)), (7, (i64 ((size + 1 : Nat) : Int))), (8, (Value.int IntKind.u64 ((n / 128 : Nat) : Int)))]) (by kernel_rfl) ?_
    refine Ops.done (by kernel_rfl) ?_
    exact ⟨(n / 128, size + 1), ⟨rfl, hOw0, hOw1, (by have := uv_len_ge (n := n) (by omega); omega), (by omega), K21⟩, (show (n / 128) < n from by omega)⟩
  · rw [h22]
    have p26 : ¬ (((n : Nat) : Int) > 127) := of_decide_eq_false h22
    have hn1 := uv_len_lt (n := n) (by omega)
    refine q_exit (id := 0) (by kernel_rfl) ?_
    refine q_seq (by kernel_rfl) ?_
    refine q_seq (by kernel_rfl) ?_
    refine q_region (by kernel_rfl) ?_
    refine Ops.regs 5 [(0, (Value.int IntKind.u64 ((a : Nat) : Int))), (1, (Value.int IntKind.u64 ((b : Nat) : Int))), (4, (Value.bool false)), (5, (Value.slice A6 ((uv a).length) c7)), (6, (Value.slice A15 ((uv b).length) c16)), (26, (Value.bool ((((uv a).length : Nat) : Int) != ((size : Nat) : Int))))] (j := 5) (by kernel_rfl) (by kernel_rfl) ?_
    have h27 : ((((uv a).length : Nat) : Int) != ((size : Nat) : Int)) = false := bne_f (by omega)
    rw [h27]
    refine Ops.regs 4 [(0, (Value.int IntKind.u64 ((a : Nat) : Int))), (1, (Value.int IntKind.u64 ((b : Nat) : Int))), (4, (Value.bool false)), (5, (Value.slice A6 ((uv a).length) c7)), (6, (Value.slice A15 ((uv b).length) c16)), (26, (Value.bool false)), (30, (Value.bool (decide (((a : Nat) : Int) ≤ ((b : Nat) : Int)))))] (j := 9) (by kernel_rfl) (by kernel_rfl) ?_
    refine Ops.split (decide (((a : Nat) : Int) ≤ ((b : Nat) : Int))) (fun h28 => ?_) (fun h28 => ?_)
    · rw [h28]
      have p29 : ((a : Nat) : Int) ≤ ((b : Nat) : Int) := of_decide_eq_true h28
      refine Ops.regs 7 [(0, (Value.int IntKind.u64 ((a : Nat) : Int))), (1, (Value.int IntKind.u64 ((b : Nat) : Int))), (4, (Value.bool false)), (5, (Value.slice A6 ((uv a).length) c7)), (6, (Value.slice A15 ((uv b).length) c16)), (37, (Value.bool (decide ((((uv a).length : Nat) : Int) > (((uv b).length : Nat) : Int)))))] (j := 16) (by kernel_rfl) (by kernel_rfl) ?_
      refine Ops.done (by kernel_rfl) ?_
      have h30 : (decide ((((uv a).length : Nat) : Int) > (((uv b).length : Nat) : Int))) = false := decide_eq_false (by have := uv_mono b a (by omega); omega)
      rw [h30]
      refine q_else (o := .tmp 37) (by kernel_rfl) rfl ?_
      refine q_skip (by kernel_rfl) ?_
      refine q_seq (by kernel_rfl) ?_
      refine q_seq (by kernel_rfl) ?_
      refine q_region (by kernel_rfl) ?_
      refine Ops.regs 1 [(0, (Value.int IntKind.u64 ((a : Nat) : Int))), (1, (Value.int IntKind.u64 ((b : Nat) : Int))), (4, (Value.bool false)), (5, (Value.slice A6 ((uv a).length) c7)), (6, (Value.slice A15 ((uv b).length) c16)), (9, (i64 0))] (j := 1) (by kernel_rfl) (by kernel_rfl) ?_
      refine Ops.done (by kernel_rfl) ?_
      refine q_block (id := 2) (by kernel_rfl) ?_
      refine q_keep (R := [(0, (Value.int IntKind.u64 ((a : Nat) : Int))), (1, (Value.int IntKind.u64 ((b : Nat) : Int))), (5, (Value.slice A6 ((uv a).length) c7)), (6, (Value.slice A15 ((uv b).length) c16)), (9, (i64 0))]) (by kernel_rfl) ?_
      refine q_loop (fun (i : Nat) L (wx : World) => L = [(0, (Value.int IntKind.u64 ((a : Nat) : Int))), (1, (Value.int IntKind.u64 ((b : Nat) : Int))), (5, (Value.slice A6 ((uv a).length) c7)), (6, (Value.slice A15 ((uv b).length) c16)), (9, (i64 ((i : Nat) : Int)))] ∧ OwnB wx w.heap.size 5 (Value.slice A6 ((uv a).length) c7) (uv a) ∧ OwnB wx w.heap.size 5 (Value.slice A15 ((uv b).length) c16) (uv b) ∧ i ≤ (uv a).length ∧ Keeps none_ w wx) (fun (i : Nat) => (uv a).length - i) 0 (by kernel_rfl) ⟨rfl, hOw0, hOw1, Nat.zero_le _, K21⟩ ?_
      clear hOw0 hOw1 K21
      rintro i _ w31 ⟨rfl, hOw0, hOw1, hi, K32⟩
      refine q_seq (by kernel_rfl) ?_
      refine q_seq (by kernel_rfl) ?_
      refine q_region (by kernel_rfl) ?_
      refine Ops.regs 4 [(0, (Value.int IntKind.u64 ((a : Nat) : Int))), (1, (Value.int IntKind.u64 ((b : Nat) : Int))), (5, (Value.slice A6 ((uv a).length) c7)), (6, (Value.slice A15 ((uv b).length) c16)), (9, (i64 ((i : Nat) : Int))), (41, (Value.bool (decide (((i : Nat) : Int) < (((uv a).length : Nat) : Int)))))] (j := 4) (by kernel_rfl) (by kernel_rfl) ?_
      refine Ops.done (by kernel_rfl) ?_
      refine q_cond (o := .tmp 41) (b := (decide (((i : Nat) : Int) < (((uv a).length : Nat) : Int)))) (by kernel_rfl) rfl (fun h33 => ?_) (fun h33 => ?_)
      · rw [h33]
        have p34 : ((i : Nat) : Int) < (((uv a).length : Nat) : Int) := of_decide_eq_true h33
        refine q_skip (by kernel_rfl) ?_
        refine q_seq (by kernel_rfl) ?_
        refine q_block (id := 3) (by kernel_rfl) ?_
        refine q_seq (by kernel_rfl) ?_
        refine q_region (by kernel_rfl) ?_
        refine Ops.regs 2 [(0, (Value.int IntKind.u64 ((a : Nat) : Int))), (1, (Value.int IntKind.u64 ((b : Nat) : Int))), (5, (Value.slice A6 ((uv a).length) c7)), (6, (Value.slice A15 ((uv b).length) c16)), (9, (i64 ((i : Nat) : Int))), (41, (Value.bool true)), (44, (Value.slice A6 ((uv a).length) c7)), (45, (i64 ((i : Nat) : Int)))] (j := 2) (by kernel_rfl) (by kernel_rfl) ?_
        have hcut := run_cut (sz := 1) (P := Try.prog) (w := w31) (t := 23) (A := A6) (n := ((uv a).length)) (c := c7) 0 i c7 (lo := none) (hi := some (i64 ((i : Nat) : Int))) (mx := none) tyB.slice (by kernel_rfl) (.inl ⟨rfl, rfl⟩) (.inr ⟨_, rfl⟩) (.inl ⟨rfl, rfl⟩) (by omega) (by omega) (by omega)
        have hA0 : (if c7 = 0 then A6 else Option.map (fun q => Addr.add q (0 * 1)) A6) = A6 := by cases A6 <;> simp [Addr.add]
        rw [hA0, Nat.sub_zero, Nat.sub_zero] at hcut
        have F35 := RdB.take (OwnB.rd hOw0) (k := i) (by omega)
        have htl : ((uv a).take i).length = i := by rw [List.length_take]; omega
        refine Ops.go (v := (Value.slice A6 i c7)) (by kernel_rfl) (Runs.slice (by kernel_rfl) hcut) (d := (some 46)) (by kernel_rfl) rfl ?_
        clear hcut hA0
        refine Ops.call (by kernel_rfl) (d := (some 47)) (by kernel_rfl) (NewReader_calls _ (Value.slice A6 i c7) ((uv a).take i) F35 (by first | omega | decide)) ?_
        rintro _ w40 ⟨b36, A37, c38, rfl, q39, K41, H42, hr43, hne44, hge45⟩
        have nb36 : w.heap.size ≤ b36 := by have := K32.size; omega
        have ob47 : ∀ i, ((Value.slice A6 ((uv a).length) c7)).ownBlock = some i → i < b36 := fun i hi => by have := (World.ownsRow.lt hOw0 i hi).2; omega
        have ob48 : ∀ i, ((Value.slice A15 ((uv b).length) c16)).ownBlock = some i → i < b36 := fun i hi => by have := (World.ownsRow.lt hOw1 i hi).2; omega
        have hok46 : Rdr.Ok (⟨(uv a).take i, 0, 0⟩ : Rdr) := ⟨Nat.zero_le _, by show ((uv a).take i).length ≤ _; first | omega | decide⟩
        clear q39 hge45
        refine ⟨_, _, rfl, rfl, ?_⟩
        have F49 := own_keep0 hOw0 K41
        clear hOw0
        have F50 := own_keep0 hOw1 K41
        clear hOw1
        have F51 := (Rd.keep0 (by omega) F35 K41)
        clear F35
        have K52 := K32.trans K41 (U := none_) (fun i h1 h2 => h2) (fun i h1 h2 => by exact h2)
        clear K32
        clear K41
        refine Ops.regs 1 [(0, (Value.int IntKind.u64 ((a : Nat) : Int))), (1, (Value.int IntKind.u64 ((b : Nat) : Int))), (5, (Value.slice A6 ((uv a).length) c7)), (6, (Value.slice A15 ((uv b).length) c16)), (9, (i64 ((i : Nat) : Int))), (10, (Value.pointer (some ⟨b36, 0, none⟩))), (41, (Value.bool true))] (j := 5) (by kernel_rfl) (by kernel_rfl) ?_
        refine Ops.done (by kernel_rfl) ?_
        refine q_seq (by kernel_rfl) ?_
        refine q_region (by kernel_rfl) ?_
        refine Ops.regs 4 [(0, (Value.int IntKind.u64 ((a : Nat) : Int))), (1, (Value.int IntKind.u64 ((b : Nat) : Int))), (5, (Value.slice A6 ((uv a).length) c7)), (6, (Value.slice A15 ((uv b).length) c16)), (9, (i64 ((i : Nat) : Int))), (10, (Value.pointer (some ⟨b36, 0, none⟩))), (41, (Value.bool true)), (50, (Value.bool false)), (51, (Value.pointer (some ⟨b36, 0, none⟩)))] (j := 4) (by kernel_rfl) (by kernel_rfl) ?_
        refine Ops.call (by kernel_rfl) (d := (some 52)) (by kernel_rfl) (RdUint_calls _ b36 A37 c38 (⟨(uv a).take i, 0, 0⟩ : Rdr) hok46 H42 hr43 hne44) ?_
        rintro _ w53 ⟨rfl, K54, H55⟩
        have hok56 := Rdr.Ok.uint hok46
        have hu57 := Rdr.uint_lt (⟨(uv a).take i, 0, 0⟩ : Rdr)
        refine ⟨_, _, rfl, rfl, ?_⟩
        have F58 := own_keep F49 K54 (fun i hi hs => by have hs : i = b36 := hs; have := ob47 i hi; omega)
        clear F49
        have F59 := own_keep F50 K54 (fun i hi hs => by have hs : i = b36 := hs; have := ob48 i hi; omega)
        clear F50
        clear F51
        have F60 := RdO.keep hr43 K54 (fun i _ _ hi hs => by have hs : i = b36 := hs; have := hne44 i _ _ hi; omega)
        clear hr43
        have K61 := K52.trans K54 (U := none_) (fun i h1 h2 => h2) (fun i h1 h2 => by have h2 : i = b36 := h2; exfalso; omega)
        clear K52
        clear K54
        have F62 : RdO w53 A37 c38 ((⟨(uv a).take i, 0, 0⟩ : Rdr).uint.2).bs := by rw [Rdr.uint_bs]; exact F60
        clear F60
        refine Ops.regs 3 [(0, (Value.int IntKind.u64 ((a : Nat) : Int))), (1, (Value.int IntKind.u64 ((b : Nat) : Int))), (5, (Value.slice A6 ((uv a).length) c7)), (6, (Value.slice A15 ((uv b).length) c16)), (9, (i64 ((i : Nat) : Int))), (10, (Value.pointer (some ⟨b36, 0, none⟩))), (41, (Value.bool true)), (55, (Value.bool ((((⟨(uv a).take i, 0, 0⟩ : Rdr).uint.1 : Nat) : Int) != 0)))] (j := 8) (by kernel_rfl) (by kernel_rfl) ?_
        have h63 : ((((⟨(uv a).take i, 0, 0⟩ : Rdr).uint.1 : Nat) : Int) != 0) = false := by rw [uint_short ha (by omega)]; rfl
        rw [h63]
        refine Ops.regs 1 [(0, (Value.int IntKind.u64 ((a : Nat) : Int))), (1, (Value.int IntKind.u64 ((b : Nat) : Int))), (5, (Value.slice A6 ((uv a).length) c7)), (6, (Value.slice A15 ((uv b).length) c16)), (9, (i64 ((i : Nat) : Int))), (10, (Value.pointer (some ⟨b36, 0, none⟩))), (41, (Value.bool true)), (55, (Value.bool false)), (56, (Value.pointer (some ⟨b36, 0, none⟩)))] (j := 9) (by kernel_rfl) (by kernel_rfl) ?_
        refine Ops.call (by kernel_rfl) (d := (some 57)) (by kernel_rfl) (RdEnd_calls _ b36 A37 c38 ((⟨(uv a).take i, 0, 0⟩ : Rdr).uint.2) hok56 H55 F62 hne44) ?_
        rintro _ w64 ⟨rfl, K65⟩
        refine ⟨_, _, rfl, rfl, ?_⟩
        have H66 := H55.keep K65 (fun h => h)
        clear H55
        have F67 := own_keep0 F58 K65
        clear F58
        have F68 := own_keep0 F59 K65
        clear F59
        have F69 := RdO.keep0 F62 K65
        clear F62
        have K70 := K61.trans K65 (U := none_) (fun i h1 h2 => h2) (fun i h1 h2 => by exact h2)
        clear K61
        clear K65
        refine Ops.regs 3 [(0, (Value.int IntKind.u64 ((a : Nat) : Int))), (1, (Value.int IntKind.u64 ((b : Nat) : Int))), (5, (Value.slice A6 ((uv a).length) c7)), (6, (Value.slice A15 ((uv b).length) c16)), (9, (i64 ((i : Nat) : Int))), (10, (Value.pointer (some ⟨b36, 0, none⟩))), (41, (Value.bool true)), (60, (Value.bool ((((⟨(uv a).take i, 0, 0⟩ : Rdr).uint.2).end_) != 10)))] (j := 13) (by kernel_rfl) (by kernel_rfl) ?_
        have h71 : ((((⟨(uv a).take i, 0, 0⟩ : Rdr).uint.2).end_) != 10) = false := by rw [uint_short ha (by omega)]; rfl
        rw [h71]
        refine Ops.regs 1 [(0, (Value.int IntKind.u64 ((a : Nat) : Int))), (1, (Value.int IntKind.u64 ((b : Nat) : Int))), (5, (Value.slice A6 ((uv a).length) c7)), (6, (Value.slice A15 ((uv b).length) c16)), (9, (i64 ((i : Nat) : Int))), (10, (Value.pointer (some ⟨b36, 0, none⟩))), (41, (Value.bool true)), (60, (Value.bool false)), (61, (Value.pointer (some ⟨b36, 0, none⟩)))] (j := 14) (by kernel_rfl) (by kernel_rfl) ?_
        refine Ops.call (by kernel_rfl) (d := (some 62)) (by kernel_rfl) (At_calls _ b36 A37 c38 ((⟨(uv a).take i, 0, 0⟩ : Rdr).uint.2) hok56 H66 F69 hne44) ?_
        rintro _ w72 ⟨rfl, K73⟩
        refine ⟨_, _, rfl, rfl, ?_⟩
        have H74 := H66.keep K73 (fun h => h)
        clear H66
        have F75 := own_keep0 F67 K73
        clear F67
        have F76 := own_keep0 F68 K73
        clear F68
        have F77 := RdO.keep0 F69 K73
        clear F69
        have K78 := K70.trans K73 (U := none_) (fun i h1 h2 => h2) (fun i h1 h2 => by exact h2)
        clear K70
        clear K73
        refine Ops.regs 2 [(0, (Value.int IntKind.u64 ((a : Nat) : Int))), (1, (Value.int IntKind.u64 ((b : Nat) : Int))), (5, (Value.slice A6 ((uv a).length) c7)), (6, (Value.slice A15 ((uv b).length) c16)), (9, (i64 ((i : Nat) : Int))), (10, (Value.pointer (some ⟨b36, 0, none⟩))), (41, (Value.bool true)), (64, (Value.bool (((((⟨(uv a).take i, 0, 0⟩ : Rdr).uint.2).pos : Nat) : Int) != 0)))] (j := 17) (by kernel_rfl) (by kernel_rfl) ?_
        refine Ops.done (by kernel_rfl) ?_
        have h79 : (((((⟨(uv a).take i, 0, 0⟩ : Rdr).uint.2).pos : Nat) : Int) != 0) = false := by rw [uint_short ha (by omega)]; rfl
        rw [h79]
        refine q_else (o := .tmp 64) (by kernel_rfl) rfl ?_
        refine q_skip (by kernel_rfl) ?_
        refine q_region (by kernel_rfl) ?_
        refine Ops.regs 2 [(0, (Value.int IntKind.u64 ((a : Nat) : Int))), (1, (Value.int IntKind.u64 ((b : Nat) : Int))), (5, (Value.slice A6 ((uv a).length) c7)), (6, (Value.slice A15 ((uv b).length) c16)), (9, (i64 ((i : Nat) : Int))), (10, (Value.pointer (some ⟨b36, 0, none⟩))), (41, (Value.bool true)), (43, (i64 (IntKind.i64.wrap (((i : Nat) : Int) + 1)))), (64, (Value.bool false))] (j := 2) (by kernel_rfl) (by kernel_rfl) ?_
        have e80 : IntKind.i64.wrap (((i : Nat) : Int) + 1) = ((i + 1 : Nat) : Int) := by rw [wrap_i64 (by omega) (by omega)]; omega
        rw [e80]
        clear e80
        refine Ops.regs 1 [(0, (Value.int IntKind.u64 ((a : Nat) : Int))), (1, (Value.int IntKind.u64 ((b : Nat) : Int))), (5, (Value.slice A6 ((uv a).length) c7)), (6, (Value.slice A15 ((uv b).length) c16)), (9, (i64 ((i + 1 : Nat) : Int))), (10, (Value.pointer (some ⟨b36, 0, none⟩))), (41, (Value.bool true)), (64, (Value.bool false))] (j := 3) (by kernel_rfl) (by kernel_rfl) ?_
        refine Ops.keep (R := [(0, (Value.int IntKind.u64 ((a : Nat) : Int))), (1, (Value.int IntKind.u64 ((b : Nat) : Int))), (5, (Value.slice A6 ((uv a).length) c7)), (6, (Value.slice A15 ((uv b).length) c16)), (9, (i64 ((i + 1 : Nat) : Int)))]) (by kernel_rfl) ?_
        refine Ops.done (by kernel_rfl) ?_
        exact ⟨i + 1, ⟨rfl, F75, F76, (by omega), K78⟩, (show (uv a).length - (i + 1) < (uv a).length - i from by omega)⟩
      · rw [h33]
        have p81 : ¬ (((i : Nat) : Int) < (((uv a).length : Nat) : Int)) := of_decide_eq_false h33
        refine q_exit (id := 2) (by kernel_rfl) ?_
        refine q_seq (by kernel_rfl) ?_
        refine q_region (by kernel_rfl) ?_
        refine Ops.regs 4 [(6, (Value.slice A15 ((uv b).length) c16)), (67, (Value.bool (((a : Nat) : Int) == ((b : Nat) : Int)))), (68, (Value.slice A6 ((uv a).length) c7))] (j := 4) (by kernel_rfl) (by kernel_rfl) ?_
        refine Ops.go (v := (Value.string (str (uv a)))) (by kernel_rfl) (Runs.b2s (s := 23) (d := 9) (e := 5) (by kernel_rfl) (by kernel_rfl) (by kernel_rfl) (OwnB.rd hOw0)) (d := (some 69)) (by kernel_rfl) rfl ?_
        refine Ops.regs 1 [(67, (Value.bool (((a : Nat) : Int) == ((b : Nat) : Int)))), (69, (Value.string (str (uv a)))), (70, (Value.slice A15 ((uv b).length) c16))] (j := 6) (by kernel_rfl) (by kernel_rfl) ?_
        refine Ops.go (v := (Value.string (str (uv b)))) (by kernel_rfl) (Runs.b2s (s := 23) (d := 9) (e := 5) (by kernel_rfl) (by kernel_rfl) (by kernel_rfl) (OwnB.rd hOw1)) (d := (some 71)) (by kernel_rfl) rfl ?_
        refine Ops.go (v := (Value.bool ((uv a) == (uv b)))) (by kernel_rfl) (Runs.streq (t := 9) (by kernel_rfl)) (d := (some 72)) (by kernel_rfl) rfl ?_
        refine Ops.split (((a : Nat) : Int) == ((b : Nat) : Int)) (fun h82 => ?_) (fun h82 => ?_)
        · rw [h82]
          have p83 : ((a : Nat) : Int) = ((b : Nat) : Int) := of_beq_t h82
          have h84 : ((uv a) == (uv b)) = true := by rw [show a = b from by omega]; simp
          rw [h84]
          refine Ops.regs 2 [(74, (Value.bool true))] (j := 10) (by kernel_rfl) (by kernel_rfl) ?_
          refine Ops.call (by kernel_rfl) (d := (some 75)) (by kernel_rfl) (known_calls _) ?_
          rintro _ w85 ⟨rfl, K86⟩
          refine ⟨_, _, rfl, rfl, ?_⟩
          have F87 := own_keep0 hOw0 K86
          clear hOw0
          have F88 := own_keep0 hOw1 K86
          clear hOw1
          have K89 := K32.trans K86 (U := none_) (fun i h1 h2 => h2) (fun i h1 h2 => by exact h2)
          clear K32
          clear K86
          refine Ops.regs 2 [(4, (Value.bool true))] (j := 13) (by kernel_rfl) (by kernel_rfl) ?_
          refine Ops.done (by kernel_rfl) ?_
          refine q_ret (by kernel_rfl) ?_
          refine ⟨(Value.bool true), retv_tmp rfl rfl, ?_⟩
          exact ⟨rfl, K89⟩
        · rw [h82]
          have p90 : ¬ (((a : Nat) : Int) = ((b : Nat) : Int)) := of_beq_f h82
          have h91 : ((uv a) == (uv b)) = false := uv_beq ha hb (by omega)
          rw [h91]
          refine Ops.regs 2 [(74, (Value.bool true))] (j := 10) (by kernel_rfl) (by kernel_rfl) ?_
          refine Ops.call (by kernel_rfl) (d := (some 75)) (by kernel_rfl) (known_calls _) ?_
          rintro _ w92 ⟨rfl, K93⟩
          refine ⟨_, _, rfl, rfl, ?_⟩
          have F94 := own_keep0 hOw0 K93
          clear hOw0
          have F95 := own_keep0 hOw1 K93
          clear hOw1
          have K96 := K32.trans K93 (U := none_) (fun i h1 h2 => h2) (fun i h1 h2 => by exact h2)
          clear K32
          clear K93
          refine Ops.regs 2 [(4, (Value.bool true))] (j := 13) (by kernel_rfl) (by kernel_rfl) ?_
          refine Ops.done (by kernel_rfl) ?_
          refine q_ret (by kernel_rfl) ?_
          refine ⟨(Value.bool true), retv_tmp rfl rfl, ?_⟩
          exact ⟨rfl, K96⟩
    · rw [h28]
      have p97 : ¬ (((a : Nat) : Int) ≤ ((b : Nat) : Int)) := of_decide_eq_false h28
      refine Ops.regs 7 [(0, (Value.int IntKind.u64 ((a : Nat) : Int))), (1, (Value.int IntKind.u64 ((b : Nat) : Int))), (4, (Value.bool false)), (5, (Value.slice A6 ((uv a).length) c7)), (6, (Value.slice A15 ((uv b).length) c16)), (37, (Value.bool false))] (j := 16) (by kernel_rfl) (by kernel_rfl) ?_
      refine Ops.done (by kernel_rfl) ?_
      refine q_else (o := .tmp 37) (by kernel_rfl) rfl ?_
      refine q_skip (by kernel_rfl) ?_
      refine q_seq (by kernel_rfl) ?_
      refine q_seq (by kernel_rfl) ?_
      refine q_region (by kernel_rfl) ?_
      refine Ops.regs 1 [(0, (Value.int IntKind.u64 ((a : Nat) : Int))), (1, (Value.int IntKind.u64 ((b : Nat) : Int))), (4, (Value.bool false)), (5, (Value.slice A6 ((uv a).length) c7)), (6, (Value.slice A15 ((uv b).length) c16)), (9, (i64 0))] (j := 1) (by kernel_rfl) (by kernel_rfl) ?_
      refine Ops.done (by kernel_rfl) ?_
      refine q_block (id := 2) (by kernel_rfl) ?_
      refine q_keep (R := [(0, (Value.int IntKind.u64 ((a : Nat) : Int))), (1, (Value.int IntKind.u64 ((b : Nat) : Int))), (5, (Value.slice A6 ((uv a).length) c7)), (6, (Value.slice A15 ((uv b).length) c16)), (9, (i64 0))]) (by kernel_rfl) ?_
      refine q_loop (fun (i : Nat) L (wx : World) => L = [(0, (Value.int IntKind.u64 ((a : Nat) : Int))), (1, (Value.int IntKind.u64 ((b : Nat) : Int))), (5, (Value.slice A6 ((uv a).length) c7)), (6, (Value.slice A15 ((uv b).length) c16)), (9, (i64 ((i : Nat) : Int)))] ∧ OwnB wx w.heap.size 5 (Value.slice A6 ((uv a).length) c7) (uv a) ∧ OwnB wx w.heap.size 5 (Value.slice A15 ((uv b).length) c16) (uv b) ∧ i ≤ (uv a).length ∧ Keeps none_ w wx) (fun (i : Nat) => (uv a).length - i) 0 (by kernel_rfl) ⟨rfl, hOw0, hOw1, Nat.zero_le _, K21⟩ ?_
      clear hOw0 hOw1 K21
      rintro i _ w98 ⟨rfl, hOw0, hOw1, hi, K99⟩
      refine q_seq (by kernel_rfl) ?_
      refine q_seq (by kernel_rfl) ?_
      refine q_region (by kernel_rfl) ?_
      refine Ops.regs 4 [(0, (Value.int IntKind.u64 ((a : Nat) : Int))), (1, (Value.int IntKind.u64 ((b : Nat) : Int))), (5, (Value.slice A6 ((uv a).length) c7)), (6, (Value.slice A15 ((uv b).length) c16)), (9, (i64 ((i : Nat) : Int))), (41, (Value.bool (decide (((i : Nat) : Int) < (((uv a).length : Nat) : Int)))))] (j := 4) (by kernel_rfl) (by kernel_rfl) ?_
      refine Ops.done (by kernel_rfl) ?_
      refine q_cond (o := .tmp 41) (b := (decide (((i : Nat) : Int) < (((uv a).length : Nat) : Int)))) (by kernel_rfl) rfl (fun h100 => ?_) (fun h100 => ?_)
      · rw [h100]
        have p101 : ((i : Nat) : Int) < (((uv a).length : Nat) : Int) := of_decide_eq_true h100
        refine q_skip (by kernel_rfl) ?_
        refine q_seq (by kernel_rfl) ?_
        refine q_block (id := 3) (by kernel_rfl) ?_
        refine q_seq (by kernel_rfl) ?_
        refine q_region (by kernel_rfl) ?_
        refine Ops.regs 2 [(0, (Value.int IntKind.u64 ((a : Nat) : Int))), (1, (Value.int IntKind.u64 ((b : Nat) : Int))), (5, (Value.slice A6 ((uv a).length) c7)), (6, (Value.slice A15 ((uv b).length) c16)), (9, (i64 ((i : Nat) : Int))), (41, (Value.bool true)), (44, (Value.slice A6 ((uv a).length) c7)), (45, (i64 ((i : Nat) : Int)))] (j := 2) (by kernel_rfl) (by kernel_rfl) ?_
        have hcut := run_cut (sz := 1) (P := Try.prog) (w := w98) (t := 23) (A := A6) (n := ((uv a).length)) (c := c7) 0 i c7 (lo := none) (hi := some (i64 ((i : Nat) : Int))) (mx := none) tyB.slice (by kernel_rfl) (.inl ⟨rfl, rfl⟩) (.inr ⟨_, rfl⟩) (.inl ⟨rfl, rfl⟩) (by omega) (by omega) (by omega)
        have hA0 : (if c7 = 0 then A6 else Option.map (fun q => Addr.add q (0 * 1)) A6) = A6 := by cases A6 <;> simp [Addr.add]
        rw [hA0, Nat.sub_zero, Nat.sub_zero] at hcut
        have F102 := RdB.take (OwnB.rd hOw0) (k := i) (by omega)
        have htl : ((uv a).take i).length = i := by rw [List.length_take]; omega
        refine Ops.go (v := (Value.slice A6 i c7)) (by kernel_rfl) (Runs.slice (by kernel_rfl) hcut) (d := (some 46)) (by kernel_rfl) rfl ?_
        clear hcut hA0
        refine Ops.call (by kernel_rfl) (d := (some 47)) (by kernel_rfl) (NewReader_calls _ (Value.slice A6 i c7) ((uv a).take i) F102 (by first | omega | decide)) ?_
        rintro _ w107 ⟨b103, A104, c105, rfl, q106, K108, H109, hr110, hne111, hge112⟩
        have nb103 : w.heap.size ≤ b103 := by have := K99.size; omega
        have ob114 : ∀ i, ((Value.slice A6 ((uv a).length) c7)).ownBlock = some i → i < b103 := fun i hi => by have := (World.ownsRow.lt hOw0 i hi).2; omega
        have ob115 : ∀ i, ((Value.slice A15 ((uv b).length) c16)).ownBlock = some i → i < b103 := fun i hi => by have := (World.ownsRow.lt hOw1 i hi).2; omega
        have hok113 : Rdr.Ok (⟨(uv a).take i, 0, 0⟩ : Rdr) := ⟨Nat.zero_le _, by show ((uv a).take i).length ≤ _; first | omega | decide⟩
        clear q106 hge112
        refine ⟨_, _, rfl, rfl, ?_⟩
        have F116 := own_keep0 hOw0 K108
        clear hOw0
        have F117 := own_keep0 hOw1 K108
        clear hOw1
        have F118 := (Rd.keep0 (by omega) F102 K108)
        clear F102
        have K119 := K99.trans K108 (U := none_) (fun i h1 h2 => h2) (fun i h1 h2 => by exact h2)
        clear K99
        clear K108
        refine Ops.regs 1 [(0, (Value.int IntKind.u64 ((a : Nat) : Int))), (1, (Value.int IntKind.u64 ((b : Nat) : Int))), (5, (Value.slice A6 ((uv a).length) c7)), (6, (Value.slice A15 ((uv b).length) c16)), (9, (i64 ((i : Nat) : Int))), (10, (Value.pointer (some ⟨b103, 0, none⟩))), (41, (Value.bool true))] (j := 5) (by kernel_rfl) (by kernel_rfl) ?_
        refine Ops.done (by kernel_rfl) ?_
        refine q_seq (by kernel_rfl) ?_
        refine q_region (by kernel_rfl) ?_
        refine Ops.regs 4 [(0, (Value.int IntKind.u64 ((a : Nat) : Int))), (1, (Value.int IntKind.u64 ((b : Nat) : Int))), (5, (Value.slice A6 ((uv a).length) c7)), (6, (Value.slice A15 ((uv b).length) c16)), (9, (i64 ((i : Nat) : Int))), (10, (Value.pointer (some ⟨b103, 0, none⟩))), (41, (Value.bool true)), (50, (Value.bool false)), (51, (Value.pointer (some ⟨b103, 0, none⟩)))] (j := 4) (by kernel_rfl) (by kernel_rfl) ?_
        refine Ops.call (by kernel_rfl) (d := (some 52)) (by kernel_rfl) (RdUint_calls _ b103 A104 c105 (⟨(uv a).take i, 0, 0⟩ : Rdr) hok113 H109 hr110 hne111) ?_
        rintro _ w120 ⟨rfl, K121, H122⟩
        have hok123 := Rdr.Ok.uint hok113
        have hu124 := Rdr.uint_lt (⟨(uv a).take i, 0, 0⟩ : Rdr)
        refine ⟨_, _, rfl, rfl, ?_⟩
        have F125 := own_keep F116 K121 (fun i hi hs => by have hs : i = b103 := hs; have := ob114 i hi; omega)
        clear F116
        have F126 := own_keep F117 K121 (fun i hi hs => by have hs : i = b103 := hs; have := ob115 i hi; omega)
        clear F117
        clear F118
        have F127 := RdO.keep hr110 K121 (fun i _ _ hi hs => by have hs : i = b103 := hs; have := hne111 i _ _ hi; omega)
        clear hr110
        have K128 := K119.trans K121 (U := none_) (fun i h1 h2 => h2) (fun i h1 h2 => by have h2 : i = b103 := h2; exfalso; omega)
        clear K119
        clear K121
        have F129 : RdO w120 A104 c105 ((⟨(uv a).take i, 0, 0⟩ : Rdr).uint.2).bs := by rw [Rdr.uint_bs]; exact F127
        clear F127
        refine Ops.regs 3 [(0, (Value.int IntKind.u64 ((a : Nat) : Int))), (1, (Value.int IntKind.u64 ((b : Nat) : Int))), (5, (Value.slice A6 ((uv a).length) c7)), (6, (Value.slice A15 ((uv b).length) c16)), (9, (i64 ((i : Nat) : Int))), (10, (Value.pointer (some ⟨b103, 0, none⟩))), (41, (Value.bool true)), (55, (Value.bool ((((⟨(uv a).take i, 0, 0⟩ : Rdr).uint.1 : Nat) : Int) != 0)))] (j := 8) (by kernel_rfl) (by kernel_rfl) ?_
        have h130 : ((((⟨(uv a).take i, 0, 0⟩ : Rdr).uint.1 : Nat) : Int) != 0) = false := by rw [uint_short ha (by omega)]; rfl
        rw [h130]
        refine Ops.regs 1 [(0, (Value.int IntKind.u64 ((a : Nat) : Int))), (1, (Value.int IntKind.u64 ((b : Nat) : Int))), (5, (Value.slice A6 ((uv a).length) c7)), (6, (Value.slice A15 ((uv b).length) c16)), (9, (i64 ((i : Nat) : Int))), (10, (Value.pointer (some ⟨b103, 0, none⟩))), (41, (Value.bool true)), (55, (Value.bool false)), (56, (Value.pointer (some ⟨b103, 0, none⟩)))] (j := 9) (by kernel_rfl) (by kernel_rfl) ?_
        refine Ops.call (by kernel_rfl) (d := (some 57)) (by kernel_rfl) (RdEnd_calls _ b103 A104 c105 ((⟨(uv a).take i, 0, 0⟩ : Rdr).uint.2) hok123 H122 F129 hne111) ?_
        rintro _ w131 ⟨rfl, K132⟩
        refine ⟨_, _, rfl, rfl, ?_⟩
        have H133 := H122.keep K132 (fun h => h)
        clear H122
        have F134 := own_keep0 F125 K132
        clear F125
        have F135 := own_keep0 F126 K132
        clear F126
        have F136 := RdO.keep0 F129 K132
        clear F129
        have K137 := K128.trans K132 (U := none_) (fun i h1 h2 => h2) (fun i h1 h2 => by exact h2)
        clear K128
        clear K132
        refine Ops.regs 3 [(0, (Value.int IntKind.u64 ((a : Nat) : Int))), (1, (Value.int IntKind.u64 ((b : Nat) : Int))), (5, (Value.slice A6 ((uv a).length) c7)), (6, (Value.slice A15 ((uv b).length) c16)), (9, (i64 ((i : Nat) : Int))), (10, (Value.pointer (some ⟨b103, 0, none⟩))), (41, (Value.bool true)), (60, (Value.bool ((((⟨(uv a).take i, 0, 0⟩ : Rdr).uint.2).end_) != 10)))] (j := 13) (by kernel_rfl) (by kernel_rfl) ?_
        have h138 : ((((⟨(uv a).take i, 0, 0⟩ : Rdr).uint.2).end_) != 10) = false := by rw [uint_short ha (by omega)]; rfl
        rw [h138]
        refine Ops.regs 1 [(0, (Value.int IntKind.u64 ((a : Nat) : Int))), (1, (Value.int IntKind.u64 ((b : Nat) : Int))), (5, (Value.slice A6 ((uv a).length) c7)), (6, (Value.slice A15 ((uv b).length) c16)), (9, (i64 ((i : Nat) : Int))), (10, (Value.pointer (some ⟨b103, 0, none⟩))), (41, (Value.bool true)), (60, (Value.bool false)), (61, (Value.pointer (some ⟨b103, 0, none⟩)))] (j := 14) (by kernel_rfl) (by kernel_rfl) ?_
        refine Ops.call (by kernel_rfl) (d := (some 62)) (by kernel_rfl) (At_calls _ b103 A104 c105 ((⟨(uv a).take i, 0, 0⟩ : Rdr).uint.2) hok123 H133 F136 hne111) ?_
        rintro _ w139 ⟨rfl, K140⟩
        refine ⟨_, _, rfl, rfl, ?_⟩
        have H141 := H133.keep K140 (fun h => h)
        clear H133
        have F142 := own_keep0 F134 K140
        clear F134
        have F143 := own_keep0 F135 K140
        clear F135
        have F144 := RdO.keep0 F136 K140
        clear F136
        have K145 := K137.trans K140 (U := none_) (fun i h1 h2 => h2) (fun i h1 h2 => by exact h2)
        clear K137
        clear K140
        refine Ops.regs 2 [(0, (Value.int IntKind.u64 ((a : Nat) : Int))), (1, (Value.int IntKind.u64 ((b : Nat) : Int))), (5, (Value.slice A6 ((uv a).length) c7)), (6, (Value.slice A15 ((uv b).length) c16)), (9, (i64 ((i : Nat) : Int))), (10, (Value.pointer (some ⟨b103, 0, none⟩))), (41, (Value.bool true)), (64, (Value.bool (((((⟨(uv a).take i, 0, 0⟩ : Rdr).uint.2).pos : Nat) : Int) != 0)))] (j := 17) (by kernel_rfl) (by kernel_rfl) ?_
        refine Ops.done (by kernel_rfl) ?_
        have h146 : (((((⟨(uv a).take i, 0, 0⟩ : Rdr).uint.2).pos : Nat) : Int) != 0) = false := by rw [uint_short ha (by omega)]; rfl
        rw [h146]
        refine q_else (o := .tmp 64) (by kernel_rfl) rfl ?_
        refine q_skip (by kernel_rfl) ?_
        refine q_region (by kernel_rfl) ?_
        refine Ops.regs 2 [(0, (Value.int IntKind.u64 ((a : Nat) : Int))), (1, (Value.int IntKind.u64 ((b : Nat) : Int))), (5, (Value.slice A6 ((uv a).length) c7)), (6, (Value.slice A15 ((uv b).length) c16)), (9, (i64 ((i : Nat) : Int))), (10, (Value.pointer (some ⟨b103, 0, none⟩))), (41, (Value.bool true)), (43, (i64 (IntKind.i64.wrap (((i : Nat) : Int) + 1)))), (64, (Value.bool false))] (j := 2) (by kernel_rfl) (by kernel_rfl) ?_
        have e147 : IntKind.i64.wrap (((i : Nat) : Int) + 1) = ((i + 1 : Nat) : Int) := by rw [wrap_i64 (by omega) (by omega)]; omega
        rw [e147]
        clear e147
        refine Ops.regs 1 [(0, (Value.int IntKind.u64 ((a : Nat) : Int))), (1, (Value.int IntKind.u64 ((b : Nat) : Int))), (5, (Value.slice A6 ((uv a).length) c7)), (6, (Value.slice A15 ((uv b).length) c16)), (9, (i64 ((i + 1 : Nat) : Int))), (10, (Value.pointer (some ⟨b103, 0, none⟩))), (41, (Value.bool true)), (64, (Value.bool false))] (j := 3) (by kernel_rfl) (by kernel_rfl) ?_
        refine Ops.keep (R := [(0, (Value.int IntKind.u64 ((a : Nat) : Int))), (1, (Value.int IntKind.u64 ((b : Nat) : Int))), (5, (Value.slice A6 ((uv a).length) c7)), (6, (Value.slice A15 ((uv b).length) c16)), (9, (i64 ((i + 1 : Nat) : Int)))]) (by kernel_rfl) ?_
        refine Ops.done (by kernel_rfl) ?_
        exact ⟨i + 1, ⟨rfl, F142, F143, (by omega), K145⟩, (show (uv a).length - (i + 1) < (uv a).length - i from by omega)⟩
      · rw [h100]
        have p148 : ¬ (((i : Nat) : Int) < (((uv a).length : Nat) : Int)) := of_decide_eq_false h100
        refine q_exit (id := 2) (by kernel_rfl) ?_
        refine q_seq (by kernel_rfl) ?_
        refine q_region (by kernel_rfl) ?_
        refine Ops.regs 4 [(6, (Value.slice A15 ((uv b).length) c16)), (67, (Value.bool (((a : Nat) : Int) == ((b : Nat) : Int)))), (68, (Value.slice A6 ((uv a).length) c7))] (j := 4) (by kernel_rfl) (by kernel_rfl) ?_
        refine Ops.go (v := (Value.string (str (uv a)))) (by kernel_rfl) (Runs.b2s (s := 23) (d := 9) (e := 5) (by kernel_rfl) (by kernel_rfl) (by kernel_rfl) (OwnB.rd hOw0)) (d := (some 69)) (by kernel_rfl) rfl ?_
        refine Ops.regs 1 [(67, (Value.bool (((a : Nat) : Int) == ((b : Nat) : Int)))), (69, (Value.string (str (uv a)))), (70, (Value.slice A15 ((uv b).length) c16))] (j := 6) (by kernel_rfl) (by kernel_rfl) ?_
        refine Ops.go (v := (Value.string (str (uv b)))) (by kernel_rfl) (Runs.b2s (s := 23) (d := 9) (e := 5) (by kernel_rfl) (by kernel_rfl) (by kernel_rfl) (OwnB.rd hOw1)) (d := (some 71)) (by kernel_rfl) rfl ?_
        refine Ops.go (v := (Value.bool ((uv a) == (uv b)))) (by kernel_rfl) (Runs.streq (t := 9) (by kernel_rfl)) (d := (some 72)) (by kernel_rfl) rfl ?_
        refine Ops.split (((a : Nat) : Int) == ((b : Nat) : Int)) (fun h149 => ?_) (fun h149 => ?_)
        · rw [h149]
          have p150 : ((a : Nat) : Int) = ((b : Nat) : Int) := of_beq_t h149
          have h151 : ((uv a) == (uv b)) = true := by rw [show a = b from by omega]; simp
          rw [h151]
          refine Ops.regs 2 [(74, (Value.bool true))] (j := 10) (by kernel_rfl) (by kernel_rfl) ?_
          refine Ops.call (by kernel_rfl) (d := (some 75)) (by kernel_rfl) (known_calls _) ?_
          rintro _ w152 ⟨rfl, K153⟩
          refine ⟨_, _, rfl, rfl, ?_⟩
          have F154 := own_keep0 hOw0 K153
          clear hOw0
          have F155 := own_keep0 hOw1 K153
          clear hOw1
          have K156 := K99.trans K153 (U := none_) (fun i h1 h2 => h2) (fun i h1 h2 => by exact h2)
          clear K99
          clear K153
          refine Ops.regs 2 [(4, (Value.bool true))] (j := 13) (by kernel_rfl) (by kernel_rfl) ?_
          refine Ops.done (by kernel_rfl) ?_
          refine q_ret (by kernel_rfl) ?_
          refine ⟨(Value.bool true), retv_tmp rfl rfl, ?_⟩
          exact ⟨rfl, K156⟩
        · rw [h149]
          have p157 : ¬ (((a : Nat) : Int) = ((b : Nat) : Int)) := of_beq_f h149
          have h158 : ((uv a) == (uv b)) = false := uv_beq ha hb (by omega)
          rw [h158]
          refine Ops.regs 2 [(74, (Value.bool true))] (j := 10) (by kernel_rfl) (by kernel_rfl) ?_
          refine Ops.call (by kernel_rfl) (d := (some 75)) (by kernel_rfl) (known_calls _) ?_
          rintro _ w159 ⟨rfl, K160⟩
          refine ⟨_, _, rfl, rfl, ?_⟩
          have F161 := own_keep0 hOw0 K160
          clear hOw0
          have F162 := own_keep0 hOw1 K160
          clear hOw1
          have K163 := K99.trans K160 (U := none_) (fun i h1 h2 => h2) (fun i h1 h2 => by exact h2)
          clear K99
          clear K160
          refine Ops.regs 2 [(4, (Value.bool true))] (j := 13) (by kernel_rfl) (by kernel_rfl) ?_
          refine Ops.done (by kernel_rfl) ?_
          refine q_ret (by kernel_rfl) ?_
          refine ⟨(Value.bool true), retv_tmp rfl rfl, ?_⟩
          exact ⟨rfl, K163⟩
end Go.Proofs.Ytnepjfnkaigakaa
