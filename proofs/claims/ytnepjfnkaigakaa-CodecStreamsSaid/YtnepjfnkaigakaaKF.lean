/- codec: messages are written -/
import Derived.Test.YtnepjfnkaigakaaProg
import Derived.Test.YtnepjfnkaigakaaLF
import Derived.Test.YtnepjfnkaigakaaKC
set_option linter.unusedVariables false
namespace Go.Proofs.Ytnepjfnkaigakaa
open Go.Q Go.RowKit

set_option maxHeartbeats 4000000 in
theorem Msg_calls (w : World) (m : MsgP) (E : Option Addr) (ec : Nat) (D : Option Addr) (dc : Nat) (hm : m.Ok) (hE : RdE w (.slice E m.entries.length ec) m.entries) (hC : EntsIn w m.entries) (hD : RdB w (.slice D m.data.length dc) m.data) : Calls Try.prog 23 ⟨[(agg [(i64 m.kind), (i64 m.group), (i64 m.frm), (i64 m.to), (i64 m.term), (i64 m.index), (i64 m.logTerm), (i64 m.commit), (Value.bool m.ok), (Value.slice E m.entries.length ec), (Value.slice D m.data.length dc)])]⟩ w (fun e w' => ∃ v' er out, e = .returned (.tuple #[v', i64 er]) ∧ Keeps none_ w w' ∧ OwnB w' w.heap.size 5 v' out ∧ (m.Fits ∧ er = 0 ∧ out = msgv m ∨ ¬ m.Fits ∧ er = 3 ∧ out = [])) := by
  have hi1 := hm.kind
  have hi2 := hm.group
  have hi3 := hm.frm
  have hi4 := hm.to
  have hi5 := hm.term
  have hi6 := hm.index
  have hi7 := hm.logTerm
  have hi8 := hm.commit
  have hel := (RdT.len EntP.two (by decide) hE).2
  unfold maxLen at hel
  have hdl := hD.slice
  unfold maxLen at hdl
  have hhl := headv_len hm
  have hml := msgv_len m
  have hes := entsv_sum m.entries
  have htd := tv_ge m.data
  have K0 : Keeps none_ w w := Keeps.refl w
  refine q_calls Try.func23 (by kernel_rfl) (by kernel_rfl) ?_
  refine q_seq (by kernel_rfl) ?_
  refine q_region (by kernel_rfl) ?_
  refine Ops.new (o := rowL [(i64 m.kind), (i64 m.group), (i64 m.frm), (i64 m.to), (i64 m.term), (i64 m.index), (i64 m.logTerm), (i64 m.commit), (Value.bool m.ok), (Value.slice E m.entries.length ec), (Value.slice D m.data.length dc)] 49) (V := fun b => (Value.pointer (some ⟨b, 0, none⟩))) (by kernel_rfl) (d := (some 1)) (by kernel_rfl) (fun b => rfl) (fun b1 w2 hb3 H4 K5 hs6 => ?_)
  have nb1 : w.heap.size ≤ b1 := by have := K0.size; omega
  have K7 := K0.trans K5 (U := none_) (fun i h1 h2 => h2) (fun i h1 h2 => by exact h2)
  clear K0
  clear K5 hs6
  refine Ops.regs 2 [(1, (Value.pointer (some ⟨b1, 0, none⟩))), (2, (Value.slice none 0 0)), (3, (i64 0))] (j := 3) (by kernel_rfl) (by kernel_rfl) ?_
  refine Ops.done (by kernel_rfl) ?_
  refine q_seq (by kernel_rfl) ?_
  refine q_seq (by kernel_rfl) ?_
  refine q_region (by kernel_rfl) ?_
  refine Ops.regs 1 [(1, (Value.pointer (some ⟨b1, 0, none⟩))), (2, (Value.slice none 0 0)), (3, (i64 0)), (9, (Value.pointer (some ⟨b1, 9, none⟩)))] (j := 1) (by kernel_rfl) (by kernel_rfl) ?_
  refine Ops.go (v := (Value.slice E m.entries.length ec)) (by kernel_rfl) (Runs.load (t := 47) (a := ⟨b1, 9, none⟩) (by kernel_rfl) (H4.loads (by kernel_rfl))) (d := (some 10)) (by kernel_rfl) rfl ?_
  refine Ops.regs 3 [(1, (Value.pointer (some ⟨b1, 0, none⟩))), (2, (Value.slice none 0 0)), (3, (i64 0)), (13, (Value.bool (decide (((m.entries.length : Nat) : Int) > 4096))))] (j := 5) (by kernel_rfl) (by kernel_rfl) ?_
  refine Ops.split (decide (((m.entries.length : Nat) : Int) > 4096)) (fun h8 => ?_) (fun h8 => ?_)
  · rw [h8]
    have p9 : ((m.entries.length : Nat) : Int) > 4096 := of_decide_eq_true h8
    refine Ops.regs 5 [(1, (Value.pointer (some ⟨b1, 0, none⟩))), (2, (Value.slice none 0 0)), (3, (i64 0)), (18, (Value.bool true))] (j := 10) (by kernel_rfl) (by kernel_rfl) ?_
    refine Ops.done (by kernel_rfl) ?_
    refine q_then (o := .tmp 18) (by kernel_rfl) rfl ?_
    refine q_seq (by kernel_rfl) ?_
    refine q_region (by kernel_rfl) ?_
    refine Ops.regs 2 [(1, (Value.pointer (some ⟨b1, 0, none⟩))), (2, (Value.slice none 0 0)), (3, (i64 3))] (j := 2) (by kernel_rfl) (by kernel_rfl) ?_
    refine Ops.done (by kernel_rfl) ?_
    refine q_ret (by kernel_rfl) ?_
    refine ⟨(Value.tuple #[(Value.slice none 0 0), (i64 3)]), retv_tmp2 rfl rfl rfl, ?_⟩
    exact ⟨_, _, _, rfl, K7, World.ownsRow_nil _ _ _ _, .inr ⟨fun hf => by have h1 := hf.count; have h2 := hf.data; have h3 := hf.size; omega, rfl, rfl⟩⟩
  · rw [h8]
    have p10 : ¬ (((m.entries.length : Nat) : Int) > 4096) := of_decide_eq_false h8
    refine Ops.regs 1 [(1, (Value.pointer (some ⟨b1, 0, none⟩))), (2, (Value.slice none 0 0)), (3, (i64 0)), (13, (Value.bool false)), (14, (Value.pointer (some ⟨b1, 10, none⟩)))] (j := 6) (by kernel_rfl) (by kernel_rfl) ?_
    refine Ops.go (v := (Value.slice D m.data.length dc)) (by kernel_rfl) (Runs.load (t := 23) (a := ⟨b1, 10, none⟩) (by kernel_rfl) (H4.loads (by kernel_rfl))) (d := (some 15)) (by kernel_rfl) rfl ?_
    refine Ops.regs 3 [(1, (Value.pointer (some ⟨b1, 0, none⟩))), (2, (Value.slice none 0 0)), (3, (i64 0)), (18, (Value.bool (decide (((m.data.length : Nat) : Int) > 65536))))] (j := 10) (by kernel_rfl) (by kernel_rfl) ?_
    refine Ops.done (by kernel_rfl) ?_
    refine q_cond (o := .tmp 18) (b := (decide (((m.data.length : Nat) : Int) > 65536))) (by kernel_rfl) rfl (fun h11 => ?_) (fun h11 => ?_)
    · rw [h11]
      have p12 : ((m.data.length : Nat) : Int) > 65536 := of_decide_eq_true h11
      refine q_seq (by kernel_rfl) ?_
      refine q_region (by kernel_rfl) ?_
      refine Ops.regs 2 [(1, (Value.pointer (some ⟨b1, 0, none⟩))), (2, (Value.slice none 0 0)), (3, (i64 3))] (j := 2) (by kernel_rfl) (by kernel_rfl) ?_
      refine Ops.done (by kernel_rfl) ?_
      refine q_ret (by kernel_rfl) ?_
      refine ⟨(Value.tuple #[(Value.slice none 0 0), (i64 3)]), retv_tmp2 rfl rfl rfl, ?_⟩
      exact ⟨_, _, _, rfl, K7, World.ownsRow_nil _ _ _ _, .inr ⟨fun hf => by have h1 := hf.count; have h2 := hf.data; have h3 := hf.size; omega, rfl, rfl⟩⟩
    · rw [h11]
      have p13 : ¬ (((m.data.length : Nat) : Int) > 65536) := of_decide_eq_false h11
      refine q_skip (by kernel_rfl) ?_
      refine q_seq (by kernel_rfl) ?_
      refine q_region (by kernel_rfl) ?_
      refine Ops.regs 1 [(1, (Value.pointer (some ⟨b1, 0, none⟩))), (2, (Value.slice none 0 0)), (3, (i64 0)), (4, (Value.slice none 0 0))] (j := 1) (by kernel_rfl) (by kernel_rfl) ?_
      refine Ops.done (by kernel_rfl) ?_
      refine q_seq (by kernel_rfl) ?_
      refine q_seq (by kernel_rfl) ?_
      refine q_region (by kernel_rfl) ?_
      refine Ops.regs 1 [(1, (Value.pointer (some ⟨b1, 0, none⟩))), (2, (Value.slice none 0 0)), (3, (i64 0)), (4, (Value.slice none 0 0)), (19, (Value.pointer (some ⟨b1, 0, none⟩)))] (j := 1) (by kernel_rfl) (by kernel_rfl) ?_
      refine Ops.go (v := (i64 m.kind)) (by kernel_rfl) (Runs.load (t := 3) (a := ⟨b1, 0, none⟩) (by kernel_rfl) (H4.loads (by kernel_rfl))) (d := (some 20)) (by kernel_rfl) rfl ?_
      refine Ops.regs 1 [(1, (Value.pointer (some ⟨b1, 0, none⟩))), (2, (Value.slice none 0 0)), (3, (i64 0)), (4, (Value.slice none 0 0)), (20, (i64 m.kind)), (21, (Value.pointer (some ⟨b1, 1, none⟩)))] (j := 3) (by kernel_rfl) (by kernel_rfl) ?_
      refine Ops.go (v := (i64 m.group)) (by kernel_rfl) (Runs.load (t := 3) (a := ⟨b1, 1, none⟩) (by kernel_rfl) (H4.loads (by kernel_rfl))) (d := (some 22)) (by kernel_rfl) rfl ?_
      refine Ops.regs 1 [(1, (Value.pointer (some ⟨b1, 0, none⟩))), (2, (Value.slice none 0 0)), (3, (i64 0)), (4, (Value.slice none 0 0)), (20, (i64 m.kind)), (22, (i64 m.group)), (23, (Value.pointer (some ⟨b1, 2, none⟩)))] (j := 5) (by kernel_rfl) (by kernel_rfl) ?_
      refine Ops.go (v := (i64 m.frm)) (by kernel_rfl) (Runs.load (t := 3) (a := ⟨b1, 2, none⟩) (by kernel_rfl) (H4.loads (by kernel_rfl))) (d := (some 24)) (by kernel_rfl) rfl ?_
      refine Ops.regs 1 [(1, (Value.pointer (some ⟨b1, 0, none⟩))), (2, (Value.slice none 0 0)), (3, (i64 0)), (4, (Value.slice none 0 0)), (20, (i64 m.kind)), (22, (i64 m.group)), (24, (i64 m.frm)), (25, (Value.pointer (some ⟨b1, 3, none⟩)))] (j := 7) (by kernel_rfl) (by kernel_rfl) ?_
      refine Ops.go (v := (i64 m.to)) (by kernel_rfl) (Runs.load (t := 3) (a := ⟨b1, 3, none⟩) (by kernel_rfl) (H4.loads (by kernel_rfl))) (d := (some 26)) (by kernel_rfl) rfl ?_
      refine Ops.regs 1 [(1, (Value.pointer (some ⟨b1, 0, none⟩))), (2, (Value.slice none 0 0)), (3, (i64 0)), (4, (Value.slice none 0 0)), (20, (i64 m.kind)), (22, (i64 m.group)), (24, (i64 m.frm)), (26, (i64 m.to)), (27, (Value.pointer (some ⟨b1, 4, none⟩)))] (j := 9) (by kernel_rfl) (by kernel_rfl) ?_
      refine Ops.go (v := (i64 m.term)) (by kernel_rfl) (Runs.load (t := 2) (a := ⟨b1, 4, none⟩) (by kernel_rfl) (H4.loads (by kernel_rfl))) (d := (some 28)) (by kernel_rfl) rfl ?_
      refine Ops.regs 1 [(1, (Value.pointer (some ⟨b1, 0, none⟩))), (2, (Value.slice none 0 0)), (3, (i64 0)), (4, (Value.slice none 0 0)), (20, (i64 m.kind)), (22, (i64 m.group)), (24, (i64 m.frm)), (26, (i64 m.to)), (28, (i64 m.term)), (29, (Value.pointer (some ⟨b1, 5, none⟩)))] (j := 11) (by kernel_rfl) (by kernel_rfl) ?_
      refine Ops.go (v := (i64 m.index)) (by kernel_rfl) (Runs.load (t := 2) (a := ⟨b1, 5, none⟩) (by kernel_rfl) (H4.loads (by kernel_rfl))) (d := (some 30)) (by kernel_rfl) rfl ?_
      refine Ops.regs 1 [(1, (Value.pointer (some ⟨b1, 0, none⟩))), (2, (Value.slice none 0 0)), (3, (i64 0)), (4, (Value.slice none 0 0)), (20, (i64 m.kind)), (22, (i64 m.group)), (24, (i64 m.frm)), (26, (i64 m.to)), (28, (i64 m.term)), (30, (i64 m.index)), (31, (Value.pointer (some ⟨b1, 6, none⟩)))] (j := 13) (by kernel_rfl) (by kernel_rfl) ?_
      refine Ops.go (v := (i64 m.logTerm)) (by kernel_rfl) (Runs.load (t := 2) (a := ⟨b1, 6, none⟩) (by kernel_rfl) (H4.loads (by kernel_rfl))) (d := (some 32)) (by kernel_rfl) rfl ?_
      refine Ops.regs 1 [(1, (Value.pointer (some ⟨b1, 0, none⟩))), (2, (Value.slice none 0 0)), (3, (i64 0)), (4, (Value.slice none 0 0)), (20, (i64 m.kind)), (22, (i64 m.group)), (24, (i64 m.frm)), (26, (i64 m.to)), (28, (i64 m.term)), (30, (i64 m.index)), (32, (i64 m.logTerm)), (33, (Value.pointer (some ⟨b1, 7, none⟩)))] (j := 15) (by kernel_rfl) (by kernel_rfl) ?_
      refine Ops.go (v := (i64 m.commit)) (by kernel_rfl) (Runs.load (t := 2) (a := ⟨b1, 7, none⟩) (by kernel_rfl) (H4.loads (by kernel_rfl))) (d := (some 34)) (by kernel_rfl) rfl ?_
      refine Ops.new (o := rowL [(i64 m.kind), (i64 m.group), (i64 m.frm), (i64 m.to), (i64 m.term), (i64 m.index), (i64 m.logTerm), (i64 m.commit)] 2) (V := fun b => (Value.slice (some ⟨b, 0, none⟩) 8 8)) (by kernel_rfl) (d := (some 35)) (by kernel_rfl) (fun b => rfl) (fun b14 w15 hb16 H17 K18 hs19 => ?_)
      have lb14 : b1 < b14 := by have := H4.lt; omega
      have nb14 : w.heap.size ≤ b14 := by have := K7.size; omega
      have K20 := K7.trans K18 (U := none_) (fun i h1 h2 => h2) (fun i h1 h2 => by exact h2)
      clear K7
      have H21 := H4.keep K18 (fun h => h)
      clear H4
      clear K18 hs19
      refine Ops.regs 2 [(1, (Value.pointer (some ⟨b1, 0, none⟩))), (2, (Value.slice none 0 0)), (3, (i64 0)), (4, (Value.slice none 0 0)), (35, (Value.slice (some ⟨b14, 0, none⟩) 8 8)), (36, (i64 8)), (37, (i64 0))] (j := 19) (by kernel_rfl) (by kernel_rfl) ?_
      refine Ops.done (by kernel_rfl) ?_
      refine q_block (id := 0) (by kernel_rfl) ?_
      refine q_roll 9 (by kernel_rfl) ?_
      refine roll_step ?_
      refine q_seq (by kernel_rfl) ?_
      refine q_region (by kernel_rfl) ?_
      refine Ops.regs 1 [(1, (Value.pointer (some ⟨b1, 0, none⟩))), (2, (Value.slice none 0 0)), (3, (i64 0)), (4, (Value.slice none 0 0)), (35, (Value.slice (some ⟨b14, 0, none⟩) 8 8)), (36, (i64 8)), (37, (i64 0)), (38, (Value.bool true))] (j := 1) (by kernel_rfl) (by kernel_rfl) ?_
      refine Ops.done (by kernel_rfl) ?_
      refine q_seq (by kernel_rfl) ?_
      refine q_then (o := .tmp 38) (by kernel_rfl) rfl ?_
      refine q_skip (by kernel_rfl) ?_
      refine q_seq (by kernel_rfl) ?_
      refine q_block (id := 1) (by kernel_rfl) ?_
      refine q_seq (by kernel_rfl) ?_
      refine q_region (by kernel_rfl) ?_
      refine Ops.regs 1 [(1, (Value.pointer (some ⟨b1, 0, none⟩))), (2, (Value.slice none 0 0)), (3, (i64 0)), (4, (Value.slice none 0 0)), (35, (Value.slice (some ⟨b14, 0, none⟩) 8 8)), (36, (i64 8)), (37, (i64 0)), (38, (Value.bool true)), (39, (Value.pointer (some ⟨b14, 0, none⟩)))] (j := 1) (by kernel_rfl) (by kernel_rfl) ?_
      refine Ops.go (v := (i64 m.kind)) (by kernel_rfl) (Runs.load (t := 2) (a := ⟨b14, 0, none⟩) (by kernel_rfl) (H17.loads (by kernel_rfl))) (d := (some 40)) (by kernel_rfl) rfl ?_
      refine Ops.regs 1 [(1, (Value.pointer (some ⟨b1, 0, none⟩))), (2, (Value.slice none 0 0)), (3, (i64 0)), (4, (Value.slice none 0 0)), (6, (i64 m.kind)), (35, (Value.slice (some ⟨b14, 0, none⟩) 8 8)), (36, (i64 8)), (37, (i64 0)), (38, (Value.bool true))] (j := 3) (by kernel_rfl) (by kernel_rfl) ?_
      refine Ops.done (by kernel_rfl) ?_
      refine q_region (by kernel_rfl) ?_
      refine Ops.regs 2 [(1, (Value.pointer (some ⟨b1, 0, none⟩))), (2, (Value.slice none 0 0)), (3, (i64 0)), (4, (Value.slice none 0 0)), (6, (i64 m.kind)), (35, (Value.slice (some ⟨b14, 0, none⟩) 8 8)), (36, (i64 8)), (37, (i64 0)), (38, (Value.bool true)), (41, (Value.slice none 0 0)), (42, (i64 m.kind))] (j := 2) (by kernel_rfl) (by kernel_rfl) ?_
      refine Ops.call (by kernel_rfl) (d := (some 43)) (by kernel_rfl) (Int_calls _ (Value.slice none 0 0) [] m.kind (Rd.nil _ _) (by omega) (by (try simp only at *); (try simp only [List.length_append] at *); (try simp only [List.length_cons] at *); (try simp only [List.length_nil] at *); omega)) ?_
      rintro _ w24 ⟨v23, rfl, K25, hO26⟩
      have ob28 : ∀ i, (v23).ownBlock = some i → i ≠ b1 := fun i hi => by have := (World.ownsRow.lt hO26 i hi).1; have := H21.lt; omega
      have ob29 : ∀ i, (v23).ownBlock = some i → i ≠ b14 := fun i hi => by have := (World.ownsRow.lt hO26 i hi).1; have := H17.lt; omega
      have O27 : OwnB w24 w.heap.size _ v23 (iv m.kind) := own_base hO26 K20.size
      clear hO26
      have hL22 := iv_length_10 (n := m.kind) (by omega)
      refine ⟨_, _, rfl, rfl, ?_⟩
      have K30 := K20.trans K25 (U := none_) (fun i h1 h2 => h2) (fun i h1 h2 => by exact h2)
      clear K20
      have H31 := H21.keep K25 (fun h => h)
      clear H21
      have H32 := H17.keep K25 (fun h => h)
      clear H17
      clear K25
      refine Ops.regs 1 [(1, (Value.pointer (some ⟨b1, 0, none⟩))), (2, (Value.slice none 0 0)), (3, (i64 0)), (4, v23), (6, (i64 m.kind)), (35, (Value.slice (some ⟨b14, 0, none⟩) 8 8)), (36, (i64 8)), (37, (i64 0)), (38, (Value.bool true))] (j := 4) (by kernel_rfl) (by kernel_rfl) ?_
      refine Ops.done (by kernel_rfl) ?_
      refine q_region (by kernel_rfl) ?_
      refine Ops.regs 2 [(1, (Value.pointer (some ⟨b1, 0, none⟩))), (2, (Value.slice none 0 0)), (3, (i64 0)), (4, v23), (6, (i64 m.kind)), (35, (Value.slice (some ⟨b14, 0, none⟩) 8 8)), (36, (i64 8)), (37, (i64 1)), (38, (Value.bool true))] (j := 2) (by kernel_rfl) (by kernel_rfl) ?_
      refine Ops.done (by kernel_rfl) ?_
      refine roll_step ?_
      refine q_seq (by kernel_rfl) ?_
      refine q_region (by kernel_rfl) ?_
      refine Ops.regs 1 [(1, (Value.pointer (some ⟨b1, 0, none⟩))), (2, (Value.slice none 0 0)), (3, (i64 0)), (4, v23), (6, (i64 m.kind)), (35, (Value.slice (some ⟨b14, 0, none⟩) 8 8)), (36, (i64 8)), (37, (i64 1)), (38, (Value.bool true))] (j := 1) (by kernel_rfl) (by kernel_rfl) ?_
      refine Ops.done (by kernel_rfl) ?_
      refine q_seq (by kernel_rfl) ?_
      refine q_then (o := .tmp 38) (by kernel_rfl) rfl ?_
      refine q_skip (by kernel_rfl) ?_
      refine q_seq (by kernel_rfl) ?_
      refine q_block (id := 1) (by kernel_rfl) ?_
      refine q_seq (by kernel_rfl) ?_
      refine q_region (by kernel_rfl) ?_
      refine Ops.regs 1 [(1, (Value.pointer (some ⟨b1, 0, none⟩))), (2, (Value.slice none 0 0)), (3, (i64 0)), (4, v23), (6, (i64 m.kind)), (35, (Value.slice (some ⟨b14, 0, none⟩) 8 8)), (36, (i64 8)), (37, (i64 1)), (38, (Value.bool true)), (39, (Value.pointer (some ⟨b14, 1, none⟩)))] (j := 1) (by kernel_rfl) (by kernel_rfl) ?_
      refine Ops.go (v := (i64 m.group)) (by kernel_rfl) (Runs.load (t := 2) (a := ⟨b14, 1, none⟩) (by kernel_rfl) (H32.loads (by kernel_rfl))) (d := (some 40)) (by kernel_rfl) rfl ?_
      refine Ops.regs 1 [(1, (Value.pointer (some ⟨b1, 0, none⟩))), (2, (Value.slice none 0 0)), (3, (i64 0)), (4, v23), (6, (i64 m.group)), (35, (Value.slice (some ⟨b14, 0, none⟩) 8 8)), (36, (i64 8)), (37, (i64 1)), (38, (Value.bool true))] (j := 3) (by kernel_rfl) (by kernel_rfl) ?_
      refine Ops.done (by kernel_rfl) ?_
      refine q_region (by kernel_rfl) ?_
      refine Ops.regs 2 [(1, (Value.pointer (some ⟨b1, 0, none⟩))), (2, (Value.slice none 0 0)), (3, (i64 0)), (4, v23), (6, (i64 m.group)), (35, (Value.slice (some ⟨b14, 0, none⟩) 8 8)), (36, (i64 8)), (37, (i64 1)), (38, (Value.bool true)), (41, v23), (42, (i64 m.group))] (j := 2) (by kernel_rfl) (by kernel_rfl) ?_
      refine Ops.call (by kernel_rfl) (d := (some 43)) (by kernel_rfl) (Int_calls _ v23 (iv m.kind) m.group (OwnB.rd O27) (by omega) (by (try simp only at *); (try simp only [List.length_append] at *); (try simp only [List.length_cons] at *); (try simp only [List.length_nil] at *); omega)) ?_
      rintro _ w35 ⟨v34, rfl, K36, hO37⟩
      have ob39 : ∀ i, (v34).ownBlock = some i → i ≠ b1 := fun i hi => by have := (World.ownsRow.lt hO37 i hi).1; have := H31.lt; omega
      have ob40 : ∀ i, (v34).ownBlock = some i → i ≠ b14 := fun i hi => by have := (World.ownsRow.lt hO37 i hi).1; have := H32.lt; omega
      have oo41 : ∀ i, (v23).ownBlock = some i → (v34).ownBlock = some i → False := fun i hi hs => by have := (World.ownsRow.lt hO37 i hs).1; have := (World.ownsRow.lt O27 i hi).2; omega
      have oo42 : ∀ i, (v34).ownBlock = some i → (v23).ownBlock = some i → False := fun i hi hs => oo41 i hs hi
      have O38 := own_base hO37 K30.size
      clear hO37
      have hL33 := iv_length_10 (n := m.group) (by omega)
      refine ⟨_, _, rfl, rfl, ?_⟩
      have K43 := K30.trans K36 (U := none_) (fun i h1 h2 => h2) (fun i h1 h2 => by exact h2)
      clear K30
      have H44 := H31.keep K36 (fun h => h)
      clear H31
      have H45 := H32.keep K36 (fun h => h)
      clear H32
      have F46 := own_keep0 O27 K36
      clear O27
      clear K36
      refine Ops.regs 1 [(1, (Value.pointer (some ⟨b1, 0, none⟩))), (2, (Value.slice none 0 0)), (3, (i64 0)), (4, v34), (6, (i64 m.group)), (35, (Value.slice (some ⟨b14, 0, none⟩) 8 8)), (36, (i64 8)), (37, (i64 1)), (38, (Value.bool true))] (j := 4) (by kernel_rfl) (by kernel_rfl) ?_
      refine Ops.done (by kernel_rfl) ?_
      refine q_region (by kernel_rfl) ?_
      refine Ops.regs 2 [(1, (Value.pointer (some ⟨b1, 0, none⟩))), (2, (Value.slice none 0 0)), (3, (i64 0)), (4, v34), (6, (i64 m.group)), (35, (Value.slice (some ⟨b14, 0, none⟩) 8 8)), (36, (i64 8)), (37, (i64 2)), (38, (Value.bool true))] (j := 2) (by kernel_rfl) (by kernel_rfl) ?_
      refine Ops.done (by kernel_rfl) ?_
      refine roll_step ?_
      refine q_seq (by kernel_rfl) ?_
      refine q_region (by kernel_rfl) ?_
      refine Ops.regs 1 [(1, (Value.pointer (some ⟨b1, 0, none⟩))), (2, (Value.slice none 0 0)), (3, (i64 0)), (4, v34), (6, (i64 m.group)), (35, (Value.slice (some ⟨b14, 0, none⟩) 8 8)), (36, (i64 8)), (37, (i64 2)), (38, (Value.bool true))] (j := 1) (by kernel_rfl) (by kernel_rfl) ?_
      refine Ops.done (by kernel_rfl) ?_
      refine q_seq (by kernel_rfl) ?_
      refine q_then (o := .tmp 38) (by kernel_rfl) rfl ?_
      refine q_skip (by kernel_rfl) ?_
      refine q_seq (by kernel_rfl) ?_
      refine q_block (id := 1) (by kernel_rfl) ?_
      refine q_seq (by kernel_rfl) ?_
      refine q_region (by kernel_rfl) ?_
      refine Ops.regs 1 [(1, (Value.pointer (some ⟨b1, 0, none⟩))), (2, (Value.slice none 0 0)), (3, (i64 0)), (4, v34), (6, (i64 m.group)), (35, (Value.slice (some ⟨b14, 0, none⟩) 8 8)), (36, (i64 8)), (37, (i64 2)), (38, (Value.bool true)), (39, (Value.pointer (some ⟨b14, 2, none⟩)))] (j := 1) (by kernel_rfl) (by kernel_rfl) ?_
      refine Ops.go (v := (i64 m.frm)) (by kernel_rfl) (Runs.load (t := 2) (a := ⟨b14, 2, none⟩) (by kernel_rfl) (H45.loads (by kernel_rfl))) (d := (some 40)) (by kernel_rfl) rfl ?_
      refine Ops.regs 1 [(1, (Value.pointer (some ⟨b1, 0, none⟩))), (2, (Value.slice none 0 0)), (3, (i64 0)), (4, v34), (6, (i64 m.frm)), (35, (Value.slice (some ⟨b14, 0, none⟩) 8 8)), (36, (i64 8)), (37, (i64 2)), (38, (Value.bool true))] (j := 3) (by kernel_rfl) (by kernel_rfl) ?_
      refine Ops.done (by kernel_rfl) ?_
      refine q_region (by kernel_rfl) ?_
      refine Ops.regs 2 [(1, (Value.pointer (some ⟨b1, 0, none⟩))), (2, (Value.slice none 0 0)), (3, (i64 0)), (4, v34), (6, (i64 m.frm)), (35, (Value.slice (some ⟨b14, 0, none⟩) 8 8)), (36, (i64 8)), (37, (i64 2)), (38, (Value.bool true)), (41, v34), (42, (i64 m.frm))] (j := 2) (by kernel_rfl) (by kernel_rfl) ?_
      refine Ops.call (by kernel_rfl) (d := (some 43)) (by kernel_rfl) (Int_calls _ v34 (iv m.kind ++ iv m.group) m.frm (OwnB.rd O38) (by omega) (by (try simp only at *); (try simp only [List.length_append] at *); (try simp only [List.length_cons] at *); (try simp only [List.length_nil] at *); omega)) ?_
      rintro _ w49 ⟨v48, rfl, K50, hO51⟩
      have ob53 : ∀ i, (v48).ownBlock = some i → i ≠ b1 := fun i hi => by have := (World.ownsRow.lt hO51 i hi).1; have := H44.lt; omega
      have ob54 : ∀ i, (v48).ownBlock = some i → i ≠ b14 := fun i hi => by have := (World.ownsRow.lt hO51 i hi).1; have := H45.lt; omega
      have oo55 : ∀ i, (v23).ownBlock = some i → (v48).ownBlock = some i → False := fun i hi hs => by have := (World.ownsRow.lt hO51 i hs).1; have := (World.ownsRow.lt F46 i hi).2; omega
      have oo56 : ∀ i, (v48).ownBlock = some i → (v23).ownBlock = some i → False := fun i hi hs => oo55 i hs hi
      have oo57 : ∀ i, (v34).ownBlock = some i → (v48).ownBlock = some i → False := fun i hi hs => by have := (World.ownsRow.lt hO51 i hs).1; have := (World.ownsRow.lt O38 i hi).2; omega
      have oo58 : ∀ i, (v48).ownBlock = some i → (v34).ownBlock = some i → False := fun i hi hs => oo57 i hs hi
      have O52 := own_base hO51 K43.size
      clear hO51
      have hL47 := iv_length_10 (n := m.frm) (by omega)
      refine ⟨_, _, rfl, rfl, ?_⟩
      have K59 := K43.trans K50 (U := none_) (fun i h1 h2 => h2) (fun i h1 h2 => by exact h2)
      clear K43
      have H60 := H44.keep K50 (fun h => h)
      clear H44
      have H61 := H45.keep K50 (fun h => h)
      clear H45
      have F62 := own_keep0 F46 K50
      clear F46
      have F63 := own_keep0 O38 K50
      clear O38
      clear K50
      refine Ops.regs 1 [(1, (Value.pointer (some ⟨b1, 0, none⟩))), (2, (Value.slice none 0 0)), (3, (i64 0)), (4, v48), (6, (i64 m.frm)), (35, (Value.slice (some ⟨b14, 0, none⟩) 8 8)), (36, (i64 8)), (37, (i64 2)), (38, (Value.bool true))] (j := 4) (by kernel_rfl) (by kernel_rfl) ?_
      refine Ops.done (by kernel_rfl) ?_
      refine q_region (by kernel_rfl) ?_
      refine Ops.regs 2 [(1, (Value.pointer (some ⟨b1, 0, none⟩))), (2, (Value.slice none 0 0)), (3, (i64 0)), (4, v48), (6, (i64 m.frm)), (35, (Value.slice (some ⟨b14, 0, none⟩) 8 8)), (36, (i64 8)), (37, (i64 3)), (38, (Value.bool true))] (j := 2) (by kernel_rfl) (by kernel_rfl) ?_
      refine Ops.done (by kernel_rfl) ?_
      refine roll_step ?_
      refine q_seq (by kernel_rfl) ?_
      refine q_region (by kernel_rfl) ?_
      refine Ops.regs 1 [(1, (Value.pointer (some ⟨b1, 0, none⟩))), (2, (Value.slice none 0 0)), (3, (i64 0)), (4, v48), (6, (i64 m.frm)), (35, (Value.slice (some ⟨b14, 0, none⟩) 8 8)), (36, (i64 8)), (37, (i64 3)), (38, (Value.bool true))] (j := 1) (by kernel_rfl) (by kernel_rfl) ?_
      refine Ops.done (by kernel_rfl) ?_
      refine q_seq (by kernel_rfl) ?_
      refine q_then (o := .tmp 38) (by kernel_rfl) rfl ?_
      refine q_skip (by kernel_rfl) ?_
      refine q_seq (by kernel_rfl) ?_
      refine q_block (id := 1) (by kernel_rfl) ?_
      refine q_seq (by kernel_rfl) ?_
      refine q_region (by kernel_rfl) ?_
      refine Ops.regs 1 [(1, (Value.pointer (some ⟨b1, 0, none⟩))), (2, (Value.slice none 0 0)), (3, (i64 0)), (4, v48), (6, (i64 m.frm)), (35, (Value.slice (some ⟨b14, 0, none⟩) 8 8)), (36, (i64 8)), (37, (i64 3)), (38, (Value.bool true)), (39, (Value.pointer (some ⟨b14, 3, none⟩)))] (j := 1) (by kernel_rfl) (by kernel_rfl) ?_
      refine Ops.go (v := (i64 m.to)) (by kernel_rfl) (Runs.load (t := 2) (a := ⟨b14, 3, none⟩) (by kernel_rfl) (H61.loads (by kernel_rfl))) (d := (some 40)) (by kernel_rfl) rfl ?_
      refine Ops.regs 1 [(1, (Value.pointer (some ⟨b1, 0, none⟩))), (2, (Value.slice none 0 0)), (3, (i64 0)), (4, v48), (6, (i64 m.to)), (35, (Value.slice (some ⟨b14, 0, none⟩) 8 8)), (36, (i64 8)), (37, (i64 3)), (38, (Value.bool true))] (j := 3) (by kernel_rfl) (by kernel_rfl) ?_
      refine Ops.done (by kernel_rfl) ?_
      refine q_region (by kernel_rfl) ?_
      refine Ops.regs 2 [(1, (Value.pointer (some ⟨b1, 0, none⟩))), (2, (Value.slice none 0 0)), (3, (i64 0)), (4, v48), (6, (i64 m.to)), (35, (Value.slice (some ⟨b14, 0, none⟩) 8 8)), (36, (i64 8)), (37, (i64 3)), (38, (Value.bool true)), (41, v48), (42, (i64 m.to))] (j := 2) (by kernel_rfl) (by kernel_rfl) ?_
      refine Ops.call (by kernel_rfl) (d := (some 43)) (by kernel_rfl) (Int_calls _ v48 (iv m.kind ++ iv m.group ++ iv m.frm) m.to (OwnB.rd O52) (by omega) (by (try simp only at *); (try simp only [List.length_append] at *); (try simp only [List.length_cons] at *); (try simp only [List.length_nil] at *); omega)) ?_
      rintro _ w66 ⟨v65, rfl, K67, hO68⟩
      have ob70 : ∀ i, (v65).ownBlock = some i → i ≠ b1 := fun i hi => by have := (World.ownsRow.lt hO68 i hi).1; have := H60.lt; omega
      have ob71 : ∀ i, (v65).ownBlock = some i → i ≠ b14 := fun i hi => by have := (World.ownsRow.lt hO68 i hi).1; have := H61.lt; omega
      have oo72 : ∀ i, (v23).ownBlock = some i → (v65).ownBlock = some i → False := fun i hi hs => by have := (World.ownsRow.lt hO68 i hs).1; have := (World.ownsRow.lt F62 i hi).2; omega
      have oo73 : ∀ i, (v65).ownBlock = some i → (v23).ownBlock = some i → False := fun i hi hs => oo72 i hs hi
      have oo74 : ∀ i, (v34).ownBlock = some i → (v65).ownBlock = some i → False := fun i hi hs => by have := (World.ownsRow.lt hO68 i hs).1; have := (World.ownsRow.lt F63 i hi).2; omega
      have oo75 : ∀ i, (v65).ownBlock = some i → (v34).ownBlock = some i → False := fun i hi hs => oo74 i hs hi
      have oo76 : ∀ i, (v48).ownBlock = some i → (v65).ownBlock = some i → False := fun i hi hs => by have := (World.ownsRow.lt hO68 i hs).1; have := (World.ownsRow.lt O52 i hi).2; omega
      have oo77 : ∀ i, (v65).ownBlock = some i → (v48).ownBlock = some i → False := fun i hi hs => oo76 i hs hi
      have O69 := own_base hO68 K59.size
      clear hO68
      have hL64 := iv_length_10 (n := m.to) (by omega)
      refine ⟨_, _, rfl, rfl, ?_⟩
      have K78 := K59.trans K67 (U := none_) (fun i h1 h2 => h2) (fun i h1 h2 => by exact h2)
      clear K59
      have H79 := H60.keep K67 (fun h => h)
      clear H60
      have H80 := H61.keep K67 (fun h => h)
      clear H61
      have F81 := own_keep0 F62 K67
      clear F62
      have F82 := own_keep0 F63 K67
      clear F63
      have F83 := own_keep0 O52 K67
      clear O52
      clear K67
      refine Ops.regs 1 [(1, (Value.pointer (some ⟨b1, 0, none⟩))), (2, (Value.slice none 0 0)), (3, (i64 0)), (4, v65), (6, (i64 m.to)), (35, (Value.slice (some ⟨b14, 0, none⟩) 8 8)), (36, (i64 8)), (37, (i64 3)), (38, (Value.bool true))] (j := 4) (by kernel_rfl) (by kernel_rfl) ?_
      refine Ops.done (by kernel_rfl) ?_
      refine q_region (by kernel_rfl) ?_
      refine Ops.regs 2 [(1, (Value.pointer (some ⟨b1, 0, none⟩))), (2, (Value.slice none 0 0)), (3, (i64 0)), (4, v65), (6, (i64 m.to)), (35, (Value.slice (some ⟨b14, 0, none⟩) 8 8)), (36, (i64 8)), (37, (i64 4)), (38, (Value.bool true))] (j := 2) (by kernel_rfl) (by kernel_rfl) ?_
      refine Ops.done (by kernel_rfl) ?_
      refine roll_step ?_
      refine q_seq (by kernel_rfl) ?_
      refine q_region (by kernel_rfl) ?_
      refine Ops.regs 1 [(1, (Value.pointer (some ⟨b1, 0, none⟩))), (2, (Value.slice none 0 0)), (3, (i64 0)), (4, v65), (6, (i64 m.to)), (35, (Value.slice (some ⟨b14, 0, none⟩) 8 8)), (36, (i64 8)), (37, (i64 4)), (38, (Value.bool true))] (j := 1) (by kernel_rfl) (by kernel_rfl) ?_
      refine Ops.done (by kernel_rfl) ?_
      refine q_seq (by kernel_rfl) ?_
      refine q_then (o := .tmp 38) (by kernel_rfl) rfl ?_
      refine q_skip (by kernel_rfl) ?_
      refine q_seq (by kernel_rfl) ?_
      refine q_block (id := 1) (by kernel_rfl) ?_
      refine q_seq (by kernel_rfl) ?_
      refine q_region (by kernel_rfl) ?_
      refine Ops.regs 1 [(1, (Value.pointer (some ⟨b1, 0, none⟩))), (2, (Value.slice none 0 0)), (3, (i64 0)), (4, v65), (6, (i64 m.to)), (35, (Value.slice (some ⟨b14, 0, none⟩) 8 8)), (36, (i64 8)), (37, (i64 4)), (38, (Value.bool true)), (39, (Value.pointer (some ⟨b14, 4, none⟩)))] (j := 1) (by kernel_rfl) (by kernel_rfl) ?_
      refine Ops.go (v := (i64 m.term)) (by kernel_rfl) (Runs.load (t := 2) (a := ⟨b14, 4, none⟩) (by kernel_rfl) (H80.loads (by kernel_rfl))) (d := (some 40)) (by kernel_rfl) rfl ?_
      refine Ops.regs 1 [(1, (Value.pointer (some ⟨b1, 0, none⟩))), (2, (Value.slice none 0 0)), (3, (i64 0)), (4, v65), (6, (i64 m.term)), (35, (Value.slice (some ⟨b14, 0, none⟩) 8 8)), (36, (i64 8)), (37, (i64 4)), (38, (Value.bool true))] (j := 3) (by kernel_rfl) (by kernel_rfl) ?_
      refine Ops.done (by kernel_rfl) ?_
      refine q_region (by kernel_rfl) ?_
      refine Ops.regs 2 [(1, (Value.pointer (some ⟨b1, 0, none⟩))), (2, (Value.slice none 0 0)), (3, (i64 0)), (4, v65), (6, (i64 m.term)), (35, (Value.slice (some ⟨b14, 0, none⟩) 8 8)), (36, (i64 8)), (37, (i64 4)), (38, (Value.bool true)), (41, v65), (42, (i64 m.term))] (j := 2) (by kernel_rfl) (by kernel_rfl) ?_
      refine Ops.call (by kernel_rfl) (d := (some 43)) (by kernel_rfl) (Int_calls _ v65 (iv m.kind ++ iv m.group ++ iv m.frm ++ iv m.to) m.term (OwnB.rd O69) (by omega) (by (try simp only at *); (try simp only [List.length_append] at *); (try simp only [List.length_cons] at *); (try simp only [List.length_nil] at *); omega)) ?_
      rintro _ w86 ⟨v85, rfl, K87, hO88⟩
      have ob90 : ∀ i, (v85).ownBlock = some i → i ≠ b1 := fun i hi => by have := (World.ownsRow.lt hO88 i hi).1; have := H79.lt; omega
      have ob91 : ∀ i, (v85).ownBlock = some i → i ≠ b14 := fun i hi => by have := (World.ownsRow.lt hO88 i hi).1; have := H80.lt; omega
      have oo92 : ∀ i, (v23).ownBlock = some i → (v85).ownBlock = some i → False := fun i hi hs => by have := (World.ownsRow.lt hO88 i hs).1; have := (World.ownsRow.lt F81 i hi).2; omega
      have oo93 : ∀ i, (v85).ownBlock = some i → (v23).ownBlock = some i → False := fun i hi hs => oo92 i hs hi
      have oo94 : ∀ i, (v34).ownBlock = some i → (v85).ownBlock = some i → False := fun i hi hs => by have := (World.ownsRow.lt hO88 i hs).1; have := (World.ownsRow.lt F82 i hi).2; omega
      have oo95 : ∀ i, (v85).ownBlock = some i → (v34).ownBlock = some i → False := fun i hi hs => oo94 i hs hi
      have oo96 : ∀ i, (v48).ownBlock = some i → (v85).ownBlock = some i → False := fun i hi hs => by have := (World.ownsRow.lt hO88 i hs).1; have := (World.ownsRow.lt F83 i hi).2; omega
      have oo97 : ∀ i, (v85).ownBlock = some i → (v48).ownBlock = some i → False := fun i hi hs => oo96 i hs hi
      have oo98 : ∀ i, (v65).ownBlock = some i → (v85).ownBlock = some i → False := fun i hi hs => by have := (World.ownsRow.lt hO88 i hs).1; have := (World.ownsRow.lt O69 i hi).2; omega
      have oo99 : ∀ i, (v85).ownBlock = some i → (v65).ownBlock = some i → False := fun i hi hs => oo98 i hs hi
      have O89 := own_base hO88 K78.size
      clear hO88
      have hL84 := iv_length_10 (n := m.term) (by omega)
      refine ⟨_, _, rfl, rfl, ?_⟩
      have K100 := K78.trans K87 (U := none_) (fun i h1 h2 => h2) (fun i h1 h2 => by exact h2)
      clear K78
      have H101 := H79.keep K87 (fun h => h)
      clear H79
      have H102 := H80.keep K87 (fun h => h)
      clear H80
      have F103 := own_keep0 F81 K87
      clear F81
      have F104 := own_keep0 F82 K87
      clear F82
      have F105 := own_keep0 F83 K87
      clear F83
      have F106 := own_keep0 O69 K87
      clear O69
      clear K87
      refine Ops.regs 1 [(1, (Value.pointer (some ⟨b1, 0, none⟩))), (2, (Value.slice none 0 0)), (3, (i64 0)), (4, v85), (6, (i64 m.term)), (35, (Value.slice (some ⟨b14, 0, none⟩) 8 8)), (36, (i64 8)), (37, (i64 4)), (38, (Value.bool true))] (j := 4) (by kernel_rfl) (by kernel_rfl) ?_
      refine Ops.done (by kernel_rfl) ?_
      refine q_region (by kernel_rfl) ?_
      refine Ops.regs 2 [(1, (Value.pointer (some ⟨b1, 0, none⟩))), (2, (Value.slice none 0 0)), (3, (i64 0)), (4, v85), (6, (i64 m.term)), (35, (Value.slice (some ⟨b14, 0, none⟩) 8 8)), (36, (i64 8)), (37, (i64 5)), (38, (Value.bool true))] (j := 2) (by kernel_rfl) (by kernel_rfl) ?_
      refine Ops.done (by kernel_rfl) ?_
      refine roll_step ?_
      refine q_seq (by kernel_rfl) ?_
      refine q_region (by kernel_rfl) ?_
      refine Ops.regs 1 [(1, (Value.pointer (some ⟨b1, 0, none⟩))), (2, (Value.slice none 0 0)), (3, (i64 0)), (4, v85), (6, (i64 m.term)), (35, (Value.slice (some ⟨b14, 0, none⟩) 8 8)), (36, (i64 8)), (37, (i64 5)), (38, (Value.bool true))] (j := 1) (by kernel_rfl) (by kernel_rfl) ?_
      refine Ops.done (by kernel_rfl) ?_
      refine q_seq (by kernel_rfl) ?_
      refine q_then (o := .tmp 38) (by kernel_rfl) rfl ?_
      refine q_skip (by kernel_rfl) ?_
      refine q_seq (by kernel_rfl) ?_
      refine q_block (id := 1) (by kernel_rfl) ?_
      refine q_seq (by kernel_rfl) ?_
      refine q_region (by kernel_rfl) ?_
      refine Ops.regs 1 [(1, (Value.pointer (some ⟨b1, 0, none⟩))), (2, (Value.slice none 0 0)), (3, (i64 0)), (4, v85), (6, (i64 m.term)), (35, (Value.slice (some ⟨b14, 0, none⟩) 8 8)), (36, (i64 8)), (37, (i64 5)), (38, (Value.bool true)), (39, (Value.pointer (some ⟨b14, 5, none⟩)))] (j := 1) (by kernel_rfl) (by kernel_rfl) ?_
      refine Ops.go (v := (i64 m.index)) (by kernel_rfl) (Runs.load (t := 2) (a := ⟨b14, 5, none⟩) (by kernel_rfl) (H102.loads (by kernel_rfl))) (d := (some 40)) (by kernel_rfl) rfl ?_
      refine Ops.regs 1 [(1, (Value.pointer (some ⟨b1, 0, none⟩))), (2, (Value.slice none 0 0)), (3, (i64 0)), (4, v85), (6, (i64 m.index)), (35, (Value.slice (some ⟨b14, 0, none⟩) 8 8)), (36, (i64 8)), (37, (i64 5)), (38, (Value.bool true))] (j := 3) (by kernel_rfl) (by kernel_rfl) ?_
      refine Ops.done (by kernel_rfl) ?_
      refine q_region (by kernel_rfl) ?_
      refine Ops.regs 2 [(1, (Value.pointer (some ⟨b1, 0, none⟩))), (2, (Value.slice none 0 0)), (3, (i64 0)), (4, v85), (6, (i64 m.index)), (35, (Value.slice (some ⟨b14, 0, none⟩) 8 8)), (36, (i64 8)), (37, (i64 5)), (38, (Value.bool true)), (41, v85), (42, (i64 m.index))] (j := 2) (by kernel_rfl) (by kernel_rfl) ?_
      refine Ops.call (by kernel_rfl) (d := (some 43)) (by kernel_rfl) (Int_calls _ v85 (iv m.kind ++ iv m.group ++ iv m.frm ++ iv m.to ++ iv m.term) m.index (OwnB.rd O89) (by omega) (by (try simp only at *); (try simp only [List.length_append] at *); (try simp only [List.length_cons] at *); (try simp only [List.length_nil] at *); omega)) ?_
      rintro _ w109 ⟨v108, rfl, K110, hO111⟩
      have ob113 : ∀ i, (v108).ownBlock = some i → i ≠ b1 := fun i hi => by have := (World.ownsRow.lt hO111 i hi).1; have := H101.lt; omega
      have ob114 : ∀ i, (v108).ownBlock = some i → i ≠ b14 := fun i hi => by have := (World.ownsRow.lt hO111 i hi).1; have := H102.lt; omega
      have oo115 : ∀ i, (v23).ownBlock = some i → (v108).ownBlock = some i → False := fun i hi hs => by have := (World.ownsRow.lt hO111 i hs).1; have := (World.ownsRow.lt F103 i hi).2; omega
      have oo116 : ∀ i, (v108).ownBlock = some i → (v23).ownBlock = some i → False := fun i hi hs => oo115 i hs hi
      have oo117 : ∀ i, (v34).ownBlock = some i → (v108).ownBlock = some i → False := fun i hi hs => by have := (World.ownsRow.lt hO111 i hs).1; have := (World.ownsRow.lt F104 i hi).2; omega
      have oo118 : ∀ i, (v108).ownBlock = some i → (v34).ownBlock = some i → False := fun i hi hs => oo117 i hs hi
      have oo119 : ∀ i, (v48).ownBlock = some i → (v108).ownBlock = some i → False := fun i hi hs => by have := (World.ownsRow.lt hO111 i hs).1; have := (World.ownsRow.lt F105 i hi).2; omega
      have oo120 : ∀ i, (v108).ownBlock = some i → (v48).ownBlock = some i → False := fun i hi hs => oo119 i hs hi
      have oo121 : ∀ i, (v65).ownBlock = some i → (v108).ownBlock = some i → False := fun i hi hs => by have := (World.ownsRow.lt hO111 i hs).1; have := (World.ownsRow.lt F106 i hi).2; omega
      have oo122 : ∀ i, (v108).ownBlock = some i → (v65).ownBlock = some i → False := fun i hi hs => oo121 i hs hi
      have oo123 : ∀ i, (v85).ownBlock = some i → (v108).ownBlock = some i → False := fun i hi hs => by have := (World.ownsRow.lt hO111 i hs).1; have := (World.ownsRow.lt O89 i hi).2; omega
      have oo124 : ∀ i, (v108).ownBlock = some i → (v85).ownBlock = some i → False := fun i hi hs => oo123 i hs hi
      have O112 := own_base hO111 K100.size
      clear hO111
      have hL107 := iv_length_10 (n := m.index) (by omega)
      refine ⟨_, _, rfl, rfl, ?_⟩
      have K125 := K100.trans K110 (U := none_) (fun i h1 h2 => h2) (fun i h1 h2 => by exact h2)
      clear K100
      have H126 := H101.keep K110 (fun h => h)
      clear H101
      have H127 := H102.keep K110 (fun h => h)
      clear H102
      have F128 := own_keep0 F103 K110
      clear F103
      have F129 := own_keep0 F104 K110
      clear F104
      have F130 := own_keep0 F105 K110
      clear F105
      have F131 := own_keep0 F106 K110
      clear F106
      have F132 := own_keep0 O89 K110
      clear O89
      clear K110
      refine Ops.regs 1 [(1, (Value.pointer (some ⟨b1, 0, none⟩))), (2, (Value.slice none 0 0)), (3, (i64 0)), (4, v108), (6, (i64 m.index)), (35, (Value.slice (some ⟨b14, 0, none⟩) 8 8)), (36, (i64 8)), (37, (i64 5)), (38, (Value.bool true))] (j := 4) (by kernel_rfl) (by kernel_rfl) ?_
      refine Ops.done (by kernel_rfl) ?_
      refine q_region (by kernel_rfl) ?_
      refine Ops.regs 2 [(1, (Value.pointer (some ⟨b1, 0, none⟩))), (2, (Value.slice none 0 0)), (3, (i64 0)), (4, v108), (6, (i64 m.index)), (35, (Value.slice (some ⟨b14, 0, none⟩) 8 8)), (36, (i64 8)), (37, (i64 6)), (38, (Value.bool true))] (j := 2) (by kernel_rfl) (by kernel_rfl) ?_
      refine Ops.done (by kernel_rfl) ?_
      refine roll_step ?_
      refine q_seq (by kernel_rfl) ?_
      refine q_region (by kernel_rfl) ?_
      refine Ops.regs 1 [(1, (Value.pointer (some ⟨b1, 0, none⟩))), (2, (Value.slice none 0 0)), (3, (i64 0)), (4, v108), (6, (i64 m.index)), (35, (Value.slice (some ⟨b14, 0, none⟩) 8 8)), (36, (i64 8)), (37, (i64 6)), (38, (Value.bool true))] (j := 1) (by kernel_rfl) (by kernel_rfl) ?_
      refine Ops.done (by kernel_rfl) ?_
      refine q_seq (by kernel_rfl) ?_
      refine q_then (o := .tmp 38) (by kernel_rfl) rfl ?_
      refine q_skip (by kernel_rfl) ?_
      refine q_seq (by kernel_rfl) ?_
      refine q_block (id := 1) (by kernel_rfl) ?_
      refine q_seq (by kernel_rfl) ?_
      refine q_region (by kernel_rfl) ?_
      refine Ops.regs 1 [(1, (Value.pointer (some ⟨b1, 0, none⟩))), (2, (Value.slice none 0 0)), (3, (i64 0)), (4, v108), (6, (i64 m.index)), (35, (Value.slice (some ⟨b14, 0, none⟩) 8 8)), (36, (i64 8)), (37, (i64 6)), (38, (Value.bool true)), (39, (Value.pointer (some ⟨b14, 6, none⟩)))] (j := 1) (by kernel_rfl) (by kernel_rfl) ?_
      refine Ops.go (v := (i64 m.logTerm)) (by kernel_rfl) (Runs.load (t := 2) (a := ⟨b14, 6, none⟩) (by kernel_rfl) (H127.loads (by kernel_rfl))) (d := (some 40)) (by kernel_rfl) rfl ?_
      refine Ops.regs 1 [(1, (Value.pointer (some ⟨b1, 0, none⟩))), (2, (Value.slice none 0 0)), (3, (i64 0)), (4, v108), (6, (i64 m.logTerm)), (35, (Value.slice (some ⟨b14, 0, none⟩) 8 8)), (36, (i64 8)), (37, (i64 6)), (38, (Value.bool true))] (j := 3) (by kernel_rfl) (by kernel_rfl) ?_
      refine Ops.done (by kernel_rfl) ?_
      refine q_region (by kernel_rfl) ?_
      refine Ops.regs 2 [(1, (Value.pointer (some ⟨b1, 0, none⟩))), (2, (Value.slice none 0 0)), (3, (i64 0)), (4, v108), (6, (i64 m.logTerm)), (35, (Value.slice (some ⟨b14, 0, none⟩) 8 8)), (36, (i64 8)), (37, (i64 6)), (38, (Value.bool true)), (41, v108), (42, (i64 m.logTerm))] (j := 2) (by kernel_rfl) (by kernel_rfl) ?_
      refine Ops.call (by kernel_rfl) (d := (some 43)) (by kernel_rfl) (Int_calls _ v108 (iv m.kind ++ iv m.group ++ iv m.frm ++ iv m.to ++ iv m.term ++ iv m.index) m.logTerm (OwnB.rd O112) (by omega) (by (try simp only at *); (try simp only [List.length_append] at *); (try simp only [List.length_cons] at *); (try simp only [List.length_nil] at *); omega)) ?_
      rintro _ w135 ⟨v134, rfl, K136, hO137⟩
      have ob139 : ∀ i, (v134).ownBlock = some i → i ≠ b1 := fun i hi => by have := (World.ownsRow.lt hO137 i hi).1; have := H126.lt; omega
      have ob140 : ∀ i, (v134).ownBlock = some i → i ≠ b14 := fun i hi => by have := (World.ownsRow.lt hO137 i hi).1; have := H127.lt; omega
      have oo141 : ∀ i, (v23).ownBlock = some i → (v134).ownBlock = some i → False := fun i hi hs => by have := (World.ownsRow.lt hO137 i hs).1; have := (World.ownsRow.lt F128 i hi).2; omega
      have oo142 : ∀ i, (v134).ownBlock = some i → (v23).ownBlock = some i → False := fun i hi hs => oo141 i hs hi
      have oo143 : ∀ i, (v34).ownBlock = some i → (v134).ownBlock = some i → False := fun i hi hs => by have := (World.ownsRow.lt hO137 i hs).1; have := (World.ownsRow.lt F129 i hi).2; omega
      have oo144 : ∀ i, (v134).ownBlock = some i → (v34).ownBlock = some i → False := fun i hi hs => oo143 i hs hi
      have oo145 : ∀ i, (v48).ownBlock = some i → (v134).ownBlock = some i → False := fun i hi hs => by have := (World.ownsRow.lt hO137 i hs).1; have := (World.ownsRow.lt F130 i hi).2; omega
      have oo146 : ∀ i, (v134).ownBlock = some i → (v48).ownBlock = some i → False := fun i hi hs => oo145 i hs hi
      have oo147 : ∀ i, (v65).ownBlock = some i → (v134).ownBlock = some i → False := fun i hi hs => by have := (World.ownsRow.lt hO137 i hs).1; have := (World.ownsRow.lt F131 i hi).2; omega
      have oo148 : ∀ i, (v134).ownBlock = some i → (v65).ownBlock = some i → False := fun i hi hs => oo147 i hs hi
      have oo149 : ∀ i, (v85).ownBlock = some i → (v134).ownBlock = some i → False := fun i hi hs => by have := (World.ownsRow.lt hO137 i hs).1; have := (World.ownsRow.lt F132 i hi).2; omega
      have oo150 : ∀ i, (v134).ownBlock = some i → (v85).ownBlock = some i → False := fun i hi hs => oo149 i hs hi
      have oo151 : ∀ i, (v108).ownBlock = some i → (v134).ownBlock = some i → False := fun i hi hs => by have := (World.ownsRow.lt hO137 i hs).1; have := (World.ownsRow.lt O112 i hi).2; omega
      have oo152 : ∀ i, (v134).ownBlock = some i → (v108).ownBlock = some i → False := fun i hi hs => oo151 i hs hi
      have O138 := own_base hO137 K125.size
      clear hO137
      have hL133 := iv_length_10 (n := m.logTerm) (by omega)
      refine ⟨_, _, rfl, rfl, ?_⟩
      have K153 := K125.trans K136 (U := none_) (fun i h1 h2 => h2) (fun i h1 h2 => by exact h2)
      clear K125
      have H154 := H126.keep K136 (fun h => h)
      clear H126
      have H155 := H127.keep K136 (fun h => h)
      clear H127
      have F156 := own_keep0 F128 K136
      clear F128
      have F157 := own_keep0 F129 K136
      clear F129
      have F158 := own_keep0 F130 K136
      clear F130
      have F159 := own_keep0 F131 K136
      clear F131
      have F160 := own_keep0 F132 K136
      clear F132
      have F161 := own_keep0 O112 K136
      clear O112
      clear K136
      refine Ops.regs 1 [(1, (Value.pointer (some ⟨b1, 0, none⟩))), (2, (Value.slice none 0 0)), (3, (i64 0)), (4, v134), (6, (i64 m.logTerm)), (35, (Value.slice (some ⟨b14, 0, none⟩) 8 8)), (36, (i64 8)), (37, (i64 6)), (38, (Value.bool true))] (j := 4) (by kernel_rfl) (by kernel_rfl) ?_
      refine Ops.done (by kernel_rfl) ?_
      refine q_region (by kernel_rfl) ?_
      refine Ops.regs 2 [(1, (Value.pointer (some ⟨b1, 0, none⟩))), (2, (Value.slice none 0 0)), (3, (i64 0)), (4, v134), (6, (i64 m.logTerm)), (35, (Value.slice (some ⟨b14, 0, none⟩) 8 8)), (36, (i64 8)), (37, (i64 7)), (38, (Value.bool true))] (j := 2) (by kernel_rfl) (by kernel_rfl) ?_
      refine Ops.done (by kernel_rfl) ?_
      refine roll_step ?_
      refine q_seq (by kernel_rfl) ?_
      refine q_region (by kernel_rfl) ?_
      refine Ops.regs 1 [(1, (Value.pointer (some ⟨b1, 0, none⟩))), (2, (Value.slice none 0 0)), (3, (i64 0)), (4, v134), (6, (i64 m.logTerm)), (35, (Value.slice (some ⟨b14, 0, none⟩) 8 8)), (36, (i64 8)), (37, (i64 7)), (38, (Value.bool true))] (j := 1) (by kernel_rfl) (by kernel_rfl) ?_
      refine Ops.done (by kernel_rfl) ?_
      refine q_seq (by kernel_rfl) ?_
      refine q_then (o := .tmp 38) (by kernel_rfl) rfl ?_
      refine q_skip (by kernel_rfl) ?_
      refine q_seq (by kernel_rfl) ?_
      refine q_block (id := 1) (by kernel_rfl) ?_
      refine q_seq (by kernel_rfl) ?_
      refine q_region (by kernel_rfl) ?_
      refine Ops.regs 1 [(1, (Value.pointer (some ⟨b1, 0, none⟩))), (2, (Value.slice none 0 0)), (3, (i64 0)), (4, v134), (6, (i64 m.logTerm)), (35, (Value.slice (some ⟨b14, 0, none⟩) 8 8)), (36, (i64 8)), (37, (i64 7)), (38, (Value.bool true)), (39, (Value.pointer (some ⟨b14, 7, none⟩)))] (j := 1) (by kernel_rfl) (by kernel_rfl) ?_
      refine Ops.go (v := (i64 m.commit)) (by kernel_rfl) (Runs.load (t := 2) (a := ⟨b14, 7, none⟩) (by kernel_rfl) (H155.loads (by kernel_rfl))) (d := (some 40)) (by kernel_rfl) rfl ?_
      refine Ops.regs 1 [(1, (Value.pointer (some ⟨b1, 0, none⟩))), (2, (Value.slice none 0 0)), (3, (i64 0)), (4, v134), (6, (i64 m.commit)), (35, (Value.slice (some ⟨b14, 0, none⟩) 8 8)), (36, (i64 8)), (37, (i64 7)), (38, (Value.bool true))] (j := 3) (by kernel_rfl) (by kernel_rfl) ?_
      refine Ops.done (by kernel_rfl) ?_
      refine q_region (by kernel_rfl) ?_
      refine Ops.regs 2 [(1, (Value.pointer (some ⟨b1, 0, none⟩))), (2, (Value.slice none 0 0)), (3, (i64 0)), (4, v134), (6, (i64 m.commit)), (35, (Value.slice (some ⟨b14, 0, none⟩) 8 8)), (36, (i64 8)), (37, (i64 7)), (38, (Value.bool true)), (41, v134), (42, (i64 m.commit))] (j := 2) (by kernel_rfl) (by kernel_rfl) ?_
      refine Ops.call (by kernel_rfl) (d := (some 43)) (by kernel_rfl) (Int_calls _ v134 (iv m.kind ++ iv m.group ++ iv m.frm ++ iv m.to ++ iv m.term ++ iv m.index ++ iv m.logTerm) m.commit (OwnB.rd O138) (by omega) (by (try simp only at *); (try simp only [List.length_append] at *); (try simp only [List.length_cons] at *); (try simp only [List.length_nil] at *); omega)) ?_
      rintro _ w164 ⟨v163, rfl, K165, hO166⟩
      have ob168 : ∀ i, (v163).ownBlock = some i → i ≠ b1 := fun i hi => by have := (World.ownsRow.lt hO166 i hi).1; have := H154.lt; omega
      have ob169 : ∀ i, (v163).ownBlock = some i → i ≠ b14 := fun i hi => by have := (World.ownsRow.lt hO166 i hi).1; have := H155.lt; omega
      have oo170 : ∀ i, (v23).ownBlock = some i → (v163).ownBlock = some i → False := fun i hi hs => by have := (World.ownsRow.lt hO166 i hs).1; have := (World.ownsRow.lt F156 i hi).2; omega
      have oo171 : ∀ i, (v163).ownBlock = some i → (v23).ownBlock = some i → False := fun i hi hs => oo170 i hs hi
      have oo172 : ∀ i, (v34).ownBlock = some i → (v163).ownBlock = some i → False := fun i hi hs => by have := (World.ownsRow.lt hO166 i hs).1; have := (World.ownsRow.lt F157 i hi).2; omega
      have oo173 : ∀ i, (v163).ownBlock = some i → (v34).ownBlock = some i → False := fun i hi hs => oo172 i hs hi
      have oo174 : ∀ i, (v48).ownBlock = some i → (v163).ownBlock = some i → False := fun i hi hs => by have := (World.ownsRow.lt hO166 i hs).1; have := (World.ownsRow.lt F158 i hi).2; omega
      have oo175 : ∀ i, (v163).ownBlock = some i → (v48).ownBlock = some i → False := fun i hi hs => oo174 i hs hi
      have oo176 : ∀ i, (v65).ownBlock = some i → (v163).ownBlock = some i → False := fun i hi hs => by have := (World.ownsRow.lt hO166 i hs).1; have := (World.ownsRow.lt F159 i hi).2; omega
      have oo177 : ∀ i, (v163).ownBlock = some i → (v65).ownBlock = some i → False := fun i hi hs => oo176 i hs hi
      have oo178 : ∀ i, (v85).ownBlock = some i → (v163).ownBlock = some i → False := fun i hi hs => by have := (World.ownsRow.lt hO166 i hs).1; have := (World.ownsRow.lt F160 i hi).2; omega
      have oo179 : ∀ i, (v163).ownBlock = some i → (v85).ownBlock = some i → False := fun i hi hs => oo178 i hs hi
      have oo180 : ∀ i, (v108).ownBlock = some i → (v163).ownBlock = some i → False := fun i hi hs => by have := (World.ownsRow.lt hO166 i hs).1; have := (World.ownsRow.lt F161 i hi).2; omega
      have oo181 : ∀ i, (v163).ownBlock = some i → (v108).ownBlock = some i → False := fun i hi hs => oo180 i hs hi
      have oo182 : ∀ i, (v134).ownBlock = some i → (v163).ownBlock = some i → False := fun i hi hs => by have := (World.ownsRow.lt hO166 i hs).1; have := (World.ownsRow.lt O138 i hi).2; omega
      have oo183 : ∀ i, (v163).ownBlock = some i → (v134).ownBlock = some i → False := fun i hi hs => oo182 i hs hi
      have O167 := own_base hO166 K153.size
      clear hO166
      have hL162 := iv_length_10 (n := m.commit) (by omega)
      refine ⟨_, _, rfl, rfl, ?_⟩
      have K184 := K153.trans K165 (U := none_) (fun i h1 h2 => h2) (fun i h1 h2 => by exact h2)
      clear K153
      have H185 := H154.keep K165 (fun h => h)
      clear H154
      have H186 := H155.keep K165 (fun h => h)
      clear H155
      have F187 := own_keep0 F156 K165
      clear F156
      have F188 := own_keep0 F157 K165
      clear F157
      have F189 := own_keep0 F158 K165
      clear F158
      have F190 := own_keep0 F159 K165
      clear F159
      have F191 := own_keep0 F160 K165
      clear F160
      have F192 := own_keep0 F161 K165
      clear F161
      have F193 := own_keep0 O138 K165
      clear O138
      clear K165
      refine Ops.regs 1 [(1, (Value.pointer (some ⟨b1, 0, none⟩))), (2, (Value.slice none 0 0)), (3, (i64 0)), (4, v163), (6, (i64 m.commit)), (35, (Value.slice (some ⟨b14, 0, none⟩) 8 8)), (36, (i64 8)), (37, (i64 7)), (38, (Value.bool true))] (j := 4) (by kernel_rfl) (by kernel_rfl) ?_
      refine Ops.done (by kernel_rfl) ?_
      refine q_region (by kernel_rfl) ?_
      refine Ops.regs 2 [(1, (Value.pointer (some ⟨b1, 0, none⟩))), (2, (Value.slice none 0 0)), (3, (i64 0)), (4, v163), (6, (i64 m.commit)), (35, (Value.slice (some ⟨b14, 0, none⟩) 8 8)), (36, (i64 8)), (37, (i64 8)), (38, (Value.bool true))] (j := 2) (by kernel_rfl) (by kernel_rfl) ?_
      refine Ops.done (by kernel_rfl) ?_
      refine roll_step ?_
      refine q_seq (by kernel_rfl) ?_
      refine q_region (by kernel_rfl) ?_
      refine Ops.regs 1 [(1, (Value.pointer (some ⟨b1, 0, none⟩))), (2, (Value.slice none 0 0)), (3, (i64 0)), (4, v163), (6, (i64 m.commit)), (35, (Value.slice (some ⟨b14, 0, none⟩) 8 8)), (36, (i64 8)), (37, (i64 8)), (38, (Value.bool false))] (j := 1) (by kernel_rfl) (by kernel_rfl) ?_
      refine Ops.done (by kernel_rfl) ?_
      refine q_seq (by kernel_rfl) ?_
      refine q_else (o := .tmp 38) (by kernel_rfl) rfl ?_
      refine q_exit (id := 0) (by kernel_rfl) ?_
      refine q_seq (by kernel_rfl) ?_
      refine q_draw (fun wz => Keeps none_ w164 wz) 10 (by kernel_rfl) (by kernel_rfl) (by kernel_rfl) (fun w194 K195 _ _ => ⟨K195, ?_⟩)
      have K196 := K184.trans K195 (U := none_) (fun i h1 h2 => h2) (fun i h1 h2 => by exact h2)
      clear K184
      have H197 := H185.keep K195 (fun h => h)
      clear H185
      have H198 := H186.keep K195 (fun h => h)
      clear H186
      have F199 := own_keep0 F187 K195
      clear F187
      have F200 := own_keep0 F188 K195
      clear F188
      have F201 := own_keep0 F189 K195
      clear F189
      have F202 := own_keep0 F190 K195
      clear F190
      have F203 := own_keep0 F191 K195
      clear F191
      have F204 := own_keep0 F192 K195
      clear F192
      have F205 := own_keep0 F193 K195
      clear F193
      have F206 := own_keep0 O167 K195
      clear O167
      refine Dr.strong (S' := (fun wz => Keeps none_ w194 wz)) (Keeps.refl w194) (fun wz hx => K195.trans hx (fun i _ h => h) (fun _ _ h => h)) ?_
      clear K195
      refine Dr.takes (fuel' := 8) (is' := [1, 0]) [0, 1] [(1, (Value.pointer (some ⟨b1, 0, none⟩))), (2, (Value.slice none 0 0)), (3, (i64 0)), (4, v163), (45, v163), (46, (Value.pointer (some ⟨b1, 8, none⟩)))] (by kernel_rfl) rfl (by kernel_rfl) ?_
      refine Dr.take (i := 2) (v := (Value.bool m.ok)) (by kernel_rfl) (by kernel_rfl) (fun wz hS => Runs.load (t := 4) (a := ⟨b1, 8, none⟩) (by kernel_rfl) ((H197.keep hS (fun h => h)).loads (by kernel_rfl))) (d := (some 47)) (by kernel_rfl) rfl ?_
      refine Dr.takes (fuel' := 6) (is' := [4, 2, 1, 0]) [4] [(1, (Value.pointer (some ⟨b1, 0, none⟩))), (2, (Value.slice none 0 0)), (3, (i64 0)), (4, v163), (45, v163), (47, (Value.bool m.ok)), (49, (Value.pointer (some ⟨b1, 9, none⟩)))] (by kernel_rfl) rfl (by kernel_rfl) ?_
      refine Dr.take (i := 5) (v := (Value.slice E m.entries.length ec)) (by kernel_rfl) (by kernel_rfl) (fun wz hS => Runs.load (t := 47) (a := ⟨b1, 9, none⟩) (by kernel_rfl) ((H197.keep hS (fun h => h)).loads (by kernel_rfl))) (d := (some 50)) (by kernel_rfl) rfl ?_
      refine Dr.takes (fuel' := 3) (is' := [7, 6, 5, 4, 2, 1, 0]) [6, 7] [(1, (Value.pointer (some ⟨b1, 0, none⟩))), (2, (Value.slice none 0 0)), (3, (i64 0)), (4, v163), (45, v163), (47, (Value.bool m.ok)), (52, (Value.int IntKind.u64 (IntKind.u64.wrap (((m.entries.length : Nat) : Int)))))] (by kernel_rfl) rfl (by kernel_rfl) ?_
      have e207 : IntKind.u64.wrap (((m.entries.length : Nat) : Int)) = ((m.entries.length : Nat) : Int) := wrap_u64 (by omega) (by omega)
      rw [e207]
      refine Dr.call (i := 3) (by kernel_rfl) (by kernel_rfl) (d := (some 48)) (by kernel_rfl) (fun _ => BoolW_calls _ v163 (iv m.kind ++ iv m.group ++ iv m.frm ++ iv m.to ++ iv m.term ++ iv m.index ++ iv m.logTerm ++ iv m.commit) m.ok (OwnB.rd F206)  (by (try simp only at *); (try simp only [List.length_append] at *); (try simp only [List.length_cons] at *); (try simp only [List.length_nil] at *); omega)) ?_
      rintro _ w210 ⟨v209, rfl, K211, hO212⟩
      have ob214 : ∀ i, (v209).ownBlock = some i → i ≠ b1 := fun i hi => by have := (World.ownsRow.lt hO212 i hi).1; have := H197.lt; omega
      have ob215 : ∀ i, (v209).ownBlock = some i → i ≠ b14 := fun i hi => by have := (World.ownsRow.lt hO212 i hi).1; have := H198.lt; omega
      have oo216 : ∀ i, (v23).ownBlock = some i → (v209).ownBlock = some i → False := fun i hi hs => by have := (World.ownsRow.lt hO212 i hs).1; have := (World.ownsRow.lt F199 i hi).2; omega
      have oo217 : ∀ i, (v209).ownBlock = some i → (v23).ownBlock = some i → False := fun i hi hs => oo216 i hs hi
      have oo218 : ∀ i, (v34).ownBlock = some i → (v209).ownBlock = some i → False := fun i hi hs => by have := (World.ownsRow.lt hO212 i hs).1; have := (World.ownsRow.lt F200 i hi).2; omega
      have oo219 : ∀ i, (v209).ownBlock = some i → (v34).ownBlock = some i → False := fun i hi hs => oo218 i hs hi
      have oo220 : ∀ i, (v48).ownBlock = some i → (v209).ownBlock = some i → False := fun i hi hs => by have := (World.ownsRow.lt hO212 i hs).1; have := (World.ownsRow.lt F201 i hi).2; omega
      have oo221 : ∀ i, (v209).ownBlock = some i → (v48).ownBlock = some i → False := fun i hi hs => oo220 i hs hi
      have oo222 : ∀ i, (v65).ownBlock = some i → (v209).ownBlock = some i → False := fun i hi hs => by have := (World.ownsRow.lt hO212 i hs).1; have := (World.ownsRow.lt F202 i hi).2; omega
      have oo223 : ∀ i, (v209).ownBlock = some i → (v65).ownBlock = some i → False := fun i hi hs => oo222 i hs hi
      have oo224 : ∀ i, (v85).ownBlock = some i → (v209).ownBlock = some i → False := fun i hi hs => by have := (World.ownsRow.lt hO212 i hs).1; have := (World.ownsRow.lt F203 i hi).2; omega
      have oo225 : ∀ i, (v209).ownBlock = some i → (v85).ownBlock = some i → False := fun i hi hs => oo224 i hs hi
      have oo226 : ∀ i, (v108).ownBlock = some i → (v209).ownBlock = some i → False := fun i hi hs => by have := (World.ownsRow.lt hO212 i hs).1; have := (World.ownsRow.lt F204 i hi).2; omega
      have oo227 : ∀ i, (v209).ownBlock = some i → (v108).ownBlock = some i → False := fun i hi hs => oo226 i hs hi
      have oo228 : ∀ i, (v134).ownBlock = some i → (v209).ownBlock = some i → False := fun i hi hs => by have := (World.ownsRow.lt hO212 i hs).1; have := (World.ownsRow.lt F205 i hi).2; omega
      have oo229 : ∀ i, (v209).ownBlock = some i → (v134).ownBlock = some i → False := fun i hi hs => oo228 i hs hi
      have oo230 : ∀ i, (v163).ownBlock = some i → (v209).ownBlock = some i → False := fun i hi hs => by have := (World.ownsRow.lt hO212 i hs).1; have := (World.ownsRow.lt F206 i hi).2; omega
      have oo231 : ∀ i, (v209).ownBlock = some i → (v163).ownBlock = some i → False := fun i hi hs => oo230 i hs hi
      have O213 := own_base hO212 K196.size
      clear hO212
      have hL208 := uvb_len m.ok
      have K232 := K196.trans K211 (U := none_) (fun i h1 h2 => h2) (fun i h1 h2 => by exact h2)
      clear K196
      have H233 := H197.keep K211 (fun h => h)
      clear H197
      have H234 := H198.keep K211 (fun h => h)
      clear H198
      have F235 := own_keep0 F199 K211
      clear F199
      have F236 := own_keep0 F200 K211
      clear F200
      have F237 := own_keep0 F201 K211
      clear F201
      have F238 := own_keep0 F202 K211
      clear F202
      have F239 := own_keep0 F203 K211
      clear F203
      have F240 := own_keep0 F204 K211
      clear F204
      have F241 := own_keep0 F205 K211
      clear F205
      have F242 := own_keep0 F206 K211
      clear F206
      refine ⟨_, _, rfl, rfl, K211, ?_⟩
      refine Dr.strong (S' := (fun wz => Keeps none_ w210 wz)) (Keeps.refl w210) (fun wz hx => K211.trans hx (fun i _ h => h) (fun _ _ h => h)) ?_
      clear K211
      refine Dr.call (i := 8) (by kernel_rfl) (by kernel_rfl) (d := (some 53)) (by kernel_rfl) (fun _ => Uint_calls _ v209 (iv m.kind ++ iv m.group ++ iv m.frm ++ iv m.to ++ iv m.term ++ iv m.index ++ iv m.logTerm ++ iv m.commit ++ uv (m.ok).toNat) m.entries.length (OwnB.rd O213) (by omega) (by (try simp only at *); (try simp only [List.length_append] at *); (try simp only [List.length_cons] at *); (try simp only [List.length_nil] at *); omega)) ?_
      rintro _ w245 ⟨v244, rfl, K246, hO247⟩
      have ob249 : ∀ i, (v244).ownBlock = some i → i ≠ b1 := fun i hi => by have := (World.ownsRow.lt hO247 i hi).1; have := H233.lt; omega
      have ob250 : ∀ i, (v244).ownBlock = some i → i ≠ b14 := fun i hi => by have := (World.ownsRow.lt hO247 i hi).1; have := H234.lt; omega
      have oo251 : ∀ i, (v23).ownBlock = some i → (v244).ownBlock = some i → False := fun i hi hs => by have := (World.ownsRow.lt hO247 i hs).1; have := (World.ownsRow.lt F235 i hi).2; omega
      have oo252 : ∀ i, (v244).ownBlock = some i → (v23).ownBlock = some i → False := fun i hi hs => oo251 i hs hi
      have oo253 : ∀ i, (v34).ownBlock = some i → (v244).ownBlock = some i → False := fun i hi hs => by have := (World.ownsRow.lt hO247 i hs).1; have := (World.ownsRow.lt F236 i hi).2; omega
      have oo254 : ∀ i, (v244).ownBlock = some i → (v34).ownBlock = some i → False := fun i hi hs => oo253 i hs hi
      have oo255 : ∀ i, (v48).ownBlock = some i → (v244).ownBlock = some i → False := fun i hi hs => by have := (World.ownsRow.lt hO247 i hs).1; have := (World.ownsRow.lt F237 i hi).2; omega
      have oo256 : ∀ i, (v244).ownBlock = some i → (v48).ownBlock = some i → False := fun i hi hs => oo255 i hs hi
      have oo257 : ∀ i, (v65).ownBlock = some i → (v244).ownBlock = some i → False := fun i hi hs => by have := (World.ownsRow.lt hO247 i hs).1; have := (World.ownsRow.lt F238 i hi).2; omega
      have oo258 : ∀ i, (v244).ownBlock = some i → (v65).ownBlock = some i → False := fun i hi hs => oo257 i hs hi
      have oo259 : ∀ i, (v85).ownBlock = some i → (v244).ownBlock = some i → False := fun i hi hs => by have := (World.ownsRow.lt hO247 i hs).1; have := (World.ownsRow.lt F239 i hi).2; omega
      have oo260 : ∀ i, (v244).ownBlock = some i → (v85).ownBlock = some i → False := fun i hi hs => oo259 i hs hi
      have oo261 : ∀ i, (v108).ownBlock = some i → (v244).ownBlock = some i → False := fun i hi hs => by have := (World.ownsRow.lt hO247 i hs).1; have := (World.ownsRow.lt F240 i hi).2; omega
      have oo262 : ∀ i, (v244).ownBlock = some i → (v108).ownBlock = some i → False := fun i hi hs => oo261 i hs hi
      have oo263 : ∀ i, (v134).ownBlock = some i → (v244).ownBlock = some i → False := fun i hi hs => by have := (World.ownsRow.lt hO247 i hs).1; have := (World.ownsRow.lt F241 i hi).2; omega
      have oo264 : ∀ i, (v244).ownBlock = some i → (v134).ownBlock = some i → False := fun i hi hs => oo263 i hs hi
      have oo265 : ∀ i, (v163).ownBlock = some i → (v244).ownBlock = some i → False := fun i hi hs => by have := (World.ownsRow.lt hO247 i hs).1; have := (World.ownsRow.lt F242 i hi).2; omega
      have oo266 : ∀ i, (v244).ownBlock = some i → (v163).ownBlock = some i → False := fun i hi hs => oo265 i hs hi
      have oo267 : ∀ i, (v209).ownBlock = some i → (v244).ownBlock = some i → False := fun i hi hs => by have := (World.ownsRow.lt hO247 i hs).1; have := (World.ownsRow.lt O213 i hi).2; omega
      have oo268 : ∀ i, (v244).ownBlock = some i → (v209).ownBlock = some i → False := fun i hi hs => oo267 i hs hi
      have O248 := own_base hO247 K232.size
      clear hO247
      have hL243 := uv_length_10 (n := m.entries.length) (by omega)
      have K269 := K232.trans K246 (U := none_) (fun i h1 h2 => h2) (fun i h1 h2 => by exact h2)
      clear K232
      have H270 := H233.keep K246 (fun h => h)
      clear H233
      have H271 := H234.keep K246 (fun h => h)
      clear H234
      have F272 := own_keep0 F235 K246
      clear F235
      have F273 := own_keep0 F236 K246
      clear F236
      have F274 := own_keep0 F237 K246
      clear F237
      have F275 := own_keep0 F238 K246
      clear F238
      have F276 := own_keep0 F239 K246
      clear F239
      have F277 := own_keep0 F240 K246
      clear F240
      have F278 := own_keep0 F241 K246
      clear F241
      have F279 := own_keep0 F242 K246
      clear F242
      have F280 := own_keep0 O213 K246
      clear O213
      refine ⟨_, _, rfl, rfl, K246, ?_⟩
      refine Dr.strong (S' := (fun wz => Keeps none_ w245 wz)) (Keeps.refl w245) (fun wz hx => K246.trans hx (fun i _ h => h) (fun _ _ h => h)) ?_
      clear K246
      refine Dr.takes (fuel' := 0) (is' := [9, 8, 3, 7, 6, 5, 4, 2, 1, 0]) [9] [(1, (Value.pointer (some ⟨b1, 0, none⟩))), (2, (Value.slice none 0 0)), (3, (i64 0)), (4, v244)] (by kernel_rfl) rfl (by kernel_rfl) ?_
      refine Dr.done (by kernel_rfl) ?_
      refine q_seq (by kernel_rfl) ?_
      refine q_seq (by kernel_rfl) ?_
      refine q_region (by kernel_rfl) ?_
      refine Ops.regs 1 [(1, (Value.pointer (some ⟨b1, 0, none⟩))), (2, (Value.slice none 0 0)), (3, (i64 0)), (4, v244), (54, (Value.pointer (some ⟨b1, 9, none⟩)))] (j := 1) (by kernel_rfl) (by kernel_rfl) ?_
      refine Ops.go (v := (Value.slice E m.entries.length ec)) (by kernel_rfl) (Runs.load (t := 47) (a := ⟨b1, 9, none⟩) (by kernel_rfl) (H270.loads (by kernel_rfl))) (d := (some 55)) (by kernel_rfl) rfl ?_
      refine Ops.regs 2 [(1, (Value.pointer (some ⟨b1, 0, none⟩))), (2, (Value.slice none 0 0)), (3, (i64 0)), (4, v244), (55, (Value.slice E m.entries.length ec)), (56, (i64 ((m.entries.length : Nat) : Int))), (57, (i64 0))] (j := 4) (by kernel_rfl) (by kernel_rfl) ?_
      refine Ops.done (by kernel_rfl) ?_
      refine q_block (id := 2) (by kernel_rfl) ?_
      obtain ⟨A281, c282, hf283⟩ := RdB.form (OwnB.rd O248)
      subst hf283
      refine q_keep (R := [(1, (Value.pointer (some ⟨b1, 0, none⟩))), (4, (Value.slice A281 ((iv m.kind ++ iv m.group ++ iv m.frm ++ iv m.to ++ iv m.term ++ iv m.index ++ iv m.logTerm ++ iv m.commit ++ uv (m.ok).toNat ++ uv m.entries.length).length) c282)), (55, (Value.slice E m.entries.length ec)), (56, (i64 ((m.entries.length : Nat) : Int))), (57, (i64 0))]) (by kernel_rfl) ?_
      refine q_loop (fun (gs : (Option Addr) × Nat × Nat × (List UInt8)) L (wx : World) => match gs with | (uA, uc, i, ys) => L = [(1, (Value.pointer (some ⟨b1, 0, none⟩))), (4, (Value.slice uA ys.length uc)), (55, (Value.slice E m.entries.length ec)), (56, (i64 ((m.entries.length : Nat) : Int))), (57, (i64 ((i : Nat) : Int)))] ∧ OwnB wx w.heap.size 5 (Value.slice uA ys.length uc) ys ∧ (∀ i, ((Value.slice uA ys.length uc)).ownBlock = some i → i ≠ b1) ∧ (∀ i, ((Value.slice uA ys.length uc)).ownBlock = some i → i ≠ b14) ∧ ys = headv m ++ (uv m.entries.length ++ entsv (m.entries.take i)) ∧ (∀ x ∈ m.entries.take i, x.cmd.length ≤ 65536) ∧ i ≤ m.entries.length ∧ Keeps none_ w wx ∧ Has wx b1 (rowL [(i64 m.kind), (i64 m.group), (i64 m.frm), (i64 m.to), (i64 m.term), (i64 m.index), (i64 m.logTerm), (i64 m.commit), (Value.bool m.ok), (Value.slice E m.entries.length ec), (Value.slice D m.data.length dc)] 49) ∧ Has wx b14 (rowL [(i64 m.kind), (i64 m.group), (i64 m.frm), (i64 m.to), (i64 m.term), (i64 m.index), (i64 m.logTerm), (i64 m.commit)] 2)) (fun (gs : (Option Addr) × Nat × Nat × (List UInt8)) => match gs with | (uA, uc, i, ys) => m.entries.length - i) (A281, c282, 0, iv m.kind ++ iv m.group ++ iv m.frm ++ iv m.to ++ iv m.term ++ iv m.index ++ iv m.logTerm ++ iv m.commit ++ uv (m.ok).toNat ++ uv m.entries.length) (by kernel_rfl) ⟨rfl, O248, ob249, ob250, (by simp [headv, entsv]), (by simp), Nat.zero_le _, K269, H270, H271⟩ ?_
      clear H270 H271 F272 F273 F274 F275 F276 F277 F278 F279 F280 O248 K269
      rintro ⟨uA, uc, i, ys⟩ _ w284 ⟨rfl, hOU, obUb1, obUb14, hy, hcm, hi, K285, H286, H287⟩
      have hyl := congrArg List.length hy
      simp only [List.length_append] at hyl
      have htl := entsv_take_le m.entries i
      have hul := uv_length_10 (n := m.entries.length) (by omega)
      have hev := entsv_take_bound hm.ents hcm
      have hmul : i * 65556 ≤ 4096 * 65556 := Nat.mul_le_mul_right _ (by omega)
      refine q_seq (by kernel_rfl) ?_
      refine q_region (by kernel_rfl) ?_
      refine Ops.regs 1 [(1, (Value.pointer (some ⟨b1, 0, none⟩))), (4, (Value.slice uA ys.length uc)), (55, (Value.slice E m.entries.length ec)), (56, (i64 ((m.entries.length : Nat) : Int))), (57, (i64 ((i : Nat) : Int))), (58, (Value.bool (decide (((i : Nat) : Int) < ((m.entries.length : Nat) : Int)))))] (j := 1) (by kernel_rfl) (by kernel_rfl) ?_
      refine Ops.done (by kernel_rfl) ?_
      refine q_seq (by kernel_rfl) ?_
      refine q_cond (o := .tmp 58) (b := (decide (((i : Nat) : Int) < ((m.entries.length : Nat) : Int)))) (by kernel_rfl) rfl (fun h288 => ?_) (fun h288 => ?_)
      · rw [h288]
        have p289 : ((i : Nat) : Int) < ((m.entries.length : Nat) : Int) := of_decide_eq_true h288
        obtain ⟨rb290, ro291, x, hA292, hx293⟩ := RdT.open (Rd.keep0 (by omega) hE K285) rfl (k := i) (by omega)
        have hXx := hx293
        have hBx := hC x (List.mem_of_getElem? hXx)
        have hBlx := hBx.slice
        unfold maxLen at hBlx
        have hxo := hm.ents x (List.mem_of_getElem? hXx)
        refine q_skip (by kernel_rfl) ?_
        refine q_seq (by kernel_rfl) ?_
        refine q_block (id := 3) (by kernel_rfl) ?_
        refine q_seq (by kernel_rfl) ?_
        refine q_region (by kernel_rfl) ?_
        refine Ops.go (by kernel_rfl) (Runs.ixSliceE (k := IntKind.i64) (t := 47) (len := m.entries.length) (cap := ec) (s := 2) (off' := ro291 + i * 2) (i := ((i : Nat) : Int)) hA292 (by kernel_rfl) (by kernel_rfl) (by omega) (by omega) (by omega)) (d := (some 59)) (by kernel_rfl) rfl ?_
        refine Ops.go (v := (agg [(i64 x.term), (Value.slice x.A x.cmd.length x.c)])) (by kernel_rfl) (Runs.load (t := 97) (a := ⟨rb290, ro291 + i * 2, none⟩) (by kernel_rfl) (RdT.ld (f := EntP.cells) (x := x) EntP.two (Rd.keep0 (by omega) hE K285) (by kernel_rfl) (by kernel_rfl) hA292 hx293)) (d := (some 60)) (by kernel_rfl) rfl ?_
        refine Ops.new (o := rowL [(i64 0), (Value.slice none 0 0)] 97) (V := fun b => (Value.pointer (some ⟨b, 0, none⟩))) (by kernel_rfl) (d := (some 8)) (by kernel_rfl) (fun b => rfl) (fun b294 w295 hb296 H297 K298 hs299 => ?_)
        have lb294 : b14 < b294 := by have := H287.lt; omega
        have nb294 : w.heap.size ≤ b294 := by have := K285.size; omega
        have ob300 : ∀ i, ((Value.slice uA ys.length uc)).ownBlock = some i → i < b294 := fun i hi => by have := (World.ownsRow.lt hOU i hi).2; omega
        have K301 := K285.trans K298 (U := none_) (fun i h1 h2 => h2) (fun i h1 h2 => by exact h2)
        clear K285
        have H302 := H286.keep K298 (fun h => h)
        clear H286
        have H303 := H287.keep K298 (fun h => h)
        clear H287
        have F304 := own_keep0 hOU K298
        clear hOU
        clear K298 hs299
        refine Ops.put (t := 97) (b := b294) (off := 0) (v := (agg [(i64 x.term), (Value.slice x.A x.cmd.length x.c)])) (ys := [(i64 x.term), (Value.slice x.A x.cmd.length x.c)]) (by kernel_rfl) (by kernel_rfl) H297 (by kernel_rfl) (d := none) (by kernel_rfl) rfl (fun w305 H306 K307 => ?_)
        clear H297
        have K308 := K301.trans K307 (U := none_) (fun i h1 h2 => h2) (fun i h1 h2 => by have h2 : i = b294 := h2; exfalso; omega)
        clear K301
        have H309 := H302.keep K307 (by intro h; change b1 = b294 at h; omega)
        clear H302
        have H310 := H303.keep K307 (by intro h; change b14 = b294 at h; omega)
        clear H303
        have F311 := own_keep F304 K307 (fun i hi hs => by have hs : i = b294 := hs; have := ob300 i hi; omega)
        clear F304
        clear K307
        refine Ops.done (by kernel_rfl) ?_
        refine q_seq (by kernel_rfl) ?_
        refine q_seq (by kernel_rfl) ?_
        refine q_region (by kernel_rfl) ?_
        refine Ops.regs 1 [(1, (Value.pointer (some ⟨b1, 0, none⟩))), (4, (Value.slice uA ys.length uc)), (8, (Value.pointer (some ⟨b294, 0, none⟩))), (55, (Value.slice E m.entries.length ec)), (56, (i64 ((m.entries.length : Nat) : Int))), (57, (i64 ((i : Nat) : Int))), (58, (Value.bool true)), (61, (Value.pointer (some ⟨b294, 1, none⟩)))] (j := 1) (by kernel_rfl) (by kernel_rfl) ?_
        refine Ops.go (v := (Value.slice x.A x.cmd.length x.c)) (by kernel_rfl) (Runs.load (t := 23) (a := ⟨b294, 1, none⟩) (by kernel_rfl) (H306.loads (by kernel_rfl))) (d := (some 62)) (by kernel_rfl) rfl ?_
        refine Ops.regs 3 [(1, (Value.pointer (some ⟨b1, 0, none⟩))), (4, (Value.slice uA ys.length uc)), (8, (Value.pointer (some ⟨b294, 0, none⟩))), (55, (Value.slice E m.entries.length ec)), (56, (i64 ((m.entries.length : Nat) : Int))), (57, (i64 ((i : Nat) : Int))), (58, (Value.bool true)), (65, (Value.bool (decide (((x.cmd.length : Nat) : Int) > 65536))))] (j := 5) (by kernel_rfl) (by kernel_rfl) ?_
        refine Ops.split (decide (((x.cmd.length : Nat) : Int) > 65536)) (fun h312 => ?_) (fun h312 => ?_)
        · rw [h312]
          have p313 : ((x.cmd.length : Nat) : Int) > 65536 := of_decide_eq_true h312
          refine Ops.regs 4 [(1, (Value.pointer (some ⟨b1, 0, none⟩))), (4, (Value.slice uA ys.length uc)), (8, (Value.pointer (some ⟨b294, 0, none⟩))), (55, (Value.slice E m.entries.length ec)), (56, (i64 ((m.entries.length : Nat) : Int))), (57, (i64 ((i : Nat) : Int))), (58, (Value.bool true)), (69, (Value.bool true))] (j := 9) (by kernel_rfl) (by kernel_rfl) ?_
          refine Ops.done (by kernel_rfl) ?_
          refine q_then (o := .tmp 69) (by kernel_rfl) rfl ?_
          refine q_seq (by kernel_rfl) ?_
          refine q_region (by kernel_rfl) ?_
          refine Ops.regs 2 [(1, (Value.pointer (some ⟨b1, 0, none⟩))), (2, (Value.slice none 0 0)), (3, (i64 3)), (4, (Value.slice uA ys.length uc)), (8, (Value.pointer (some ⟨b294, 0, none⟩))), (55, (Value.slice E m.entries.length ec)), (56, (i64 ((m.entries.length : Nat) : Int))), (57, (i64 ((i : Nat) : Int))), (58, (Value.bool true)), (69, (Value.bool true))] (j := 2) (by kernel_rfl) (by kernel_rfl) ?_
          refine Ops.done (by kernel_rfl) ?_
          refine q_ret (by kernel_rfl) ?_
          refine ⟨(Value.tuple #[(Value.slice none 0 0), (i64 3)]), retv_tmp2 rfl rfl rfl, ?_⟩
          exact ⟨_, _, _, rfl, K308, World.ownsRow_nil _ _ _ _, .inr ⟨fun hf => by have h1 := hf.count; have h2 := hf.data; have h3 := hf.size; have h4 := hf.cmds x (List.mem_of_getElem? hXx); omega, rfl, rfl⟩⟩
        · rw [h312]
          have p314 : ¬ (((x.cmd.length : Nat) : Int) > 65536) := of_decide_eq_false h312
          refine Ops.regs 4 [(1, (Value.pointer (some ⟨b1, 0, none⟩))), (4, (Value.slice uA ys.length uc)), (8, (Value.pointer (some ⟨b294, 0, none⟩))), (55, (Value.slice E m.entries.length ec)), (56, (i64 ((m.entries.length : Nat) : Int))), (57, (i64 ((i : Nat) : Int))), (58, (Value.bool true)), (69, (Value.bool (decide (((ys.length : Nat) : Int) > 1048576))))] (j := 9) (by kernel_rfl) (by kernel_rfl) ?_
          refine Ops.done (by kernel_rfl) ?_
          refine q_cond (o := .tmp 69) (b := (decide (((ys.length : Nat) : Int) > 1048576))) (by kernel_rfl) rfl (fun h315 => ?_) (fun h315 => ?_)
          · rw [h315]
            have p316 : ((ys.length : Nat) : Int) > 1048576 := of_decide_eq_true h315
            refine q_seq (by kernel_rfl) ?_
            refine q_region (by kernel_rfl) ?_
            refine Ops.regs 2 [(1, (Value.pointer (some ⟨b1, 0, none⟩))), (2, (Value.slice none 0 0)), (3, (i64 3)), (4, (Value.slice uA ys.length uc)), (8, (Value.pointer (some ⟨b294, 0, none⟩))), (55, (Value.slice E m.entries.length ec)), (56, (i64 ((m.entries.length : Nat) : Int))), (57, (i64 ((i : Nat) : Int))), (58, (Value.bool true)), (69, (Value.bool true))] (j := 2) (by kernel_rfl) (by kernel_rfl) ?_
            refine Ops.done (by kernel_rfl) ?_
            refine q_ret (by kernel_rfl) ?_
            refine ⟨(Value.tuple #[(Value.slice none 0 0), (i64 3)]), retv_tmp2 rfl rfl rfl, ?_⟩
            exact ⟨_, _, _, rfl, K308, World.ownsRow_nil _ _ _ _, .inr ⟨fun hf => by have h1 := hf.count; have h2 := hf.data; have h3 := hf.size; have h4 := hf.cmds x (List.mem_of_getElem? hXx); omega, rfl, rfl⟩⟩
          · rw [h315]
            have p317 : ¬ (((ys.length : Nat) : Int) > 1048576) := of_decide_eq_false h315
            refine q_skip (by kernel_rfl) ?_
            refine q_draw (fun wz => Keeps (fun i => ((Value.slice uA ys.length uc)).ownBlock = some i) w305 wz) 9 (by kernel_rfl) (by kernel_rfl) (by kernel_rfl) (fun w318 K319 _ _ => ⟨(K319.mono (fun _ _ h => h.elim)), ?_⟩)
            have K320 := K308.trans K319 (U := none_) (fun i h1 h2 => h2) (fun i h1 h2 => by exact h2)
            clear K308
            have H321 := H309.keep K319 (fun h => h)
            clear H309
            have H322 := H310.keep K319 (fun h => h)
            clear H310
            have H323 := H306.keep K319 (fun h => h)
            clear H306
            have F324 := own_keep0 F311 K319
            clear F311
            refine Dr.strong (S' := (fun wz => Keeps (fun i => ((Value.slice uA ys.length uc)).ownBlock = some i) w318 wz)) ((Keeps.refl w318).mono (fun _ _ h => h.elim)) (fun wz hx => K319.trans hx (fun i _ h => h.elim) (fun _ _ h => h)) ?_
            clear K319
            refine Dr.takes (fuel' := 7) (is' := [1, 0]) [0, 1] [(1, (Value.pointer (some ⟨b1, 0, none⟩))), (4, (Value.slice uA ys.length uc)), (8, (Value.pointer (some ⟨b294, 0, none⟩))), (55, (Value.slice E m.entries.length ec)), (56, (i64 ((m.entries.length : Nat) : Int))), (57, (i64 ((i : Nat) : Int))), (58, (Value.bool true)), (69, (Value.bool false)), (70, (Value.slice uA ys.length uc)), (71, (Value.pointer (some ⟨b294, 0, none⟩)))] (by kernel_rfl) rfl (by kernel_rfl) ?_
            refine Dr.take (i := 2) (v := (i64 x.term)) (by kernel_rfl) (by kernel_rfl) (fun wz hS => Runs.load (t := 2) (a := ⟨b294, 0, none⟩) (by kernel_rfl) ((H323.keep hS (by intro h; change ((Value.slice uA ys.length uc)).ownBlock = some b294 at h; have := ob300 b294 h; omega)).loads (by kernel_rfl))) (d := (some 72)) (by kernel_rfl) rfl ?_
            refine Dr.takes (fuel' := 5) (is' := [4, 2, 1, 0]) [4] [(1, (Value.pointer (some ⟨b1, 0, none⟩))), (4, (Value.slice uA ys.length uc)), (8, (Value.pointer (some ⟨b294, 0, none⟩))), (55, (Value.slice E m.entries.length ec)), (56, (i64 ((m.entries.length : Nat) : Int))), (57, (i64 ((i : Nat) : Int))), (58, (Value.bool true)), (69, (Value.bool false)), (70, (Value.slice uA ys.length uc)), (72, (i64 x.term)), (74, (Value.pointer (some ⟨b294, 1, none⟩)))] (by kernel_rfl) rfl (by kernel_rfl) ?_
            refine Dr.take (i := 5) (v := (Value.slice x.A x.cmd.length x.c)) (by kernel_rfl) (by kernel_rfl) (fun wz hS => Runs.load (t := 23) (a := ⟨b294, 1, none⟩) (by kernel_rfl) ((H323.keep hS (by intro h; change ((Value.slice uA ys.length uc)).ownBlock = some b294 at h; have := ob300 b294 h; omega)).loads (by kernel_rfl))) (d := (some 75)) (by kernel_rfl) rfl ?_
            refine Dr.call (i := 3) (by kernel_rfl) (by kernel_rfl) (d := (some 73)) (by kernel_rfl) (fun _ => Int_calls _ (Value.slice none 0 0) [] x.term (Rd.nil _ _) (by omega) (by (try simp only at *); (try simp only [List.length_append] at *); (try simp only [List.length_cons] at *); (try simp only [List.length_nil] at *); omega)) ?_
            rintro _ w327 ⟨v326, rfl, K328, hO329⟩
            have ob331 : ∀ i, (v326).ownBlock = some i → i ≠ b1 := fun i hi => by have := (World.ownsRow.lt hO329 i hi).1; have := H321.lt; omega
            have ob332 : ∀ i, (v326).ownBlock = some i → i ≠ b14 := fun i hi => by have := (World.ownsRow.lt hO329 i hi).1; have := H322.lt; omega
            have ob333 : ∀ i, (v326).ownBlock = some i → i ≠ b294 := fun i hi => by have := (World.ownsRow.lt hO329 i hi).1; have := H323.lt; omega
            have oo334 : ∀ i, ((Value.slice uA ys.length uc)).ownBlock = some i → (v326).ownBlock = some i → False := fun i hi hs => by have := (World.ownsRow.lt hO329 i hs).1; have := (World.ownsRow.lt F324 i hi).2; omega
            have oo335 : ∀ i, (v326).ownBlock = some i → ((Value.slice uA ys.length uc)).ownBlock = some i → False := fun i hi hs => oo334 i hs hi
            have O330 : OwnB w327 w.heap.size _ v326 (iv x.term) := own_base hO329 K320.size
            clear hO329
            have hL325 := iv_length_10 (n := x.term) (by omega)
            have K336 := K320.trans K328 (U := none_) (fun i h1 h2 => h2) (fun i h1 h2 => by exact h2)
            clear K320
            have H337 := H321.keep K328 (fun h => h)
            clear H321
            have H338 := H322.keep K328 (fun h => h)
            clear H322
            have H339 := H323.keep K328 (fun h => h)
            clear H323
            have F340 := own_keep0 F324 K328
            clear F324
            refine ⟨_, _, rfl, rfl, (K328.mono (fun _ _ h => h.elim)), ?_⟩
            refine Dr.strong (S' := (fun wz => Keeps (fun i => ((Value.slice uA ys.length uc)).ownBlock = some i) w327 wz)) ((Keeps.refl w327).mono (fun _ _ h => h.elim)) (fun wz hx => K328.trans hx (fun i _ h => h.elim) (fun _ _ h => h)) ?_
            clear K328
            refine Dr.call (i := 6) (by kernel_rfl) (by kernel_rfl) (d := (some 76)) (by kernel_rfl) (fun _ => BytesW_calls _ v326 (iv x.term) x.A x.c x.cmd (OwnB.rd O330) (hBx.keep0 (by omega) K336) (by first | omega | decide) (by (try simp only at *); (try simp only [List.length_append] at *); (try simp only [List.length_cons] at *); (try simp only [List.length_nil] at *); omega)) ?_
            rintro _ w344 ⟨v343, rfl, K345, hO346⟩
            have ob348 : ∀ i, (v343).ownBlock = some i → i ≠ b1 := fun i hi => by have := (World.ownsRow.lt hO346 i hi).1; have := H337.lt; omega
            have ob349 : ∀ i, (v343).ownBlock = some i → i ≠ b14 := fun i hi => by have := (World.ownsRow.lt hO346 i hi).1; have := H338.lt; omega
            have ob350 : ∀ i, (v343).ownBlock = some i → i ≠ b294 := fun i hi => by have := (World.ownsRow.lt hO346 i hi).1; have := H339.lt; omega
            have oo351 : ∀ i, ((Value.slice uA ys.length uc)).ownBlock = some i → (v343).ownBlock = some i → False := fun i hi hs => by have := (World.ownsRow.lt hO346 i hs).1; have := (World.ownsRow.lt F340 i hi).2; omega
            have oo352 : ∀ i, (v343).ownBlock = some i → ((Value.slice uA ys.length uc)).ownBlock = some i → False := fun i hi hs => oo351 i hs hi
            have oo353 : ∀ i, (v326).ownBlock = some i → (v343).ownBlock = some i → False := fun i hi hs => by have := (World.ownsRow.lt hO346 i hs).1; have := (World.ownsRow.lt O330 i hi).2; omega
            have oo354 : ∀ i, (v343).ownBlock = some i → (v326).ownBlock = some i → False := fun i hi hs => oo353 i hs hi
            have O347 := own_base hO346 K336.size
            clear hO346
            have hL341 := tv_ge x.cmd
            have hL342 := tv_le (s := x.cmd) (by first | omega | decide)
            have K355 := K336.trans K345 (U := none_) (fun i h1 h2 => h2) (fun i h1 h2 => by exact h2)
            clear K336
            have H356 := H337.keep K345 (fun h => h)
            clear H337
            have H357 := H338.keep K345 (fun h => h)
            clear H338
            have H358 := H339.keep K345 (fun h => h)
            clear H339
            have F359 := own_keep0 F340 K345
            clear F340
            have F360 := own_keep0 O330 K345
            clear O330
            refine ⟨_, _, rfl, rfl, (K345.mono (fun _ _ h => h.elim)), ?_⟩
            refine Dr.strong (S' := (fun wz => Keeps (fun i => ((Value.slice uA ys.length uc)).ownBlock = some i) w344 wz)) ((Keeps.refl w344).mono (fun _ _ h => h.elim)) (fun wz hx => K345.trans hx (fun i _ h => h.elim) (fun _ _ h => h)) ?_
            clear K345
            obtain ⟨v361, w362, hr363, hO364, K365, hg366⟩ := OwnB.app2 (ty := 23) tyB F359 (OwnB.rd O347) (by (try simp only [List.length_append]); (try simp only [List.length_nil]); omega) K355.size
            obtain ⟨A368, c369, hf367⟩ := RdB.form (OwnB.rd hO364)
            subst hf367
            have ob370 : ∀ i, ((Value.slice A368 ((ys ++ (iv x.term ++ tv x.cmd)).length) c369)).ownBlock = some i → i ≠ b1 := fun i hi => by rcases hg366 i hi with h | h; (have := obUb1 i h; omega); (have := H356.lt; omega)
            have ob371 : ∀ i, ((Value.slice A368 ((ys ++ (iv x.term ++ tv x.cmd)).length) c369)).ownBlock = some i → i ≠ b14 := fun i hi => by rcases hg366 i hi with h | h; (have := obUb14 i h; omega); (have := H357.lt; omega)
            have ob372 : ∀ i, ((Value.slice A368 ((ys ++ (iv x.term ++ tv x.cmd)).length) c369)).ownBlock = some i → i ≠ b294 := fun i hi => by rcases hg366 i hi with h | h; (have := ob300 i h; omega); (have := H358.lt; omega)
            have oo373 : ∀ i, (v326).ownBlock = some i → ((Value.slice A368 ((ys ++ (iv x.term ++ tv x.cmd)).length) c369)).ownBlock = some i → False := fun i hi hs => by rcases hg366 i hs with h | h; (exact oo335 i hi h); (have := (World.ownsRow.lt F360 i hi).2; omega)
            have oo374 : ∀ i, ((Value.slice A368 ((ys ++ (iv x.term ++ tv x.cmd)).length) c369)).ownBlock = some i → (v326).ownBlock = some i → False := fun i hi hs => oo373 i hs hi
            have oo375 : ∀ i, (v343).ownBlock = some i → ((Value.slice A368 ((ys ++ (iv x.term ++ tv x.cmd)).length) c369)).ownBlock = some i → False := fun i hi hs => by rcases hg366 i hs with h | h; (exact oo352 i hi h); (have := (World.ownsRow.lt O347 i hi).2; omega)
            have oo376 : ∀ i, ((Value.slice A368 ((ys ++ (iv x.term ++ tv x.cmd)).length) c369)).ownBlock = some i → (v343).ownBlock = some i → False := fun i hi hs => oo375 i hs hi
            have K377 := K355.trans K365 (U := none_) (fun i h1 h2 => h2) (fun i h1 h2 => by have h2 : ((Value.slice uA ys.length uc)).ownBlock = some i := h2; exfalso; have := (World.ownsRow.lt F359 i h2).1; omega)
            clear K355
            have H378 := H356.keep K365 (by intro h; change ((Value.slice uA ys.length uc)).ownBlock = some b1 at h; have := obUb1 b1 h; omega)
            clear H356
            have H379 := H357.keep K365 (by intro h; change ((Value.slice uA ys.length uc)).ownBlock = some b14 at h; have := obUb14 b14 h; omega)
            clear H357
            have H380 := H358.keep K365 (by intro h; change ((Value.slice uA ys.length uc)).ownBlock = some b294 at h; have := ob300 b294 h; omega)
            clear H358
            clear F359
            have F381 := own_keep F360 K365 (fun i hi hs => by have hs : ((Value.slice uA ys.length uc)).ownBlock = some i := hs; exact oo335 i hi hs)
            clear F360
            have F382 := own_keep O347 K365 (fun i hi hs => by have hs : ((Value.slice uA ys.length uc)).ownBlock = some i := hs; exact oo352 i hi hs)
            clear O347
            refine Dr.go (i := 7) (v := (Value.slice A368 ((ys ++ (iv x.term ++ tv x.cmd)).length) c369)) (by kernel_rfl) (by kernel_rfl) (Runs.append (ts := #[23, 23]) (ty := 23) (vs := [(Value.slice uA ys.length uc), v343]) (by kernel_rfl) hr363) (d := (some 77)) (by kernel_rfl) rfl K365 ?_
            refine Dr.strong (S' := (fun wz => Keeps (fun i => ((Value.slice uA ys.length uc)).ownBlock = some i) w362 wz)) ((Keeps.refl w362).mono (fun _ _ h => h.elim)) (fun wz hx => K365.trans hx (fun i _ h => by have h : ((Value.slice uA ys.length uc)).ownBlock = some i := h; show ((Value.slice uA ys.length uc)).ownBlock = some i; exact h) (fun _ _ h => h)) ?_
            clear K365 hr363 hg366
            refine Dr.takes (fuel' := 0) (is' := [8, 7, 6, 3, 5, 4, 2, 1, 0]) [8] [(1, (Value.pointer (some ⟨b1, 0, none⟩))), (4, (Value.slice A368 ((ys ++ (iv x.term ++ tv x.cmd)).length) c369)), (8, (Value.pointer (some ⟨b294, 0, none⟩))), (55, (Value.slice E m.entries.length ec)), (56, (i64 ((m.entries.length : Nat) : Int))), (57, (i64 ((i : Nat) : Int))), (58, (Value.bool true)), (69, (Value.bool false))] (by kernel_rfl) rfl (by kernel_rfl) ?_
            refine Dr.done (by kernel_rfl) ?_
            refine q_region (by kernel_rfl) ?_
            refine Ops.regs 1 [(1, (Value.pointer (some ⟨b1, 0, none⟩))), (4, (Value.slice A368 ((ys ++ (iv x.term ++ tv x.cmd)).length) c369)), (8, (Value.pointer (some ⟨b294, 0, none⟩))), (55, (Value.slice E m.entries.length ec)), (56, (i64 ((m.entries.length : Nat) : Int))), (57, (i64 ((i : Nat) : Int))), (58, (Value.bool true)), (69, (Value.bool false)), (78, (i64 (IntKind.i64.wrap (((i : Nat) : Int) + 1))))] (j := 1) (by kernel_rfl) (by kernel_rfl) ?_
            have e383 : IntKind.i64.wrap (((i : Nat) : Int) + 1) = ((i + 1 : Nat) : Int) := by rw [wrap_i64 (by omega) (by omega)]; omega
            rw [e383]
            clear e383
            refine Ops.regs 1 [(1, (Value.pointer (some ⟨b1, 0, none⟩))), (4, (Value.slice A368 ((ys ++ (iv x.term ++ tv x.cmd)).length) c369)), (8, (Value.pointer (some ⟨b294, 0, none⟩))), (55, (Value.slice E m.entries.length ec)), (56, (i64 ((m.entries.length : Nat) : Int))), (57, (i64 ((i + 1 : Nat) : Int))), (58, (Value.bool true)), (69, (Value.bool false))] (j := 2) (by kernel_rfl) (by kernel_rfl) ?_
            refine Ops.keep (R := [(1, (Value.pointer (some ⟨b1, 0, none⟩))), (4, (Value.slice A368 ((ys ++ (iv x.term ++ tv x.cmd)).length) c369)), (55, (Value.slice E m.entries.length ec)), (56, (i64 ((m.entries.length : Nat) : Int))), (57, (i64 ((i + 1 : Nat) : Int)))]) (by kernel_rfl) ?_
            refine Ops.done (by kernel_rfl) ?_
            exact ⟨(A368, c369, i + 1, ys ++ (iv x.term ++ tv x.cmd)), ⟨rfl, hO364, ob370, ob371, (by rw [hy, entsv_take hXx]; simp only [List.append_assoc]), (fun y hy => by obtain ⟨h1, h2⟩ := List.getElem?_eq_some_iff.1 hXx; rw [List.take_succ_eq_append_getElem h1, List.mem_append, List.mem_singleton] at hy; rcases hy with hy | hy; (exact hcm y hy); (subst hy; rw [h2]; omega)), (by omega), K377, H378, H379⟩, (show m.entries.length - (i + 1) < m.entries.length - i from by omega)⟩
      · rw [h288]
        have p384 : ¬ (((i : Nat) : Int) < ((m.entries.length : Nat) : Int)) := of_decide_eq_false h288
        have hcA : ∀ x ∈ m.entries, x.cmd.length ≤ 65536 := by rw [List.take_of_length_le (by omega)] at hcm; exact hcm
        refine q_exit (id := 2) (by kernel_rfl) ?_
        refine q_seq (by kernel_rfl) ?_
        refine q_seq (by kernel_rfl) ?_
        refine q_region (by kernel_rfl) ?_
        refine Ops.regs 2 [(4, (Value.slice uA ys.length uc)), (79, (Value.slice uA ys.length uc)), (80, (Value.pointer (some ⟨b1, 10, none⟩)))] (j := 2) (by kernel_rfl) (by kernel_rfl) ?_
        refine Ops.go (v := (Value.slice D m.data.length dc)) (by kernel_rfl) (Runs.load (t := 23) (a := ⟨b1, 10, none⟩) (by kernel_rfl) (H286.loads (by kernel_rfl))) (d := (some 81)) (by kernel_rfl) rfl ?_
        refine Ops.call (by kernel_rfl) (d := (some 82)) (by kernel_rfl) (BytesW_calls _ (Value.slice none 0 0) [] D dc m.data (Rd.nil _ _) (hD.keep0 (by omega) K285) (by first | omega | decide) (by (try simp only at *); (try simp only [List.length_append] at *); (try simp only [List.length_cons] at *); (try simp only [List.length_nil] at *); omega)) ?_
        rintro _ w388 ⟨v387, rfl, K389, hO390⟩
        have ob392 : ∀ i, (v387).ownBlock = some i → i ≠ b1 := fun i hi => by have := (World.ownsRow.lt hO390 i hi).1; have := H286.lt; omega
        have ob393 : ∀ i, (v387).ownBlock = some i → i ≠ b14 := fun i hi => by have := (World.ownsRow.lt hO390 i hi).1; have := H287.lt; omega
        have oo394 : ∀ i, ((Value.slice uA ys.length uc)).ownBlock = some i → (v387).ownBlock = some i → False := fun i hi hs => by have := (World.ownsRow.lt hO390 i hs).1; have := (World.ownsRow.lt hOU i hi).2; omega
        have oo395 : ∀ i, (v387).ownBlock = some i → ((Value.slice uA ys.length uc)).ownBlock = some i → False := fun i hi hs => oo394 i hs hi
        have O391 : OwnB w388 w.heap.size _ v387 (tv m.data) := own_base hO390 K285.size
        clear hO390
        have hL385 := tv_ge m.data
        have hL386 := tv_le (s := m.data) (by first | omega | decide)
        refine ⟨_, _, rfl, rfl, ?_⟩
        have K396 := K285.trans K389 (U := none_) (fun i h1 h2 => h2) (fun i h1 h2 => by exact h2)
        clear K285
        have H397 := H286.keep K389 (fun h => h)
        clear H286
        have H398 := H287.keep K389 (fun h => h)
        clear H287
        have F399 := own_keep0 hOU K389
        clear hOU
        clear K389
        obtain ⟨v400, w401, hr402, hO403, K404, hg405⟩ := OwnB.app2 (ty := 23) tyB F399 (OwnB.rd O391) (by (try simp only [List.length_append]); (try simp only [List.length_nil]); omega) K396.size
        obtain ⟨A407, c408, hf406⟩ := RdB.form (OwnB.rd hO403)
        subst hf406
        have ob409 : ∀ i, ((Value.slice A407 ((ys ++ tv m.data).length) c408)).ownBlock = some i → i ≠ b1 := fun i hi => by rcases hg405 i hi with h | h; (have := obUb1 i h; omega); (have := H397.lt; omega)
        have ob410 : ∀ i, ((Value.slice A407 ((ys ++ tv m.data).length) c408)).ownBlock = some i → i ≠ b14 := fun i hi => by rcases hg405 i hi with h | h; (have := obUb14 i h; omega); (have := H398.lt; omega)
        have oo411 : ∀ i, (v387).ownBlock = some i → ((Value.slice A407 ((ys ++ tv m.data).length) c408)).ownBlock = some i → False := fun i hi hs => by rcases hg405 i hs with h | h; (exact oo395 i hi h); (have := (World.ownsRow.lt O391 i hi).2; omega)
        have oo412 : ∀ i, ((Value.slice A407 ((ys ++ tv m.data).length) c408)).ownBlock = some i → (v387).ownBlock = some i → False := fun i hi hs => oo411 i hs hi
        refine Ops.go (v := (Value.slice A407 ((ys ++ tv m.data).length) c408)) (by kernel_rfl) (Runs.append (ts := #[23, 23]) (ty := 23) (vs := [(Value.slice uA ys.length uc), v387]) (by kernel_rfl) hr402) (d := (some 83)) (by kernel_rfl) rfl ?_
        have K413 := K396.trans K404 (U := none_) (fun i h1 h2 => h2) (fun i h1 h2 => by have h2 : ((Value.slice uA ys.length uc)).ownBlock = some i := h2; exfalso; have := (World.ownsRow.lt F399 i h2).1; omega)
        clear K396
        have H414 := H397.keep K404 (by intro h; change ((Value.slice uA ys.length uc)).ownBlock = some b1 at h; have := obUb1 b1 h; omega)
        clear H397
        have H415 := H398.keep K404 (by intro h; change ((Value.slice uA ys.length uc)).ownBlock = some b14 at h; have := obUb14 b14 h; omega)
        clear H398
        clear F399
        have F416 := own_keep O391 K404 (fun i hi hs => by have hs : ((Value.slice uA ys.length uc)).ownBlock = some i := hs; exact oo395 i hi hs)
        clear O391
        clear K404 hr402 hg405
        refine Ops.regs 1 [(4, (Value.slice A407 ((ys ++ tv m.data).length) c408))] (j := 6) (by kernel_rfl) (by kernel_rfl) ?_
        refine Ops.done (by kernel_rfl) ?_
        refine q_seq (by kernel_rfl) ?_
        refine q_region (by kernel_rfl) ?_
        refine Ops.regs 3 [(4, (Value.slice A407 ((ys ++ tv m.data).length) c408)), (86, (Value.bool (decide ((((ys ++ tv m.data).length : Nat) : Int) > 1048576))))] (j := 3) (by kernel_rfl) (by kernel_rfl) ?_
        refine Ops.done (by kernel_rfl) ?_
        refine q_cond (o := .tmp 86) (b := (decide ((((ys ++ tv m.data).length : Nat) : Int) > 1048576))) (by kernel_rfl) rfl (fun h417 => ?_) (fun h417 => ?_)
        · rw [h417]
          have p418 : (((ys ++ tv m.data).length : Nat) : Int) > 1048576 := of_decide_eq_true h417
          refine q_seq (by kernel_rfl) ?_
          refine q_region (by kernel_rfl) ?_
          refine Ops.regs 2 [(2, (Value.slice none 0 0)), (3, (i64 3)), (4, (Value.slice A407 ((ys ++ tv m.data).length) c408))] (j := 2) (by kernel_rfl) (by kernel_rfl) ?_
          refine Ops.done (by kernel_rfl) ?_
          refine q_ret (by kernel_rfl) ?_
          refine ⟨(Value.tuple #[(Value.slice none 0 0), (i64 3)]), retv_tmp2 rfl rfl rfl, ?_⟩
          exact ⟨_, _, _, rfl, K413, World.ownsRow_nil _ _ _ _, .inr ⟨fun hf => by have h1 := hf.count; have h2 := hf.data; have h3 := hf.size; have h5 := congrArg List.length (show _ = msgv m from (show ys ++ tv m.data = msgv m from by rw [hy, List.take_of_length_le (by omega)]; simp only [msgv, List.append_assoc])); omega, rfl, rfl⟩⟩
        · rw [h417]
          have p419 : ¬ ((((ys ++ tv m.data).length : Nat) : Int) > 1048576) := of_decide_eq_false h417
          refine q_skip (by kernel_rfl) ?_
          refine q_seq (by kernel_rfl) ?_
          refine q_region (by kernel_rfl) ?_
          refine Ops.regs 3 [(2, (Value.slice A407 ((ys ++ tv m.data).length) c408)), (3, (i64 0))] (j := 3) (by kernel_rfl) (by kernel_rfl) ?_
          refine Ops.done (by kernel_rfl) ?_
          refine q_ret (by kernel_rfl) ?_
          refine ⟨(Value.tuple #[(Value.slice A407 ((ys ++ tv m.data).length) c408), (i64 0)]), retv_tmp2 rfl rfl rfl, ?_⟩
          have hfin : ys ++ tv m.data = msgv m := by rw [hy, List.take_of_length_le (by omega)]; simp only [msgv, List.append_assoc]
          have hfl := congrArg List.length hfin
          refine ⟨_, _, _, rfl, K413, hO403, .inl ⟨?_, rfl, hfin⟩⟩
          exact ⟨by omega, by omega, hcA, by omega⟩

set_option maxHeartbeats 4000000 in
theorem RMsg_calls (w : World) (m : MsgP) (E : Option Addr) (ec : Nat) (D : Option Addr) (dc : Nat) (hm : m.Ok) (hE : RdE w (.slice E m.entries.length ec) m.entries) (hC : EntsIn w m.entries) (hD : RdB w (.slice D m.data.length dc) m.data) (hcl : ∀ x ∈ m.entries, x.cmd.length ≤ 140737488351232) : Calls Try.prog 24 ⟨[(agg [(i64 m.kind), (i64 m.group), (i64 m.frm), (i64 m.to), (i64 m.term), (i64 m.index), (i64 m.logTerm), (i64 m.commit), (Value.bool m.ok), (Value.slice E m.entries.length ec), (Value.slice D m.data.length dc)])]⟩ w (fun e w' => ∃ v' er out, e = .returned (.tuple #[v', i64 er]) ∧ Keeps none_ w w' ∧ OwnB w' w.heap.size 5 v' out ∧ (m.Fits ∧ er = 0 ∧ out = msgv m ∨ ¬ m.Fits ∧ er = 3 ∧ out = [])) := by
  have hi1 := hm.kind
  have hi2 := hm.group
  have hi3 := hm.frm
  have hi4 := hm.to
  have hi5 := hm.term
  have hi6 := hm.index
  have hi7 := hm.logTerm
  have hi8 := hm.commit
  have hel := (RdT.len EntP.two (by decide) hE).2
  unfold maxLen at hel
  have hdl := hD.slice
  unfold maxLen at hdl
  have hhl := headv_len hm
  have hml := msgv_len m
  have hes := entsv_sum m.entries
  have htd := tv_ge m.data
  have K0 : Keeps none_ w w := Keeps.refl w
  refine q_calls Try.func24 (by kernel_rfl) (by kernel_rfl) ?_
  refine q_seq (by kernel_rfl) ?_
  refine q_region (by kernel_rfl) ?_
  refine Ops.new (o := rowL [(i64 m.kind), (i64 m.group), (i64 m.frm), (i64 m.to), (i64 m.term), (i64 m.index), (i64 m.logTerm), (i64 m.commit), (Value.bool m.ok), (Value.slice E m.entries.length ec), (Value.slice D m.data.length dc)] 49) (V := fun b => (Value.pointer (some ⟨b, 0, none⟩))) (by kernel_rfl) (d := (some 1)) (by kernel_rfl) (fun b => rfl) (fun b1 w2 hb3 H4 K5 hs6 => ?_)
  have nb1 : w.heap.size ≤ b1 := by have := K0.size; omega
  have K7 := K0.trans K5 (U := none_) (fun i h1 h2 => h2) (fun i h1 h2 => by exact h2)
  clear K0
  clear K5 hs6
  refine Ops.regs 2 [(1, (Value.pointer (some ⟨b1, 0, none⟩))), (2, (Value.slice none 0 0)), (3, (i64 0))] (j := 3) (by kernel_rfl) (by kernel_rfl) ?_
  refine Ops.done (by kernel_rfl) ?_
  refine q_seq (by kernel_rfl) ?_
  refine q_region (by kernel_rfl) ?_
  refine Ops.regs 1 [(1, (Value.pointer (some ⟨b1, 0, none⟩))), (2, (Value.slice none 0 0)), (3, (i64 0)), (9, (Value.pointer (some ⟨b1, 10, none⟩)))] (j := 1) (by kernel_rfl) (by kernel_rfl) ?_
  refine Ops.go (v := (Value.slice D m.data.length dc)) (by kernel_rfl) (Runs.load (t := 23) (a := ⟨b1, 10, none⟩) (by kernel_rfl) (H4.loads (by kernel_rfl))) (d := (some 10)) (by kernel_rfl) rfl ?_
  refine Ops.regs 2 [(1, (Value.pointer (some ⟨b1, 0, none⟩))), (2, (Value.slice none 0 0)), (3, (i64 0)), (4, (i64 ((m.data.length : Nat) : Int)))] (j := 4) (by kernel_rfl) (by kernel_rfl) ?_
  refine Ops.done (by kernel_rfl) ?_
  refine q_seq (by kernel_rfl) ?_
  refine q_region (by kernel_rfl) ?_
  refine Ops.regs 1 [(1, (Value.pointer (some ⟨b1, 0, none⟩))), (2, (Value.slice none 0 0)), (3, (i64 0)), (4, (i64 ((m.data.length : Nat) : Int))), (12, (Value.pointer (some ⟨b1, 9, none⟩)))] (j := 1) (by kernel_rfl) (by kernel_rfl) ?_
  refine Ops.go (v := (Value.slice E m.entries.length ec)) (by kernel_rfl) (Runs.load (t := 47) (a := ⟨b1, 9, none⟩) (by kernel_rfl) (H4.loads (by kernel_rfl))) (d := (some 13)) (by kernel_rfl) rfl ?_
  refine Ops.regs 3 [(1, (Value.pointer (some ⟨b1, 0, none⟩))), (2, (Value.slice none 0 0)), (3, (i64 0)), (4, (i64 ((m.data.length : Nat) : Int))), (16, (Value.bool (decide (((m.entries.length : Nat) : Int) > 4096))))] (j := 5) (by kernel_rfl) (by kernel_rfl) ?_
  refine Ops.split (decide (((m.entries.length : Nat) : Int) > 4096)) (fun h8 => ?_) (fun h8 => ?_)
  · rw [h8]
    have p9 : ((m.entries.length : Nat) : Int) > 4096 := of_decide_eq_true h8
    refine Ops.regs 6 [(1, (Value.pointer (some ⟨b1, 0, none⟩))), (2, (Value.slice none 0 0)), (3, (i64 0)), (4, (i64 ((m.data.length : Nat) : Int))), (5, (Value.bool true))] (j := 11) (by kernel_rfl) (by kernel_rfl) ?_
    refine Ops.done (by kernel_rfl) ?_
    refine q_seq (by kernel_rfl) ?_
    refine q_seq (by kernel_rfl) ?_
    refine q_region (by kernel_rfl) ?_
    refine Ops.regs 1 [(1, (Value.pointer (some ⟨b1, 0, none⟩))), (2, (Value.slice none 0 0)), (3, (i64 0)), (4, (i64 ((m.data.length : Nat) : Int))), (5, (Value.bool true)), (6, (i64 0))] (j := 1) (by kernel_rfl) (by kernel_rfl) ?_
    refine Ops.done (by kernel_rfl) ?_
    refine q_block (id := 0) (by kernel_rfl) ?_
    refine q_roll 1 (by kernel_rfl) ?_
    refine roll_step ?_
    refine q_seq (by kernel_rfl) ?_
    refine q_seq (by kernel_rfl) ?_
    refine q_region (by kernel_rfl) ?_
    refine Ops.regs 2 [(1, (Value.pointer (some ⟨b1, 0, none⟩))), (2, (Value.slice none 0 0)), (3, (i64 0)), (4, (i64 ((m.data.length : Nat) : Int))), (5, (Value.bool true)), (6, (i64 0)), (22, (i64 0)), (23, (Value.pointer (some ⟨b1, 9, none⟩)))] (j := 2) (by kernel_rfl) (by kernel_rfl) ?_
    refine Ops.go (v := (Value.slice E m.entries.length ec)) (by kernel_rfl) (Runs.load (t := 47) (a := ⟨b1, 9, none⟩) (by kernel_rfl) (H4.loads (by kernel_rfl))) (d := (some 24)) (by kernel_rfl) rfl ?_
    refine Ops.regs 3 [(1, (Value.pointer (some ⟨b1, 0, none⟩))), (2, (Value.slice none 0 0)), (3, (i64 0)), (4, (i64 ((m.data.length : Nat) : Int))), (5, (Value.bool true)), (6, (i64 0)), (27, (Value.bool (decide (0 < ((m.entries.length : Nat) : Int)))))] (j := 6) (by kernel_rfl) (by kernel_rfl) ?_
    refine Ops.split (decide (0 < ((m.entries.length : Nat) : Int))) (fun h10 => ?_) (fun h10 => ?_)
    · rw [h10]
      have p11 : 0 < ((m.entries.length : Nat) : Int) := of_decide_eq_true h10
      refine Ops.regs 3 [(1, (Value.pointer (some ⟨b1, 0, none⟩))), (2, (Value.slice none 0 0)), (3, (i64 0)), (4, (i64 ((m.data.length : Nat) : Int))), (5, (Value.bool true)), (6, (i64 0)), (30, (Value.bool false))] (j := 9) (by kernel_rfl) (by kernel_rfl) ?_
      refine Ops.done (by kernel_rfl) ?_
      refine q_else (o := .tmp 30) (by kernel_rfl) rfl ?_
      refine q_exit (id := 0) (by kernel_rfl) ?_
      refine q_seq (by kernel_rfl) ?_
      refine q_seq (by kernel_rfl) ?_
      refine q_region (by kernel_rfl) ?_
      refine Ops.regs 1 [(1, (Value.pointer (some ⟨b1, 0, none⟩))), (2, (Value.slice none 0 0)), (3, (i64 0)), (54, (Value.bool true))] (j := 1) (by kernel_rfl) (by kernel_rfl) ?_
      refine Ops.done (by kernel_rfl) ?_
      refine q_then (o := .tmp 54) (by kernel_rfl) rfl ?_
      refine q_seq (by kernel_rfl) ?_
      refine q_region (by kernel_rfl) ?_
      refine Ops.regs 2 [(1, (Value.pointer (some ⟨b1, 0, none⟩))), (2, (Value.slice none 0 0)), (3, (i64 3))] (j := 2) (by kernel_rfl) (by kernel_rfl) ?_
      refine Ops.done (by kernel_rfl) ?_
      refine q_ret (by kernel_rfl) ?_
      refine ⟨(Value.tuple #[(Value.slice none 0 0), (i64 3)]), retv_tmp2 rfl rfl rfl, ?_⟩
      exact ⟨_, _, _, rfl, K7, World.ownsRow_nil _ _ _ _, .inr ⟨fun hf => by have h1 := hf.count; omega, rfl, rfl⟩⟩
    · rw [h10]
      have p12 : ¬ (0 < ((m.entries.length : Nat) : Int)) := of_decide_eq_false h10
      refine Ops.regs 3 [(1, (Value.pointer (some ⟨b1, 0, none⟩))), (2, (Value.slice none 0 0)), (3, (i64 0)), (4, (i64 ((m.data.length : Nat) : Int))), (5, (Value.bool true)), (6, (i64 0)), (30, (Value.bool false))] (j := 9) (by kernel_rfl) (by kernel_rfl) ?_
      refine Ops.done (by kernel_rfl) ?_
      refine q_else (o := .tmp 30) (by kernel_rfl) rfl ?_
      refine q_exit (id := 0) (by kernel_rfl) ?_
      refine q_seq (by kernel_rfl) ?_
      refine q_seq (by kernel_rfl) ?_
      refine q_region (by kernel_rfl) ?_
      refine Ops.regs 1 [(1, (Value.pointer (some ⟨b1, 0, none⟩))), (2, (Value.slice none 0 0)), (3, (i64 0)), (54, (Value.bool true))] (j := 1) (by kernel_rfl) (by kernel_rfl) ?_
      refine Ops.done (by kernel_rfl) ?_
      refine q_then (o := .tmp 54) (by kernel_rfl) rfl ?_
      refine q_seq (by kernel_rfl) ?_
      refine q_region (by kernel_rfl) ?_
      refine Ops.regs 2 [(1, (Value.pointer (some ⟨b1, 0, none⟩))), (2, (Value.slice none 0 0)), (3, (i64 3))] (j := 2) (by kernel_rfl) (by kernel_rfl) ?_
      refine Ops.done (by kernel_rfl) ?_
      refine q_ret (by kernel_rfl) ?_
      refine ⟨(Value.tuple #[(Value.slice none 0 0), (i64 3)]), retv_tmp2 rfl rfl rfl, ?_⟩
      exact ⟨_, _, _, rfl, K7, World.ownsRow_nil _ _ _ _, .inr ⟨fun hf => by have h1 := hf.count; omega, rfl, rfl⟩⟩
  · rw [h8]
    have p13 : ¬ (((m.entries.length : Nat) : Int) > 4096) := of_decide_eq_false h8
    refine Ops.regs 1 [(1, (Value.pointer (some ⟨b1, 0, none⟩))), (2, (Value.slice none 0 0)), (3, (i64 0)), (4, (i64 ((m.data.length : Nat) : Int))), (16, (Value.bool false)), (17, (Value.pointer (some ⟨b1, 10, none⟩)))] (j := 6) (by kernel_rfl) (by kernel_rfl) ?_
    refine Ops.go (v := (Value.slice D m.data.length dc)) (by kernel_rfl) (Runs.load (t := 23) (a := ⟨b1, 10, none⟩) (by kernel_rfl) (H4.loads (by kernel_rfl))) (d := (some 18)) (by kernel_rfl) rfl ?_
    refine Ops.regs 4 [(1, (Value.pointer (some ⟨b1, 0, none⟩))), (2, (Value.slice none 0 0)), (3, (i64 0)), (4, (i64 ((m.data.length : Nat) : Int))), (5, (Value.bool (decide (((m.data.length : Nat) : Int) > 65536))))] (j := 11) (by kernel_rfl) (by kernel_rfl) ?_
    refine Ops.done (by kernel_rfl) ?_
    refine q_seq (by kernel_rfl) ?_
    refine q_seq (by kernel_rfl) ?_
    refine q_region (by kernel_rfl) ?_
    refine Ops.regs 1 [(1, (Value.pointer (some ⟨b1, 0, none⟩))), (2, (Value.slice none 0 0)), (3, (i64 0)), (4, (i64 ((m.data.length : Nat) : Int))), (5, (Value.bool (decide (((m.data.length : Nat) : Int) > 65536)))), (6, (i64 0))] (j := 1) (by kernel_rfl) (by kernel_rfl) ?_
    refine Ops.done (by kernel_rfl) ?_
    refine q_block (id := 0) (by kernel_rfl) ?_
    refine q_keep (R := [(1, (Value.pointer (some ⟨b1, 0, none⟩))), (2, (Value.slice none 0 0)), (3, (i64 0)), (4, (i64 ((m.data.length : Nat) : Int))), (5, (Value.bool (decide (((m.data.length : Nat) : Int) > 65536)))), (6, (i64 0))]) (by kernel_rfl) ?_
    refine q_loop (fun (gs : Nat × Nat × Bool) L (wx : World) => match gs with | (i, size, bad) => L = [(1, (Value.pointer (some ⟨b1, 0, none⟩))), (2, (Value.slice none 0 0)), (3, (i64 0)), (4, (i64 ((size : Nat) : Int))), (5, (Value.bool bad)), (6, (i64 ((i : Nat) : Int)))] ∧ size = m.data.length + sumc (m.entries.take i) ∧ (bad = true ↔ ¬ m.Pre i) ∧ i ≤ m.entries.length ∧ Keeps none_ w wx ∧ Has wx b1 (rowL [(i64 m.kind), (i64 m.group), (i64 m.frm), (i64 m.to), (i64 m.term), (i64 m.index), (i64 m.logTerm), (i64 m.commit), (Value.bool m.ok), (Value.slice E m.entries.length ec), (Value.slice D m.data.length dc)] 49)) (fun (gs : Nat × Nat × Bool) => match gs with | (i, size, bad) => m.entries.length - i) (0, m.data.length, (decide (((m.data.length : Nat) : Int) > 65536))) (by kernel_rfl) ⟨rfl, (by simp [sumc]), (by rw [decide_eq_true_iff]; exact ⟨fun h q => by have := q.2.1; omega, fun h => Classical.byContradiction fun q => h ⟨by omega, by omega, by simp, .inl rfl⟩⟩), Nat.zero_le _, K7, H4⟩ ?_
    clear H4 K7
    rintro ⟨i, size, bad⟩ _ w14 ⟨rfl, hsz, hb, hi, K15, H16⟩
    refine q_seq (by kernel_rfl) ?_
    refine q_seq (by kernel_rfl) ?_
    refine q_region (by kernel_rfl) ?_
    refine Ops.regs 2 [(1, (Value.pointer (some ⟨b1, 0, none⟩))), (2, (Value.slice none 0 0)), (3, (i64 0)), (4, (i64 ((size : Nat) : Int))), (5, (Value.bool bad)), (6, (i64 ((i : Nat) : Int))), (22, (i64 ((i : Nat) : Int))), (23, (Value.pointer (some ⟨b1, 9, none⟩)))] (j := 2) (by kernel_rfl) (by kernel_rfl) ?_
    refine Ops.go (v := (Value.slice E m.entries.length ec)) (by kernel_rfl) (Runs.load (t := 47) (a := ⟨b1, 9, none⟩) (by kernel_rfl) (H16.loads (by kernel_rfl))) (d := (some 24)) (by kernel_rfl) rfl ?_
    refine Ops.regs 3 [(1, (Value.pointer (some ⟨b1, 0, none⟩))), (2, (Value.slice none 0 0)), (3, (i64 0)), (4, (i64 ((size : Nat) : Int))), (5, (Value.bool bad)), (6, (i64 ((i : Nat) : Int))), (27, (Value.bool (decide (((i : Nat) : Int) < ((m.entries.length : Nat) : Int)))))] (j := 6) (by kernel_rfl) (by kernel_rfl) ?_
    refine Ops.split (decide (((i : Nat) : Int) < ((m.entries.length : Nat) : Int))) (fun h17 => ?_) (fun h17 => ?_)
    · rw [h17]
      have p18 : ((i : Nat) : Int) < ((m.entries.length : Nat) : Int) := of_decide_eq_true h17
      obtain ⟨rb19, ro20, x, hA21, hx22⟩ := RdT.open (Rd.keep0 (by omega) hE K15) rfl (k := i) (by omega)
      have hXx := hx22
      have hBx := hC x (List.mem_of_getElem? hXx)
      have hBlx := hBx.slice
      unfold maxLen at hBlx
      have hxo := hm.ents x (List.mem_of_getElem? hXx)
      have hxl := hcl x (List.mem_of_getElem? hXx)
      have hsx := sumc_take hXx
      refine Ops.regs 3 [(1, (Value.pointer (some ⟨b1, 0, none⟩))), (2, (Value.slice none 0 0)), (3, (i64 0)), (4, (i64 ((size : Nat) : Int))), (5, (Value.bool bad)), (6, (i64 ((i : Nat) : Int))), (30, (Value.bool (!bad)))] (j := 9) (by kernel_rfl) (by kernel_rfl) ?_
      refine Ops.done (by kernel_rfl) ?_
      refine q_cond (o := .tmp 30) (b := (!bad)) (by kernel_rfl) rfl (fun h23 => ?_) (fun h23 => ?_)
      · rw [h23]
        have p24 : bad = false := (bnot_true h23)
        try rw [p24]
        have hp : m.Pre i := Classical.not_not.1 (fun h => by have h := hb.2 h; rw [(bnot_true h23)] at h; cases h)
        have hp4 := hp.2.2.2
        have hp0 : i = 0 → sumc (m.entries.take i) = 0 := fun h => by rw [h]; rfl
        have hp1 := hp.1
        have hp2 := hp.2.1
        refine q_skip (by kernel_rfl) ?_
        refine q_seq (by kernel_rfl) ?_
        refine q_block (id := 1) (by kernel_rfl) ?_
        refine q_seq (by kernel_rfl) ?_
        refine q_region (by kernel_rfl) ?_
        refine Ops.regs 2 [(1, (Value.pointer (some ⟨b1, 0, none⟩))), (2, (Value.slice none 0 0)), (3, (i64 0)), (4, (i64 ((size : Nat) : Int))), (5, (Value.bool false)), (6, (i64 ((i : Nat) : Int))), (30, (Value.bool true)), (33, (i64 ((size : Nat) : Int))), (34, (Value.pointer (some ⟨b1, 9, none⟩)))] (j := 2) (by kernel_rfl) (by kernel_rfl) ?_
        refine Ops.go (v := (Value.slice E m.entries.length ec)) (by kernel_rfl) (Runs.load (t := 47) (a := ⟨b1, 9, none⟩) (by kernel_rfl) (H16.loads (by kernel_rfl))) (d := (some 35)) (by kernel_rfl) rfl ?_
        refine Ops.regs 1 [(1, (Value.pointer (some ⟨b1, 0, none⟩))), (2, (Value.slice none 0 0)), (3, (i64 0)), (4, (i64 ((size : Nat) : Int))), (5, (Value.bool false)), (6, (i64 ((i : Nat) : Int))), (30, (Value.bool true)), (33, (i64 ((size : Nat) : Int))), (35, (Value.slice E m.entries.length ec)), (36, (i64 ((i : Nat) : Int)))] (j := 4) (by kernel_rfl) (by kernel_rfl) ?_
        refine Ops.go (by kernel_rfl) (Runs.ixSliceE (k := IntKind.i64) (t := 47) (len := m.entries.length) (cap := ec) (s := 2) (off' := ro20 + i * 2) (i := ((i : Nat) : Int)) hA21 (by kernel_rfl) (by kernel_rfl) (by omega) (by omega) (by omega)) (d := (some 37)) (by kernel_rfl) rfl ?_
        refine Ops.regs 1 [(1, (Value.pointer (some ⟨b1, 0, none⟩))), (2, (Value.slice none 0 0)), (3, (i64 0)), (4, (i64 ((size : Nat) : Int))), (5, (Value.bool false)), (6, (i64 ((i : Nat) : Int))), (30, (Value.bool true)), (33, (i64 ((size : Nat) : Int))), (38, (Value.pointer (some ⟨rb19, ro20 + i * 2 + 1, none⟩)))] (j := 6) (by kernel_rfl) (by kernel_rfl) ?_
        refine Ops.go (v := (Value.slice x.A x.cmd.length x.c)) (by kernel_rfl) (Runs.load (t := 23) (a := ⟨rb19, ro20 + i * 2 + 1, none⟩) (by kernel_rfl) (RdT.ldf (f := EntP.cells) (x := x) (o := 1) EntP.two (Rd.keep0 (by omega) hE K15) (by kernel_rfl) hA21 hx22 rfl)) (d := (some 39)) (by kernel_rfl) rfl ?_
        refine Ops.regs 2 [(1, (Value.pointer (some ⟨b1, 0, none⟩))), (2, (Value.slice none 0 0)), (3, (i64 0)), (4, (i64 ((size : Nat) : Int))), (5, (Value.bool false)), (6, (i64 ((i : Nat) : Int))), (30, (Value.bool true)), (41, (i64 (IntKind.i64.wrap (((size : Nat) : Int) + ((x.cmd.length : Nat) : Int)))))] (j := 9) (by kernel_rfl) (by kernel_rfl) ?_
        have e25 : IntKind.i64.wrap (((size : Nat) : Int) + ((x.cmd.length : Nat) : Int)) = ((size + x.cmd.length : Nat) : Int) := by rw [wrap_i64 (by omega) (by omega)]; omega
        rw [e25]
        clear e25
        refine Ops.regs 1 [(1, (Value.pointer (some ⟨b1, 0, none⟩))), (2, (Value.slice none 0 0)), (3, (i64 0)), (4, (i64 ((size + x.cmd.length : Nat) : Int))), (5, (Value.bool false)), (6, (i64 ((i : Nat) : Int))), (30, (Value.bool true))] (j := 10) (by kernel_rfl) (by kernel_rfl) ?_
        refine Ops.done (by kernel_rfl) ?_
        refine q_region (by kernel_rfl) ?_
        refine Ops.regs 1 [(1, (Value.pointer (some ⟨b1, 0, none⟩))), (2, (Value.slice none 0 0)), (3, (i64 0)), (4, (i64 ((size + x.cmd.length : Nat) : Int))), (5, (Value.bool false)), (6, (i64 ((i : Nat) : Int))), (30, (Value.bool true)), (42, (Value.pointer (some ⟨b1, 9, none⟩)))] (j := 1) (by kernel_rfl) (by kernel_rfl) ?_
        refine Ops.go (v := (Value.slice E m.entries.length ec)) (by kernel_rfl) (Runs.load (t := 47) (a := ⟨b1, 9, none⟩) (by kernel_rfl) (H16.loads (by kernel_rfl))) (d := (some 43)) (by kernel_rfl) rfl ?_
        refine Ops.regs 1 [(1, (Value.pointer (some ⟨b1, 0, none⟩))), (2, (Value.slice none 0 0)), (3, (i64 0)), (4, (i64 ((size + x.cmd.length : Nat) : Int))), (5, (Value.bool false)), (6, (i64 ((i : Nat) : Int))), (30, (Value.bool true)), (43, (Value.slice E m.entries.length ec)), (44, (i64 ((i : Nat) : Int)))] (j := 3) (by kernel_rfl) (by kernel_rfl) ?_
        refine Ops.go (by kernel_rfl) (Runs.ixSliceE (k := IntKind.i64) (t := 47) (len := m.entries.length) (cap := ec) (s := 2) (off' := ro20 + i * 2) (i := ((i : Nat) : Int)) hA21 (by kernel_rfl) (by kernel_rfl) (by omega) (by omega) (by omega)) (d := (some 45)) (by kernel_rfl) rfl ?_
        refine Ops.regs 1 [(1, (Value.pointer (some ⟨b1, 0, none⟩))), (2, (Value.slice none 0 0)), (3, (i64 0)), (4, (i64 ((size + x.cmd.length : Nat) : Int))), (5, (Value.bool false)), (6, (i64 ((i : Nat) : Int))), (30, (Value.bool true)), (46, (Value.pointer (some ⟨rb19, ro20 + i * 2 + 1, none⟩)))] (j := 5) (by kernel_rfl) (by kernel_rfl) ?_
        refine Ops.go (v := (Value.slice x.A x.cmd.length x.c)) (by kernel_rfl) (Runs.load (t := 23) (a := ⟨rb19, ro20 + i * 2 + 1, none⟩) (by kernel_rfl) (RdT.ldf (f := EntP.cells) (x := x) (o := 1) EntP.two (Rd.keep0 (by omega) hE K15) (by kernel_rfl) hA21 hx22 rfl)) (d := (some 47)) (by kernel_rfl) rfl ?_
        refine Ops.regs 3 [(1, (Value.pointer (some ⟨b1, 0, none⟩))), (2, (Value.slice none 0 0)), (3, (i64 0)), (4, (i64 ((size + x.cmd.length : Nat) : Int))), (5, (Value.bool false)), (6, (i64 ((i : Nat) : Int))), (30, (Value.bool true)), (50, (Value.bool (decide (((x.cmd.length : Nat) : Int) > 65536))))] (j := 9) (by kernel_rfl) (by kernel_rfl) ?_
        refine Ops.split (decide (((x.cmd.length : Nat) : Int) > 65536)) (fun h26 => ?_) (fun h26 => ?_)
        · rw [h26]
          have p27 : ((x.cmd.length : Nat) : Int) > 65536 := of_decide_eq_true h26
          refine Ops.regs 4 [(1, (Value.pointer (some ⟨b1, 0, none⟩))), (2, (Value.slice none 0 0)), (3, (i64 0)), (4, (i64 ((size + x.cmd.length : Nat) : Int))), (5, (Value.bool true)), (6, (i64 ((i : Nat) : Int))), (30, (Value.bool true))] (j := 13) (by kernel_rfl) (by kernel_rfl) ?_
          refine Ops.done (by kernel_rfl) ?_
          refine q_region (by kernel_rfl) ?_
          refine Ops.regs 2 [(1, (Value.pointer (some ⟨b1, 0, none⟩))), (2, (Value.slice none 0 0)), (3, (i64 0)), (4, (i64 ((size + x.cmd.length : Nat) : Int))), (5, (Value.bool true)), (6, (i64 ((i : Nat) : Int))), (30, (Value.bool true)), (32, (i64 (IntKind.i64.wrap (((i : Nat) : Int) + 1))))] (j := 2) (by kernel_rfl) (by kernel_rfl) ?_
          have e28 : IntKind.i64.wrap (((i : Nat) : Int) + 1) = ((i + 1 : Nat) : Int) := by rw [wrap_i64 (by omega) (by omega)]; omega
          rw [e28]
          clear e28
          refine Ops.regs 1 [(1, (Value.pointer (some ⟨b1, 0, none⟩))), (2, (Value.slice none 0 0)), (3, (i64 0)), (4, (i64 ((size + x.cmd.length : Nat) : Int))), (5, (Value.bool true)), (6, (i64 ((i + 1 : Nat) : Int))), (30, (Value.bool true))] (j := 3) (by kernel_rfl) (by kernel_rfl) ?_
          refine Ops.keep (R := [(1, (Value.pointer (some ⟨b1, 0, none⟩))), (2, (Value.slice none 0 0)), (3, (i64 0)), (4, (i64 ((size + x.cmd.length : Nat) : Int))), (5, (Value.bool true)), (6, (i64 ((i + 1 : Nat) : Int)))]) (by kernel_rfl) ?_
          refine Ops.done (by kernel_rfl) ?_
          exact ⟨(i + 1, size + x.cmd.length, true), ⟨rfl, (by rw [hsz, sumc_take hXx]; omega), (by rw [MsgP.pre_next hXx hp]; exact ⟨fun _ h => by have := h.1; omega, fun _ => rfl⟩), (by omega), K15, H16⟩, (show m.entries.length - (i + 1) < m.entries.length - i from by omega)⟩
        · rw [h26]
          have p29 : ¬ (((x.cmd.length : Nat) : Int) > 65536) := of_decide_eq_false h26
          refine Ops.regs 4 [(1, (Value.pointer (some ⟨b1, 0, none⟩))), (2, (Value.slice none 0 0)), (3, (i64 0)), (4, (i64 ((size + x.cmd.length : Nat) : Int))), (5, (Value.bool (decide (((size + x.cmd.length : Nat) : Int) > 1048576)))), (6, (i64 ((i : Nat) : Int))), (30, (Value.bool true))] (j := 13) (by kernel_rfl) (by kernel_rfl) ?_
          refine Ops.done (by kernel_rfl) ?_
          refine q_region (by kernel_rfl) ?_
          refine Ops.regs 2 [(1, (Value.pointer (some ⟨b1, 0, none⟩))), (2, (Value.slice none 0 0)), (3, (i64 0)), (4, (i64 ((size + x.cmd.length : Nat) : Int))), (5, (Value.bool (decide (((size + x.cmd.length : Nat) : Int) > 1048576)))), (6, (i64 ((i : Nat) : Int))), (30, (Value.bool true)), (32, (i64 (IntKind.i64.wrap (((i : Nat) : Int) + 1))))] (j := 2) (by kernel_rfl) (by kernel_rfl) ?_
          have e30 : IntKind.i64.wrap (((i : Nat) : Int) + 1) = ((i + 1 : Nat) : Int) := by rw [wrap_i64 (by omega) (by omega)]; omega
          rw [e30]
          clear e30
          refine Ops.regs 1 [(1, (Value.pointer (some ⟨b1, 0, none⟩))), (2, (Value.slice none 0 0)), (3, (i64 0)), (4, (i64 ((size + x.cmd.length : Nat) : Int))), (5, (Value.bool (decide (((size + x.cmd.length : Nat) : Int) > 1048576)))), (6, (i64 ((i + 1 : Nat) : Int))), (30, (Value.bool true))] (j := 3) (by kernel_rfl) (by kernel_rfl) ?_
          refine Ops.keep (R := [(1, (Value.pointer (some ⟨b1, 0, none⟩))), (2, (Value.slice none 0 0)), (3, (i64 0)), (4, (i64 ((size + x.cmd.length : Nat) : Int))), (5, (Value.bool (decide (((size + x.cmd.length : Nat) : Int) > 1048576)))), (6, (i64 ((i + 1 : Nat) : Int)))]) (by kernel_rfl) ?_
          refine Ops.done (by kernel_rfl) ?_
          exact ⟨(i + 1, size + x.cmd.length, (decide (((size + x.cmd.length : Nat) : Int) > 1048576))), ⟨rfl, (by rw [hsz, sumc_take hXx]; omega), (by rw [decide_eq_true_iff, MsgP.pre_next hXx hp]; exact ⟨fun h q => by have := q.2; omega, fun h => Classical.byContradiction fun q => h ⟨by omega, by omega⟩⟩), (by omega), K15, H16⟩, (show m.entries.length - (i + 1) < m.entries.length - i from by omega)⟩
      · rw [h23]
        have p31 : bad = true := (bnot_false h23)
        try rw [p31]
        have hnp := hb.1 (bnot_false h23)
        refine q_exit (id := 0) (by kernel_rfl) ?_
        refine q_seq (by kernel_rfl) ?_
        refine q_seq (by kernel_rfl) ?_
        refine q_region (by kernel_rfl) ?_
        refine Ops.regs 1 [(1, (Value.pointer (some ⟨b1, 0, none⟩))), (2, (Value.slice none 0 0)), (3, (i64 0)), (54, (Value.bool true))] (j := 1) (by kernel_rfl) (by kernel_rfl) ?_
        refine Ops.done (by kernel_rfl) ?_
        refine q_then (o := .tmp 54) (by kernel_rfl) rfl ?_
        refine q_seq (by kernel_rfl) ?_
        refine q_region (by kernel_rfl) ?_
        refine Ops.regs 2 [(1, (Value.pointer (some ⟨b1, 0, none⟩))), (2, (Value.slice none 0 0)), (3, (i64 3))] (j := 2) (by kernel_rfl) (by kernel_rfl) ?_
        refine Ops.done (by kernel_rfl) ?_
        refine q_ret (by kernel_rfl) ?_
        refine ⟨(Value.tuple #[(Value.slice none 0 0), (i64 3)]), retv_tmp2 rfl rfl rfl, ?_⟩
        exact ⟨_, _, _, rfl, K15, World.ownsRow_nil _ _ _ _, .inr ⟨fun hf => by exact hnp (hf.pre i), rfl, rfl⟩⟩
    · rw [h17]
      have p32 : ¬ (((i : Nat) : Int) < ((m.entries.length : Nat) : Int)) := of_decide_eq_false h17
      refine Ops.regs 3 [(1, (Value.pointer (some ⟨b1, 0, none⟩))), (2, (Value.slice none 0 0)), (3, (i64 0)), (4, (i64 ((size : Nat) : Int))), (5, (Value.bool bad)), (6, (i64 ((i : Nat) : Int))), (30, (Value.bool false))] (j := 9) (by kernel_rfl) (by kernel_rfl) ?_
      refine Ops.done (by kernel_rfl) ?_
      refine q_else (o := .tmp 30) (by kernel_rfl) rfl ?_
      refine q_exit (id := 0) (by kernel_rfl) ?_
      refine q_seq (by kernel_rfl) ?_
      refine q_seq (by kernel_rfl) ?_
      refine q_region (by kernel_rfl) ?_
      refine Ops.regs 1 [(1, (Value.pointer (some ⟨b1, 0, none⟩))), (2, (Value.slice none 0 0)), (3, (i64 0)), (54, (Value.bool bad))] (j := 1) (by kernel_rfl) (by kernel_rfl) ?_
      refine Ops.done (by kernel_rfl) ?_
      refine q_cond (o := .tmp 54) (b := bad) (by kernel_rfl) rfl (fun h33 => ?_) (fun h33 => ?_)
      · rw [h33]
        have p34 : bad = true := h33
        have hnp := hb.1 h33
        refine q_seq (by kernel_rfl) ?_
        refine q_region (by kernel_rfl) ?_
        refine Ops.regs 2 [(1, (Value.pointer (some ⟨b1, 0, none⟩))), (2, (Value.slice none 0 0)), (3, (i64 3))] (j := 2) (by kernel_rfl) (by kernel_rfl) ?_
        refine Ops.done (by kernel_rfl) ?_
        refine q_ret (by kernel_rfl) ?_
        refine ⟨(Value.tuple #[(Value.slice none 0 0), (i64 3)]), retv_tmp2 rfl rfl rfl, ?_⟩
        exact ⟨_, _, _, rfl, K15, World.ownsRow_nil _ _ _ _, .inr ⟨fun hf => by exact hnp (hf.pre i), rfl, rfl⟩⟩
      · rw [h33]
        have p35 : bad = false := h33
        have hp : m.Pre i := Classical.not_not.1 (fun h => by have h := hb.2 h; rw [h33] at h; cases h)
        have hp4 := hp.2.2.2
        have hp0 : i = 0 → sumc (m.entries.take i) = 0 := fun h => by rw [h]; rfl
        have hp1 := hp.1
        have hp2 := hp.2.1
        refine q_skip (by kernel_rfl) ?_
        refine q_seq (by kernel_rfl) ?_
        refine q_region (by kernel_rfl) ?_
        refine Ops.regs 1 [(1, (Value.pointer (some ⟨b1, 0, none⟩))), (2, (Value.slice none 0 0)), (3, (i64 0)), (55, (Value.pointer (some ⟨b1, 0, none⟩)))] (j := 1) (by kernel_rfl) (by kernel_rfl) ?_
        refine Ops.go (v := (i64 m.kind)) (by kernel_rfl) (Runs.load (t := 3) (a := ⟨b1, 0, none⟩) (by kernel_rfl) (H16.loads (by kernel_rfl))) (d := (some 56)) (by kernel_rfl) rfl ?_
        refine Ops.call (by kernel_rfl) (d := (some 57)) (by kernel_rfl) (RInt_calls _ (Value.slice none 0 0) [] m.kind (Rd.nil _ _) (by omega) (by (try simp only at *); (try simp only [List.length_append] at *); (try simp only [List.length_cons] at *); (try simp only [List.length_nil] at *); omega)) ?_
        rintro _ w38 ⟨v37, rfl, K39, hO40⟩
        have ob42 : ∀ i, (v37).ownBlock = some i → i ≠ b1 := fun i hi => by have := (World.ownsRow.lt hO40 i hi).1; have := H16.lt; omega
        have O41 : OwnB w38 w.heap.size _ v37 (iv m.kind) := own_base hO40 K15.size
        clear hO40
        have hL36 := iv_length_10 (n := m.kind) (by omega)
        refine ⟨_, _, rfl, rfl, ?_⟩
        have K43 := K15.trans K39 (U := none_) (fun i h1 h2 => h2) (fun i h1 h2 => by exact h2)
        clear K15
        have H44 := H16.keep K39 (fun h => h)
        clear H16
        clear K39
        refine Ops.regs 1 [(1, (Value.pointer (some ⟨b1, 0, none⟩))), (2, (Value.slice none 0 0)), (3, (i64 0)), (7, v37)] (j := 4) (by kernel_rfl) (by kernel_rfl) ?_
        refine Ops.done (by kernel_rfl) ?_
        refine q_seq (by kernel_rfl) ?_
        refine q_region (by kernel_rfl) ?_
        refine Ops.regs 2 [(1, (Value.pointer (some ⟨b1, 0, none⟩))), (2, (Value.slice none 0 0)), (3, (i64 0)), (7, v37), (58, v37), (59, (Value.pointer (some ⟨b1, 1, none⟩)))] (j := 2) (by kernel_rfl) (by kernel_rfl) ?_
        refine Ops.go (v := (i64 m.group)) (by kernel_rfl) (Runs.load (t := 3) (a := ⟨b1, 1, none⟩) (by kernel_rfl) (H44.loads (by kernel_rfl))) (d := (some 60)) (by kernel_rfl) rfl ?_
        refine Ops.call (by kernel_rfl) (d := (some 61)) (by kernel_rfl) (RInt_calls _ v37 (iv m.kind) m.group (OwnB.rd O41) (by omega) (by (try simp only at *); (try simp only [List.length_append] at *); (try simp only [List.length_cons] at *); (try simp only [List.length_nil] at *); omega)) ?_
        rintro _ w47 ⟨v46, rfl, K48, hO49⟩
        have ob51 : ∀ i, (v46).ownBlock = some i → i ≠ b1 := fun i hi => by have := (World.ownsRow.lt hO49 i hi).1; have := H44.lt; omega
        have oo52 : ∀ i, (v37).ownBlock = some i → (v46).ownBlock = some i → False := fun i hi hs => by have := (World.ownsRow.lt hO49 i hs).1; have := (World.ownsRow.lt O41 i hi).2; omega
        have oo53 : ∀ i, (v46).ownBlock = some i → (v37).ownBlock = some i → False := fun i hi hs => oo52 i hs hi
        have O50 := own_base hO49 K43.size
        clear hO49
        have hL45 := iv_length_10 (n := m.group) (by omega)
        refine ⟨_, _, rfl, rfl, ?_⟩
        have K54 := K43.trans K48 (U := none_) (fun i h1 h2 => h2) (fun i h1 h2 => by exact h2)
        clear K43
        have H55 := H44.keep K48 (fun h => h)
        clear H44
        have F56 := own_keep0 O41 K48
        clear O41
        clear K48
        refine Ops.regs 1 [(1, (Value.pointer (some ⟨b1, 0, none⟩))), (2, (Value.slice none 0 0)), (3, (i64 0)), (7, v46)] (j := 5) (by kernel_rfl) (by kernel_rfl) ?_
        refine Ops.done (by kernel_rfl) ?_
        refine q_seq (by kernel_rfl) ?_
        refine q_region (by kernel_rfl) ?_
        refine Ops.regs 2 [(1, (Value.pointer (some ⟨b1, 0, none⟩))), (2, (Value.slice none 0 0)), (3, (i64 0)), (7, v46), (62, v46), (63, (Value.pointer (some ⟨b1, 2, none⟩)))] (j := 2) (by kernel_rfl) (by kernel_rfl) ?_
        refine Ops.go (v := (i64 m.frm)) (by kernel_rfl) (Runs.load (t := 3) (a := ⟨b1, 2, none⟩) (by kernel_rfl) (H55.loads (by kernel_rfl))) (d := (some 64)) (by kernel_rfl) rfl ?_
        refine Ops.call (by kernel_rfl) (d := (some 65)) (by kernel_rfl) (RInt_calls _ v46 (iv m.kind ++ iv m.group) m.frm (OwnB.rd O50) (by omega) (by (try simp only at *); (try simp only [List.length_append] at *); (try simp only [List.length_cons] at *); (try simp only [List.length_nil] at *); omega)) ?_
        rintro _ w59 ⟨v58, rfl, K60, hO61⟩
        have ob63 : ∀ i, (v58).ownBlock = some i → i ≠ b1 := fun i hi => by have := (World.ownsRow.lt hO61 i hi).1; have := H55.lt; omega
        have oo64 : ∀ i, (v37).ownBlock = some i → (v58).ownBlock = some i → False := fun i hi hs => by have := (World.ownsRow.lt hO61 i hs).1; have := (World.ownsRow.lt F56 i hi).2; omega
        have oo65 : ∀ i, (v58).ownBlock = some i → (v37).ownBlock = some i → False := fun i hi hs => oo64 i hs hi
        have oo66 : ∀ i, (v46).ownBlock = some i → (v58).ownBlock = some i → False := fun i hi hs => by have := (World.ownsRow.lt hO61 i hs).1; have := (World.ownsRow.lt O50 i hi).2; omega
        have oo67 : ∀ i, (v58).ownBlock = some i → (v46).ownBlock = some i → False := fun i hi hs => oo66 i hs hi
        have O62 := own_base hO61 K54.size
        clear hO61
        have hL57 := iv_length_10 (n := m.frm) (by omega)
        refine ⟨_, _, rfl, rfl, ?_⟩
        have K68 := K54.trans K60 (U := none_) (fun i h1 h2 => h2) (fun i h1 h2 => by exact h2)
        clear K54
        have H69 := H55.keep K60 (fun h => h)
        clear H55
        have F70 := own_keep0 F56 K60
        clear F56
        have F71 := own_keep0 O50 K60
        clear O50
        clear K60
        refine Ops.regs 1 [(1, (Value.pointer (some ⟨b1, 0, none⟩))), (2, (Value.slice none 0 0)), (3, (i64 0)), (7, v58)] (j := 5) (by kernel_rfl) (by kernel_rfl) ?_
        refine Ops.done (by kernel_rfl) ?_
        refine q_seq (by kernel_rfl) ?_
        refine q_region (by kernel_rfl) ?_
        refine Ops.regs 2 [(1, (Value.pointer (some ⟨b1, 0, none⟩))), (2, (Value.slice none 0 0)), (3, (i64 0)), (7, v58), (66, v58), (67, (Value.pointer (some ⟨b1, 3, none⟩)))] (j := 2) (by kernel_rfl) (by kernel_rfl) ?_
        refine Ops.go (v := (i64 m.to)) (by kernel_rfl) (Runs.load (t := 3) (a := ⟨b1, 3, none⟩) (by kernel_rfl) (H69.loads (by kernel_rfl))) (d := (some 68)) (by kernel_rfl) rfl ?_
        refine Ops.call (by kernel_rfl) (d := (some 69)) (by kernel_rfl) (RInt_calls _ v58 (iv m.kind ++ iv m.group ++ iv m.frm) m.to (OwnB.rd O62) (by omega) (by (try simp only at *); (try simp only [List.length_append] at *); (try simp only [List.length_cons] at *); (try simp only [List.length_nil] at *); omega)) ?_
        rintro _ w74 ⟨v73, rfl, K75, hO76⟩
        have ob78 : ∀ i, (v73).ownBlock = some i → i ≠ b1 := fun i hi => by have := (World.ownsRow.lt hO76 i hi).1; have := H69.lt; omega
        have oo79 : ∀ i, (v37).ownBlock = some i → (v73).ownBlock = some i → False := fun i hi hs => by have := (World.ownsRow.lt hO76 i hs).1; have := (World.ownsRow.lt F70 i hi).2; omega
        have oo80 : ∀ i, (v73).ownBlock = some i → (v37).ownBlock = some i → False := fun i hi hs => oo79 i hs hi
        have oo81 : ∀ i, (v46).ownBlock = some i → (v73).ownBlock = some i → False := fun i hi hs => by have := (World.ownsRow.lt hO76 i hs).1; have := (World.ownsRow.lt F71 i hi).2; omega
        have oo82 : ∀ i, (v73).ownBlock = some i → (v46).ownBlock = some i → False := fun i hi hs => oo81 i hs hi
        have oo83 : ∀ i, (v58).ownBlock = some i → (v73).ownBlock = some i → False := fun i hi hs => by have := (World.ownsRow.lt hO76 i hs).1; have := (World.ownsRow.lt O62 i hi).2; omega
        have oo84 : ∀ i, (v73).ownBlock = some i → (v58).ownBlock = some i → False := fun i hi hs => oo83 i hs hi
        have O77 := own_base hO76 K68.size
        clear hO76
        have hL72 := iv_length_10 (n := m.to) (by omega)
        refine ⟨_, _, rfl, rfl, ?_⟩
        have K85 := K68.trans K75 (U := none_) (fun i h1 h2 => h2) (fun i h1 h2 => by exact h2)
        clear K68
        have H86 := H69.keep K75 (fun h => h)
        clear H69
        have F87 := own_keep0 F70 K75
        clear F70
        have F88 := own_keep0 F71 K75
        clear F71
        have F89 := own_keep0 O62 K75
        clear O62
        clear K75
        refine Ops.regs 1 [(1, (Value.pointer (some ⟨b1, 0, none⟩))), (2, (Value.slice none 0 0)), (3, (i64 0)), (7, v73)] (j := 5) (by kernel_rfl) (by kernel_rfl) ?_
        refine Ops.done (by kernel_rfl) ?_
        refine q_seq (by kernel_rfl) ?_
        refine q_region (by kernel_rfl) ?_
        refine Ops.regs 2 [(1, (Value.pointer (some ⟨b1, 0, none⟩))), (2, (Value.slice none 0 0)), (3, (i64 0)), (7, v73), (70, v73), (71, (Value.pointer (some ⟨b1, 4, none⟩)))] (j := 2) (by kernel_rfl) (by kernel_rfl) ?_
        refine Ops.go (v := (i64 m.term)) (by kernel_rfl) (Runs.load (t := 2) (a := ⟨b1, 4, none⟩) (by kernel_rfl) (H86.loads (by kernel_rfl))) (d := (some 72)) (by kernel_rfl) rfl ?_
        refine Ops.call (by kernel_rfl) (d := (some 73)) (by kernel_rfl) (RInt_calls _ v73 (iv m.kind ++ iv m.group ++ iv m.frm ++ iv m.to) m.term (OwnB.rd O77) (by omega) (by (try simp only at *); (try simp only [List.length_append] at *); (try simp only [List.length_cons] at *); (try simp only [List.length_nil] at *); omega)) ?_
        rintro _ w92 ⟨v91, rfl, K93, hO94⟩
        have ob96 : ∀ i, (v91).ownBlock = some i → i ≠ b1 := fun i hi => by have := (World.ownsRow.lt hO94 i hi).1; have := H86.lt; omega
        have oo97 : ∀ i, (v37).ownBlock = some i → (v91).ownBlock = some i → False := fun i hi hs => by have := (World.ownsRow.lt hO94 i hs).1; have := (World.ownsRow.lt F87 i hi).2; omega
        have oo98 : ∀ i, (v91).ownBlock = some i → (v37).ownBlock = some i → False := fun i hi hs => oo97 i hs hi
        have oo99 : ∀ i, (v46).ownBlock = some i → (v91).ownBlock = some i → False := fun i hi hs => by have := (World.ownsRow.lt hO94 i hs).1; have := (World.ownsRow.lt F88 i hi).2; omega
        have oo100 : ∀ i, (v91).ownBlock = some i → (v46).ownBlock = some i → False := fun i hi hs => oo99 i hs hi
        have oo101 : ∀ i, (v58).ownBlock = some i → (v91).ownBlock = some i → False := fun i hi hs => by have := (World.ownsRow.lt hO94 i hs).1; have := (World.ownsRow.lt F89 i hi).2; omega
        have oo102 : ∀ i, (v91).ownBlock = some i → (v58).ownBlock = some i → False := fun i hi hs => oo101 i hs hi
        have oo103 : ∀ i, (v73).ownBlock = some i → (v91).ownBlock = some i → False := fun i hi hs => by have := (World.ownsRow.lt hO94 i hs).1; have := (World.ownsRow.lt O77 i hi).2; omega
        have oo104 : ∀ i, (v91).ownBlock = some i → (v73).ownBlock = some i → False := fun i hi hs => oo103 i hs hi
        have O95 := own_base hO94 K85.size
        clear hO94
        have hL90 := iv_length_10 (n := m.term) (by omega)
        refine ⟨_, _, rfl, rfl, ?_⟩
        have K105 := K85.trans K93 (U := none_) (fun i h1 h2 => h2) (fun i h1 h2 => by exact h2)
        clear K85
        have H106 := H86.keep K93 (fun h => h)
        clear H86
        have F107 := own_keep0 F87 K93
        clear F87
        have F108 := own_keep0 F88 K93
        clear F88
        have F109 := own_keep0 F89 K93
        clear F89
        have F110 := own_keep0 O77 K93
        clear O77
        clear K93
        refine Ops.regs 1 [(1, (Value.pointer (some ⟨b1, 0, none⟩))), (2, (Value.slice none 0 0)), (3, (i64 0)), (7, v91)] (j := 5) (by kernel_rfl) (by kernel_rfl) ?_
        refine Ops.done (by kernel_rfl) ?_
        refine q_seq (by kernel_rfl) ?_
        refine q_region (by kernel_rfl) ?_
        refine Ops.regs 2 [(1, (Value.pointer (some ⟨b1, 0, none⟩))), (2, (Value.slice none 0 0)), (3, (i64 0)), (7, v91), (74, v91), (75, (Value.pointer (some ⟨b1, 5, none⟩)))] (j := 2) (by kernel_rfl) (by kernel_rfl) ?_
        refine Ops.go (v := (i64 m.index)) (by kernel_rfl) (Runs.load (t := 2) (a := ⟨b1, 5, none⟩) (by kernel_rfl) (H106.loads (by kernel_rfl))) (d := (some 76)) (by kernel_rfl) rfl ?_
        refine Ops.call (by kernel_rfl) (d := (some 77)) (by kernel_rfl) (RInt_calls _ v91 (iv m.kind ++ iv m.group ++ iv m.frm ++ iv m.to ++ iv m.term) m.index (OwnB.rd O95) (by omega) (by (try simp only at *); (try simp only [List.length_append] at *); (try simp only [List.length_cons] at *); (try simp only [List.length_nil] at *); omega)) ?_
        rintro _ w113 ⟨v112, rfl, K114, hO115⟩
        have ob117 : ∀ i, (v112).ownBlock = some i → i ≠ b1 := fun i hi => by have := (World.ownsRow.lt hO115 i hi).1; have := H106.lt; omega
        have oo118 : ∀ i, (v37).ownBlock = some i → (v112).ownBlock = some i → False := fun i hi hs => by have := (World.ownsRow.lt hO115 i hs).1; have := (World.ownsRow.lt F107 i hi).2; omega
        have oo119 : ∀ i, (v112).ownBlock = some i → (v37).ownBlock = some i → False := fun i hi hs => oo118 i hs hi
        have oo120 : ∀ i, (v46).ownBlock = some i → (v112).ownBlock = some i → False := fun i hi hs => by have := (World.ownsRow.lt hO115 i hs).1; have := (World.ownsRow.lt F108 i hi).2; omega
        have oo121 : ∀ i, (v112).ownBlock = some i → (v46).ownBlock = some i → False := fun i hi hs => oo120 i hs hi
        have oo122 : ∀ i, (v58).ownBlock = some i → (v112).ownBlock = some i → False := fun i hi hs => by have := (World.ownsRow.lt hO115 i hs).1; have := (World.ownsRow.lt F109 i hi).2; omega
        have oo123 : ∀ i, (v112).ownBlock = some i → (v58).ownBlock = some i → False := fun i hi hs => oo122 i hs hi
        have oo124 : ∀ i, (v73).ownBlock = some i → (v112).ownBlock = some i → False := fun i hi hs => by have := (World.ownsRow.lt hO115 i hs).1; have := (World.ownsRow.lt F110 i hi).2; omega
        have oo125 : ∀ i, (v112).ownBlock = some i → (v73).ownBlock = some i → False := fun i hi hs => oo124 i hs hi
        have oo126 : ∀ i, (v91).ownBlock = some i → (v112).ownBlock = some i → False := fun i hi hs => by have := (World.ownsRow.lt hO115 i hs).1; have := (World.ownsRow.lt O95 i hi).2; omega
        have oo127 : ∀ i, (v112).ownBlock = some i → (v91).ownBlock = some i → False := fun i hi hs => oo126 i hs hi
        have O116 := own_base hO115 K105.size
        clear hO115
        have hL111 := iv_length_10 (n := m.index) (by omega)
        refine ⟨_, _, rfl, rfl, ?_⟩
        have K128 := K105.trans K114 (U := none_) (fun i h1 h2 => h2) (fun i h1 h2 => by exact h2)
        clear K105
        have H129 := H106.keep K114 (fun h => h)
        clear H106
        have F130 := own_keep0 F107 K114
        clear F107
        have F131 := own_keep0 F108 K114
        clear F108
        have F132 := own_keep0 F109 K114
        clear F109
        have F133 := own_keep0 F110 K114
        clear F110
        have F134 := own_keep0 O95 K114
        clear O95
        clear K114
        refine Ops.regs 1 [(1, (Value.pointer (some ⟨b1, 0, none⟩))), (2, (Value.slice none 0 0)), (3, (i64 0)), (7, v112)] (j := 5) (by kernel_rfl) (by kernel_rfl) ?_
        refine Ops.done (by kernel_rfl) ?_
        refine q_seq (by kernel_rfl) ?_
        refine q_region (by kernel_rfl) ?_
        refine Ops.regs 2 [(1, (Value.pointer (some ⟨b1, 0, none⟩))), (2, (Value.slice none 0 0)), (3, (i64 0)), (7, v112), (78, v112), (79, (Value.pointer (some ⟨b1, 6, none⟩)))] (j := 2) (by kernel_rfl) (by kernel_rfl) ?_
        refine Ops.go (v := (i64 m.logTerm)) (by kernel_rfl) (Runs.load (t := 2) (a := ⟨b1, 6, none⟩) (by kernel_rfl) (H129.loads (by kernel_rfl))) (d := (some 80)) (by kernel_rfl) rfl ?_
        refine Ops.call (by kernel_rfl) (d := (some 81)) (by kernel_rfl) (RInt_calls _ v112 (iv m.kind ++ iv m.group ++ iv m.frm ++ iv m.to ++ iv m.term ++ iv m.index) m.logTerm (OwnB.rd O116) (by omega) (by (try simp only at *); (try simp only [List.length_append] at *); (try simp only [List.length_cons] at *); (try simp only [List.length_nil] at *); omega)) ?_
        rintro _ w137 ⟨v136, rfl, K138, hO139⟩
        have ob141 : ∀ i, (v136).ownBlock = some i → i ≠ b1 := fun i hi => by have := (World.ownsRow.lt hO139 i hi).1; have := H129.lt; omega
        have oo142 : ∀ i, (v37).ownBlock = some i → (v136).ownBlock = some i → False := fun i hi hs => by have := (World.ownsRow.lt hO139 i hs).1; have := (World.ownsRow.lt F130 i hi).2; omega
        have oo143 : ∀ i, (v136).ownBlock = some i → (v37).ownBlock = some i → False := fun i hi hs => oo142 i hs hi
        have oo144 : ∀ i, (v46).ownBlock = some i → (v136).ownBlock = some i → False := fun i hi hs => by have := (World.ownsRow.lt hO139 i hs).1; have := (World.ownsRow.lt F131 i hi).2; omega
        have oo145 : ∀ i, (v136).ownBlock = some i → (v46).ownBlock = some i → False := fun i hi hs => oo144 i hs hi
        have oo146 : ∀ i, (v58).ownBlock = some i → (v136).ownBlock = some i → False := fun i hi hs => by have := (World.ownsRow.lt hO139 i hs).1; have := (World.ownsRow.lt F132 i hi).2; omega
        have oo147 : ∀ i, (v136).ownBlock = some i → (v58).ownBlock = some i → False := fun i hi hs => oo146 i hs hi
        have oo148 : ∀ i, (v73).ownBlock = some i → (v136).ownBlock = some i → False := fun i hi hs => by have := (World.ownsRow.lt hO139 i hs).1; have := (World.ownsRow.lt F133 i hi).2; omega
        have oo149 : ∀ i, (v136).ownBlock = some i → (v73).ownBlock = some i → False := fun i hi hs => oo148 i hs hi
        have oo150 : ∀ i, (v91).ownBlock = some i → (v136).ownBlock = some i → False := fun i hi hs => by have := (World.ownsRow.lt hO139 i hs).1; have := (World.ownsRow.lt F134 i hi).2; omega
        have oo151 : ∀ i, (v136).ownBlock = some i → (v91).ownBlock = some i → False := fun i hi hs => oo150 i hs hi
        have oo152 : ∀ i, (v112).ownBlock = some i → (v136).ownBlock = some i → False := fun i hi hs => by have := (World.ownsRow.lt hO139 i hs).1; have := (World.ownsRow.lt O116 i hi).2; omega
        have oo153 : ∀ i, (v136).ownBlock = some i → (v112).ownBlock = some i → False := fun i hi hs => oo152 i hs hi
        have O140 := own_base hO139 K128.size
        clear hO139
        have hL135 := iv_length_10 (n := m.logTerm) (by omega)
        refine ⟨_, _, rfl, rfl, ?_⟩
        have K154 := K128.trans K138 (U := none_) (fun i h1 h2 => h2) (fun i h1 h2 => by exact h2)
        clear K128
        have H155 := H129.keep K138 (fun h => h)
        clear H129
        have F156 := own_keep0 F130 K138
        clear F130
        have F157 := own_keep0 F131 K138
        clear F131
        have F158 := own_keep0 F132 K138
        clear F132
        have F159 := own_keep0 F133 K138
        clear F133
        have F160 := own_keep0 F134 K138
        clear F134
        have F161 := own_keep0 O116 K138
        clear O116
        clear K138
        refine Ops.regs 1 [(1, (Value.pointer (some ⟨b1, 0, none⟩))), (2, (Value.slice none 0 0)), (3, (i64 0)), (7, v136)] (j := 5) (by kernel_rfl) (by kernel_rfl) ?_
        refine Ops.done (by kernel_rfl) ?_
        refine q_seq (by kernel_rfl) ?_
        refine q_region (by kernel_rfl) ?_
        refine Ops.regs 2 [(1, (Value.pointer (some ⟨b1, 0, none⟩))), (2, (Value.slice none 0 0)), (3, (i64 0)), (7, v136), (82, v136), (83, (Value.pointer (some ⟨b1, 7, none⟩)))] (j := 2) (by kernel_rfl) (by kernel_rfl) ?_
        refine Ops.go (v := (i64 m.commit)) (by kernel_rfl) (Runs.load (t := 2) (a := ⟨b1, 7, none⟩) (by kernel_rfl) (H155.loads (by kernel_rfl))) (d := (some 84)) (by kernel_rfl) rfl ?_
        refine Ops.call (by kernel_rfl) (d := (some 85)) (by kernel_rfl) (RInt_calls _ v136 (iv m.kind ++ iv m.group ++ iv m.frm ++ iv m.to ++ iv m.term ++ iv m.index ++ iv m.logTerm) m.commit (OwnB.rd O140) (by omega) (by (try simp only at *); (try simp only [List.length_append] at *); (try simp only [List.length_cons] at *); (try simp only [List.length_nil] at *); omega)) ?_
        rintro _ w164 ⟨v163, rfl, K165, hO166⟩
        have ob168 : ∀ i, (v163).ownBlock = some i → i ≠ b1 := fun i hi => by have := (World.ownsRow.lt hO166 i hi).1; have := H155.lt; omega
        have oo169 : ∀ i, (v37).ownBlock = some i → (v163).ownBlock = some i → False := fun i hi hs => by have := (World.ownsRow.lt hO166 i hs).1; have := (World.ownsRow.lt F156 i hi).2; omega
        have oo170 : ∀ i, (v163).ownBlock = some i → (v37).ownBlock = some i → False := fun i hi hs => oo169 i hs hi
        have oo171 : ∀ i, (v46).ownBlock = some i → (v163).ownBlock = some i → False := fun i hi hs => by have := (World.ownsRow.lt hO166 i hs).1; have := (World.ownsRow.lt F157 i hi).2; omega
        have oo172 : ∀ i, (v163).ownBlock = some i → (v46).ownBlock = some i → False := fun i hi hs => oo171 i hs hi
        have oo173 : ∀ i, (v58).ownBlock = some i → (v163).ownBlock = some i → False := fun i hi hs => by have := (World.ownsRow.lt hO166 i hs).1; have := (World.ownsRow.lt F158 i hi).2; omega
        have oo174 : ∀ i, (v163).ownBlock = some i → (v58).ownBlock = some i → False := fun i hi hs => oo173 i hs hi
        have oo175 : ∀ i, (v73).ownBlock = some i → (v163).ownBlock = some i → False := fun i hi hs => by have := (World.ownsRow.lt hO166 i hs).1; have := (World.ownsRow.lt F159 i hi).2; omega
        have oo176 : ∀ i, (v163).ownBlock = some i → (v73).ownBlock = some i → False := fun i hi hs => oo175 i hs hi
        have oo177 : ∀ i, (v91).ownBlock = some i → (v163).ownBlock = some i → False := fun i hi hs => by have := (World.ownsRow.lt hO166 i hs).1; have := (World.ownsRow.lt F160 i hi).2; omega
        have oo178 : ∀ i, (v163).ownBlock = some i → (v91).ownBlock = some i → False := fun i hi hs => oo177 i hs hi
        have oo179 : ∀ i, (v112).ownBlock = some i → (v163).ownBlock = some i → False := fun i hi hs => by have := (World.ownsRow.lt hO166 i hs).1; have := (World.ownsRow.lt F161 i hi).2; omega
        have oo180 : ∀ i, (v163).ownBlock = some i → (v112).ownBlock = some i → False := fun i hi hs => oo179 i hs hi
        have oo181 : ∀ i, (v136).ownBlock = some i → (v163).ownBlock = some i → False := fun i hi hs => by have := (World.ownsRow.lt hO166 i hs).1; have := (World.ownsRow.lt O140 i hi).2; omega
        have oo182 : ∀ i, (v163).ownBlock = some i → (v136).ownBlock = some i → False := fun i hi hs => oo181 i hs hi
        have O167 := own_base hO166 K154.size
        clear hO166
        have hL162 := iv_length_10 (n := m.commit) (by omega)
        refine ⟨_, _, rfl, rfl, ?_⟩
        have K183 := K154.trans K165 (U := none_) (fun i h1 h2 => h2) (fun i h1 h2 => by exact h2)
        clear K154
        have H184 := H155.keep K165 (fun h => h)
        clear H155
        have F185 := own_keep0 F156 K165
        clear F156
        have F186 := own_keep0 F157 K165
        clear F157
        have F187 := own_keep0 F158 K165
        clear F158
        have F188 := own_keep0 F159 K165
        clear F159
        have F189 := own_keep0 F160 K165
        clear F160
        have F190 := own_keep0 F161 K165
        clear F161
        have F191 := own_keep0 O140 K165
        clear O140
        clear K165
        refine Ops.regs 1 [(1, (Value.pointer (some ⟨b1, 0, none⟩))), (2, (Value.slice none 0 0)), (3, (i64 0)), (7, v163)] (j := 5) (by kernel_rfl) (by kernel_rfl) ?_
        refine Ops.done (by kernel_rfl) ?_
        refine q_seq (by kernel_rfl) ?_
        refine q_region (by kernel_rfl) ?_
        refine Ops.regs 2 [(1, (Value.pointer (some ⟨b1, 0, none⟩))), (2, (Value.slice none 0 0)), (3, (i64 0)), (7, v163), (86, v163), (87, (Value.pointer (some ⟨b1, 8, none⟩)))] (j := 2) (by kernel_rfl) (by kernel_rfl) ?_
        refine Ops.go (v := (Value.bool m.ok)) (by kernel_rfl) (Runs.load (t := 4) (a := ⟨b1, 8, none⟩) (by kernel_rfl) (H184.loads (by kernel_rfl))) (d := (some 88)) (by kernel_rfl) rfl ?_
        refine Ops.call (by kernel_rfl) (d := (some 89)) (by kernel_rfl) (RBoolW_calls _ v163 (iv m.kind ++ iv m.group ++ iv m.frm ++ iv m.to ++ iv m.term ++ iv m.index ++ iv m.logTerm ++ iv m.commit) m.ok (OwnB.rd O167)  (by (try simp only at *); (try simp only [List.length_append] at *); (try simp only [List.length_cons] at *); (try simp only [List.length_nil] at *); omega)) ?_
        rintro _ w194 ⟨v193, rfl, K195, hO196⟩
        have ob198 : ∀ i, (v193).ownBlock = some i → i ≠ b1 := fun i hi => by have := (World.ownsRow.lt hO196 i hi).1; have := H184.lt; omega
        have oo199 : ∀ i, (v37).ownBlock = some i → (v193).ownBlock = some i → False := fun i hi hs => by have := (World.ownsRow.lt hO196 i hs).1; have := (World.ownsRow.lt F185 i hi).2; omega
        have oo200 : ∀ i, (v193).ownBlock = some i → (v37).ownBlock = some i → False := fun i hi hs => oo199 i hs hi
        have oo201 : ∀ i, (v46).ownBlock = some i → (v193).ownBlock = some i → False := fun i hi hs => by have := (World.ownsRow.lt hO196 i hs).1; have := (World.ownsRow.lt F186 i hi).2; omega
        have oo202 : ∀ i, (v193).ownBlock = some i → (v46).ownBlock = some i → False := fun i hi hs => oo201 i hs hi
        have oo203 : ∀ i, (v58).ownBlock = some i → (v193).ownBlock = some i → False := fun i hi hs => by have := (World.ownsRow.lt hO196 i hs).1; have := (World.ownsRow.lt F187 i hi).2; omega
        have oo204 : ∀ i, (v193).ownBlock = some i → (v58).ownBlock = some i → False := fun i hi hs => oo203 i hs hi
        have oo205 : ∀ i, (v73).ownBlock = some i → (v193).ownBlock = some i → False := fun i hi hs => by have := (World.ownsRow.lt hO196 i hs).1; have := (World.ownsRow.lt F188 i hi).2; omega
        have oo206 : ∀ i, (v193).ownBlock = some i → (v73).ownBlock = some i → False := fun i hi hs => oo205 i hs hi
        have oo207 : ∀ i, (v91).ownBlock = some i → (v193).ownBlock = some i → False := fun i hi hs => by have := (World.ownsRow.lt hO196 i hs).1; have := (World.ownsRow.lt F189 i hi).2; omega
        have oo208 : ∀ i, (v193).ownBlock = some i → (v91).ownBlock = some i → False := fun i hi hs => oo207 i hs hi
        have oo209 : ∀ i, (v112).ownBlock = some i → (v193).ownBlock = some i → False := fun i hi hs => by have := (World.ownsRow.lt hO196 i hs).1; have := (World.ownsRow.lt F190 i hi).2; omega
        have oo210 : ∀ i, (v193).ownBlock = some i → (v112).ownBlock = some i → False := fun i hi hs => oo209 i hs hi
        have oo211 : ∀ i, (v136).ownBlock = some i → (v193).ownBlock = some i → False := fun i hi hs => by have := (World.ownsRow.lt hO196 i hs).1; have := (World.ownsRow.lt F191 i hi).2; omega
        have oo212 : ∀ i, (v193).ownBlock = some i → (v136).ownBlock = some i → False := fun i hi hs => oo211 i hs hi
        have oo213 : ∀ i, (v163).ownBlock = some i → (v193).ownBlock = some i → False := fun i hi hs => by have := (World.ownsRow.lt hO196 i hs).1; have := (World.ownsRow.lt O167 i hi).2; omega
        have oo214 : ∀ i, (v193).ownBlock = some i → (v163).ownBlock = some i → False := fun i hi hs => oo213 i hs hi
        have O197 := own_base hO196 K183.size
        clear hO196
        have hL192 := uvb_len m.ok
        refine ⟨_, _, rfl, rfl, ?_⟩
        have K215 := K183.trans K195 (U := none_) (fun i h1 h2 => h2) (fun i h1 h2 => by exact h2)
        clear K183
        have H216 := H184.keep K195 (fun h => h)
        clear H184
        have F217 := own_keep0 F185 K195
        clear F185
        have F218 := own_keep0 F186 K195
        clear F186
        have F219 := own_keep0 F187 K195
        clear F187
        have F220 := own_keep0 F188 K195
        clear F188
        have F221 := own_keep0 F189 K195
        clear F189
        have F222 := own_keep0 F190 K195
        clear F190
        have F223 := own_keep0 F191 K195
        clear F191
        have F224 := own_keep0 O167 K195
        clear O167
        clear K195
        refine Ops.regs 1 [(1, (Value.pointer (some ⟨b1, 0, none⟩))), (2, (Value.slice none 0 0)), (3, (i64 0)), (7, v193)] (j := 5) (by kernel_rfl) (by kernel_rfl) ?_
        refine Ops.done (by kernel_rfl) ?_
        refine q_seq (by kernel_rfl) ?_
        refine q_region (by kernel_rfl) ?_
        refine Ops.regs 2 [(1, (Value.pointer (some ⟨b1, 0, none⟩))), (2, (Value.slice none 0 0)), (3, (i64 0)), (7, v193), (90, v193), (91, (Value.pointer (some ⟨b1, 9, none⟩)))] (j := 2) (by kernel_rfl) (by kernel_rfl) ?_
        refine Ops.go (v := (Value.slice E m.entries.length ec)) (by kernel_rfl) (Runs.load (t := 47) (a := ⟨b1, 9, none⟩) (by kernel_rfl) (H216.loads (by kernel_rfl))) (d := (some 92)) (by kernel_rfl) rfl ?_
        refine Ops.regs 2 [(1, (Value.pointer (some ⟨b1, 0, none⟩))), (2, (Value.slice none 0 0)), (3, (i64 0)), (7, v193), (90, v193), (94, (Value.int IntKind.u64 (IntKind.u64.wrap (((m.entries.length : Nat) : Int)))))] (j := 5) (by kernel_rfl) (by kernel_rfl) ?_
        have e225 : IntKind.u64.wrap (((m.entries.length : Nat) : Int)) = ((m.entries.length : Nat) : Int) := wrap_u64 (by omega) (by omega)
        rw [e225]
        refine Ops.call (by kernel_rfl) (d := (some 95)) (by kernel_rfl) (RUint_calls _ v193 (iv m.kind ++ iv m.group ++ iv m.frm ++ iv m.to ++ iv m.term ++ iv m.index ++ iv m.logTerm ++ iv m.commit ++ uv (m.ok).toNat) m.entries.length (OwnB.rd O197) (by omega) (by (try simp only at *); (try simp only [List.length_append] at *); (try simp only [List.length_cons] at *); (try simp only [List.length_nil] at *); omega)) ?_
        rintro _ w228 ⟨v227, rfl, K229, hO230⟩
        have ob232 : ∀ i, (v227).ownBlock = some i → i ≠ b1 := fun i hi => by have := (World.ownsRow.lt hO230 i hi).1; have := H216.lt; omega
        have oo233 : ∀ i, (v37).ownBlock = some i → (v227).ownBlock = some i → False := fun i hi hs => by have := (World.ownsRow.lt hO230 i hs).1; have := (World.ownsRow.lt F217 i hi).2; omega
        have oo234 : ∀ i, (v227).ownBlock = some i → (v37).ownBlock = some i → False := fun i hi hs => oo233 i hs hi
        have oo235 : ∀ i, (v46).ownBlock = some i → (v227).ownBlock = some i → False := fun i hi hs => by have := (World.ownsRow.lt hO230 i hs).1; have := (World.ownsRow.lt F218 i hi).2; omega
        have oo236 : ∀ i, (v227).ownBlock = some i → (v46).ownBlock = some i → False := fun i hi hs => oo235 i hs hi
        have oo237 : ∀ i, (v58).ownBlock = some i → (v227).ownBlock = some i → False := fun i hi hs => by have := (World.ownsRow.lt hO230 i hs).1; have := (World.ownsRow.lt F219 i hi).2; omega
        have oo238 : ∀ i, (v227).ownBlock = some i → (v58).ownBlock = some i → False := fun i hi hs => oo237 i hs hi
        have oo239 : ∀ i, (v73).ownBlock = some i → (v227).ownBlock = some i → False := fun i hi hs => by have := (World.ownsRow.lt hO230 i hs).1; have := (World.ownsRow.lt F220 i hi).2; omega
        have oo240 : ∀ i, (v227).ownBlock = some i → (v73).ownBlock = some i → False := fun i hi hs => oo239 i hs hi
        have oo241 : ∀ i, (v91).ownBlock = some i → (v227).ownBlock = some i → False := fun i hi hs => by have := (World.ownsRow.lt hO230 i hs).1; have := (World.ownsRow.lt F221 i hi).2; omega
        have oo242 : ∀ i, (v227).ownBlock = some i → (v91).ownBlock = some i → False := fun i hi hs => oo241 i hs hi
        have oo243 : ∀ i, (v112).ownBlock = some i → (v227).ownBlock = some i → False := fun i hi hs => by have := (World.ownsRow.lt hO230 i hs).1; have := (World.ownsRow.lt F222 i hi).2; omega
        have oo244 : ∀ i, (v227).ownBlock = some i → (v112).ownBlock = some i → False := fun i hi hs => oo243 i hs hi
        have oo245 : ∀ i, (v136).ownBlock = some i → (v227).ownBlock = some i → False := fun i hi hs => by have := (World.ownsRow.lt hO230 i hs).1; have := (World.ownsRow.lt F223 i hi).2; omega
        have oo246 : ∀ i, (v227).ownBlock = some i → (v136).ownBlock = some i → False := fun i hi hs => oo245 i hs hi
        have oo247 : ∀ i, (v163).ownBlock = some i → (v227).ownBlock = some i → False := fun i hi hs => by have := (World.ownsRow.lt hO230 i hs).1; have := (World.ownsRow.lt F224 i hi).2; omega
        have oo248 : ∀ i, (v227).ownBlock = some i → (v163).ownBlock = some i → False := fun i hi hs => oo247 i hs hi
        have oo249 : ∀ i, (v193).ownBlock = some i → (v227).ownBlock = some i → False := fun i hi hs => by have := (World.ownsRow.lt hO230 i hs).1; have := (World.ownsRow.lt O197 i hi).2; omega
        have oo250 : ∀ i, (v227).ownBlock = some i → (v193).ownBlock = some i → False := fun i hi hs => oo249 i hs hi
        have O231 := own_base hO230 K215.size
        clear hO230
        have hL226 := uv_length_10 (n := m.entries.length) (by omega)
        refine ⟨_, _, rfl, rfl, ?_⟩
        have K251 := K215.trans K229 (U := none_) (fun i h1 h2 => h2) (fun i h1 h2 => by exact h2)
        clear K215
        have H252 := H216.keep K229 (fun h => h)
        clear H216
        have F253 := own_keep0 F217 K229
        clear F217
        have F254 := own_keep0 F218 K229
        clear F218
        have F255 := own_keep0 F219 K229
        clear F219
        have F256 := own_keep0 F220 K229
        clear F220
        have F257 := own_keep0 F221 K229
        clear F221
        have F258 := own_keep0 F222 K229
        clear F222
        have F259 := own_keep0 F223 K229
        clear F223
        have F260 := own_keep0 F224 K229
        clear F224
        have F261 := own_keep0 O197 K229
        clear O197
        clear K229
        refine Ops.regs 1 [(1, (Value.pointer (some ⟨b1, 0, none⟩))), (2, (Value.slice none 0 0)), (3, (i64 0)), (7, v227)] (j := 7) (by kernel_rfl) (by kernel_rfl) ?_
        refine Ops.done (by kernel_rfl) ?_
        refine q_seq (by kernel_rfl) ?_
        refine q_seq (by kernel_rfl) ?_
        refine q_region (by kernel_rfl) ?_
        refine Ops.regs 1 [(1, (Value.pointer (some ⟨b1, 0, none⟩))), (2, (Value.slice none 0 0)), (3, (i64 0)), (7, v227), (8, (i64 0))] (j := 1) (by kernel_rfl) (by kernel_rfl) ?_
        refine Ops.done (by kernel_rfl) ?_
        refine q_block (id := 2) (by kernel_rfl) ?_
        have hj : i = m.entries.length := by omega
        subst hj
        have hsA : sumc m.entries ≤ 1048576 := by rw [List.take_length] at hp4 hp0; omega
        have hcA : ∀ x ∈ m.entries, x.cmd.length ≤ 65536 := fun x hx => hp.2.2.1 x (by rw [List.take_length]; exact hx)
        have hev := entsv_le m.entries hm.ents hcA
        obtain ⟨A262, c263, hf264⟩ := RdB.form (OwnB.rd O231)
        subst hf264
        refine q_keep (R := [(1, (Value.pointer (some ⟨b1, 0, none⟩))), (2, (Value.slice none 0 0)), (3, (i64 0)), (7, (Value.slice A262 ((iv m.kind ++ iv m.group ++ iv m.frm ++ iv m.to ++ iv m.term ++ iv m.index ++ iv m.logTerm ++ iv m.commit ++ uv (m.ok).toNat ++ uv m.entries.length).length) c263)), (8, (i64 0))]) (by kernel_rfl) ?_
        refine q_loop (fun (gs : (Option Addr) × Nat × Nat × (List UInt8)) L (wx : World) => match gs with | (uA, uc, i, ys) => L = [(1, (Value.pointer (some ⟨b1, 0, none⟩))), (2, (Value.slice none 0 0)), (3, (i64 0)), (7, (Value.slice uA ys.length uc)), (8, (i64 ((i : Nat) : Int)))] ∧ OwnB wx w.heap.size 5 (Value.slice uA ys.length uc) ys ∧ (∀ i, ((Value.slice uA ys.length uc)).ownBlock = some i → i ≠ b1) ∧ ys = headv m ++ (uv m.entries.length ++ entsv (m.entries.take i)) ∧ i ≤ m.entries.length ∧ Keeps none_ w wx ∧ Has wx b1 (rowL [(i64 m.kind), (i64 m.group), (i64 m.frm), (i64 m.to), (i64 m.term), (i64 m.index), (i64 m.logTerm), (i64 m.commit), (Value.bool m.ok), (Value.slice E m.entries.length ec), (Value.slice D m.data.length dc)] 49)) (fun (gs : (Option Addr) × Nat × Nat × (List UInt8)) => match gs with | (uA, uc, i, ys) => m.entries.length - i) (A262, c263, 0, iv m.kind ++ iv m.group ++ iv m.frm ++ iv m.to ++ iv m.term ++ iv m.index ++ iv m.logTerm ++ iv m.commit ++ uv (m.ok).toNat ++ uv m.entries.length) (by kernel_rfl) ⟨rfl, O231, ob232, (by simp [headv, entsv]), Nat.zero_le _, K251, H252⟩ ?_
        clear H252 F253 F254 F255 F256 F257 F258 F259 F260 F261 O231 K251
        rintro ⟨uA, uc, i, ys⟩ _ w265 ⟨rfl, hOU, obUb1, hy, hi, K266, H267⟩
        have hyl := congrArg List.length hy
        simp only [List.length_append] at hyl
        have htl := entsv_take_le m.entries i
        have hul := uv_length_10 (n := m.entries.length) (by omega)
        refine q_seq (by kernel_rfl) ?_
        refine q_seq (by kernel_rfl) ?_
        refine q_region (by kernel_rfl) ?_
        refine Ops.regs 2 [(1, (Value.pointer (some ⟨b1, 0, none⟩))), (2, (Value.slice none 0 0)), (3, (i64 0)), (7, (Value.slice uA ys.length uc)), (8, (i64 ((i : Nat) : Int))), (96, (i64 ((i : Nat) : Int))), (97, (Value.pointer (some ⟨b1, 9, none⟩)))] (j := 2) (by kernel_rfl) (by kernel_rfl) ?_
        refine Ops.go (v := (Value.slice E m.entries.length ec)) (by kernel_rfl) (Runs.load (t := 47) (a := ⟨b1, 9, none⟩) (by kernel_rfl) (H267.loads (by kernel_rfl))) (d := (some 98)) (by kernel_rfl) rfl ?_
        refine Ops.regs 2 [(1, (Value.pointer (some ⟨b1, 0, none⟩))), (2, (Value.slice none 0 0)), (3, (i64 0)), (7, (Value.slice uA ys.length uc)), (8, (i64 ((i : Nat) : Int))), (100, (Value.bool (decide (((i : Nat) : Int) < ((m.entries.length : Nat) : Int)))))] (j := 5) (by kernel_rfl) (by kernel_rfl) ?_
        refine Ops.done (by kernel_rfl) ?_
        refine q_cond (o := .tmp 100) (b := (decide (((i : Nat) : Int) < ((m.entries.length : Nat) : Int)))) (by kernel_rfl) rfl (fun h268 => ?_) (fun h268 => ?_)
        · rw [h268]
          have p269 : ((i : Nat) : Int) < ((m.entries.length : Nat) : Int) := of_decide_eq_true h268
          obtain ⟨rb270, ro271, x, hA272, hx273⟩ := RdT.open (Rd.keep0 (by omega) hE K266) rfl (k := i) (by omega)
          have hXx := hx273
          have hBx := hC x (List.mem_of_getElem? hXx)
          have hBlx := hBx.slice
          unfold maxLen at hBlx
          have hxo := hm.ents x (List.mem_of_getElem? hXx)
          have hxl := hcl x (List.mem_of_getElem? hXx)
          have hsx := sumc_take hXx
          have hx6 := hp.2.2.1 x (by rw [List.take_of_length_le (by omega)]; exact List.mem_of_getElem? hXx)
          refine q_skip (by kernel_rfl) ?_
          refine q_seq (by kernel_rfl) ?_
          refine q_block (id := 3) (by kernel_rfl) ?_
          refine q_seq (by kernel_rfl) ?_
          refine q_region (by kernel_rfl) ?_
          refine Ops.regs 2 [(1, (Value.pointer (some ⟨b1, 0, none⟩))), (2, (Value.slice none 0 0)), (3, (i64 0)), (7, (Value.slice uA ys.length uc)), (8, (i64 ((i : Nat) : Int))), (100, (Value.bool true)), (103, (Value.slice uA ys.length uc)), (104, (Value.pointer (some ⟨b1, 9, none⟩)))] (j := 2) (by kernel_rfl) (by kernel_rfl) ?_
          refine Ops.go (v := (Value.slice E m.entries.length ec)) (by kernel_rfl) (Runs.load (t := 47) (a := ⟨b1, 9, none⟩) (by kernel_rfl) (H267.loads (by kernel_rfl))) (d := (some 105)) (by kernel_rfl) rfl ?_
          refine Ops.regs 1 [(1, (Value.pointer (some ⟨b1, 0, none⟩))), (2, (Value.slice none 0 0)), (3, (i64 0)), (7, (Value.slice uA ys.length uc)), (8, (i64 ((i : Nat) : Int))), (100, (Value.bool true)), (103, (Value.slice uA ys.length uc)), (105, (Value.slice E m.entries.length ec)), (106, (i64 ((i : Nat) : Int)))] (j := 4) (by kernel_rfl) (by kernel_rfl) ?_
          refine Ops.go (by kernel_rfl) (Runs.ixSliceE (k := IntKind.i64) (t := 47) (len := m.entries.length) (cap := ec) (s := 2) (off' := ro271 + i * 2) (i := ((i : Nat) : Int)) hA272 (by kernel_rfl) (by kernel_rfl) (by omega) (by omega) (by omega)) (d := (some 107)) (by kernel_rfl) rfl ?_
          refine Ops.regs 1 [(1, (Value.pointer (some ⟨b1, 0, none⟩))), (2, (Value.slice none 0 0)), (3, (i64 0)), (7, (Value.slice uA ys.length uc)), (8, (i64 ((i : Nat) : Int))), (100, (Value.bool true)), (103, (Value.slice uA ys.length uc)), (108, (Value.pointer (some ⟨rb270, ro271 + i * 2, none⟩)))] (j := 6) (by kernel_rfl) (by kernel_rfl) ?_
          refine Ops.go (v := (i64 x.term)) (by kernel_rfl) (Runs.load (t := 2) (a := ⟨rb270, ro271 + i * 2, none⟩) (by kernel_rfl) (RdT.ldf (f := EntP.cells) (x := x) (o := 0) EntP.two (Rd.keep0 (by omega) hE K266) (by kernel_rfl) hA272 hx273 rfl)) (d := (some 109)) (by kernel_rfl) rfl ?_
          refine Ops.call (by kernel_rfl) (d := (some 110)) (by kernel_rfl) (RInt_calls _ (Value.slice none 0 0) [] x.term (Rd.nil _ _) (by omega) (by (try simp only at *); (try simp only [List.length_append] at *); (try simp only [List.length_cons] at *); (try simp only [List.length_nil] at *); omega)) ?_
          rintro _ w276 ⟨v275, rfl, K277, hO278⟩
          have ob280 : ∀ i, (v275).ownBlock = some i → i ≠ b1 := fun i hi => by have := (World.ownsRow.lt hO278 i hi).1; have := H267.lt; omega
          have oo281 : ∀ i, ((Value.slice uA ys.length uc)).ownBlock = some i → (v275).ownBlock = some i → False := fun i hi hs => by have := (World.ownsRow.lt hO278 i hs).1; have := (World.ownsRow.lt hOU i hi).2; omega
          have oo282 : ∀ i, (v275).ownBlock = some i → ((Value.slice uA ys.length uc)).ownBlock = some i → False := fun i hi hs => oo281 i hs hi
          have O279 : OwnB w276 w.heap.size _ v275 (iv x.term) := own_base hO278 K266.size
          clear hO278
          have hL274 := iv_length_10 (n := x.term) (by omega)
          refine ⟨_, _, rfl, rfl, ?_⟩
          have K283 := K266.trans K277 (U := none_) (fun i h1 h2 => h2) (fun i h1 h2 => by exact h2)
          clear K266
          have H284 := H267.keep K277 (fun h => h)
          clear H267
          have F285 := own_keep0 hOU K277
          clear hOU
          clear K277
          obtain ⟨v286, w287, hr288, hO289, K290, hg291⟩ := OwnB.app2 (ty := 23) tyB F285 (OwnB.rd O279) (by (try simp only [List.length_append]); (try simp only [List.length_nil]); omega) K283.size
          obtain ⟨A293, c294, hf292⟩ := RdB.form (OwnB.rd hO289)
          subst hf292
          have ob295 : ∀ i, ((Value.slice A293 ((ys ++ iv x.term).length) c294)).ownBlock = some i → i ≠ b1 := fun i hi => by rcases hg291 i hi with h | h; (have := obUb1 i h; omega); (have := H284.lt; omega)
          have oo296 : ∀ i, (v275).ownBlock = some i → ((Value.slice A293 ((ys ++ iv x.term).length) c294)).ownBlock = some i → False := fun i hi hs => by rcases hg291 i hs with h | h; (exact oo282 i hi h); (have := (World.ownsRow.lt O279 i hi).2; omega)
          have oo297 : ∀ i, ((Value.slice A293 ((ys ++ iv x.term).length) c294)).ownBlock = some i → (v275).ownBlock = some i → False := fun i hi hs => oo296 i hs hi
          refine Ops.go (v := (Value.slice A293 ((ys ++ iv x.term).length) c294)) (by kernel_rfl) (Runs.append (ts := #[23, 23]) (ty := 23) (vs := [(Value.slice uA ys.length uc), v275]) (by kernel_rfl) hr288) (d := (some 111)) (by kernel_rfl) rfl ?_
          have K298 := K283.trans K290 (U := none_) (fun i h1 h2 => h2) (fun i h1 h2 => by have h2 : ((Value.slice uA ys.length uc)).ownBlock = some i := h2; exfalso; have := (World.ownsRow.lt F285 i h2).1; omega)
          clear K283
          have H299 := H284.keep K290 (by intro h; change ((Value.slice uA ys.length uc)).ownBlock = some b1 at h; have := obUb1 b1 h; omega)
          clear H284
          clear F285
          have F300 := own_keep O279 K290 (fun i hi hs => by have hs : ((Value.slice uA ys.length uc)).ownBlock = some i := hs; exact oo282 i hi hs)
          clear O279
          clear K290 hr288 hg291
          refine Ops.regs 1 [(1, (Value.pointer (some ⟨b1, 0, none⟩))), (2, (Value.slice none 0 0)), (3, (i64 0)), (7, (Value.slice A293 ((ys ++ iv x.term).length) c294)), (8, (i64 ((i : Nat) : Int))), (100, (Value.bool true))] (j := 10) (by kernel_rfl) (by kernel_rfl) ?_
          refine Ops.done (by kernel_rfl) ?_
          refine q_region (by kernel_rfl) ?_
          refine Ops.regs 2 [(1, (Value.pointer (some ⟨b1, 0, none⟩))), (2, (Value.slice none 0 0)), (3, (i64 0)), (7, (Value.slice A293 ((ys ++ iv x.term).length) c294)), (8, (i64 ((i : Nat) : Int))), (100, (Value.bool true)), (112, (Value.slice A293 ((ys ++ iv x.term).length) c294)), (113, (Value.pointer (some ⟨b1, 9, none⟩)))] (j := 2) (by kernel_rfl) (by kernel_rfl) ?_
          refine Ops.go (v := (Value.slice E m.entries.length ec)) (by kernel_rfl) (Runs.load (t := 47) (a := ⟨b1, 9, none⟩) (by kernel_rfl) (H299.loads (by kernel_rfl))) (d := (some 114)) (by kernel_rfl) rfl ?_
          refine Ops.regs 1 [(1, (Value.pointer (some ⟨b1, 0, none⟩))), (2, (Value.slice none 0 0)), (3, (i64 0)), (7, (Value.slice A293 ((ys ++ iv x.term).length) c294)), (8, (i64 ((i : Nat) : Int))), (100, (Value.bool true)), (112, (Value.slice A293 ((ys ++ iv x.term).length) c294)), (114, (Value.slice E m.entries.length ec)), (115, (i64 ((i : Nat) : Int)))] (j := 4) (by kernel_rfl) (by kernel_rfl) ?_
          refine Ops.go (by kernel_rfl) (Runs.ixSliceE (k := IntKind.i64) (t := 47) (len := m.entries.length) (cap := ec) (s := 2) (off' := ro271 + i * 2) (i := ((i : Nat) : Int)) hA272 (by kernel_rfl) (by kernel_rfl) (by omega) (by omega) (by omega)) (d := (some 116)) (by kernel_rfl) rfl ?_
          refine Ops.regs 1 [(1, (Value.pointer (some ⟨b1, 0, none⟩))), (2, (Value.slice none 0 0)), (3, (i64 0)), (7, (Value.slice A293 ((ys ++ iv x.term).length) c294)), (8, (i64 ((i : Nat) : Int))), (100, (Value.bool true)), (112, (Value.slice A293 ((ys ++ iv x.term).length) c294)), (117, (Value.pointer (some ⟨rb270, ro271 + i * 2 + 1, none⟩)))] (j := 6) (by kernel_rfl) (by kernel_rfl) ?_
          refine Ops.go (v := (Value.slice x.A x.cmd.length x.c)) (by kernel_rfl) (Runs.load (t := 23) (a := ⟨rb270, ro271 + i * 2 + 1, none⟩) (by kernel_rfl) (RdT.ldf (f := EntP.cells) (x := x) (o := 1) EntP.two (Rd.keep0 (by omega) hE K298) (by kernel_rfl) hA272 hx273 rfl)) (d := (some 118)) (by kernel_rfl) rfl ?_
          refine Ops.call (by kernel_rfl) (d := (some 119)) (by kernel_rfl) (RBytesW_calls _ (Value.slice none 0 0) [] x.A x.c x.cmd (Rd.nil _ _) (hBx.keep0 (by omega) K298) (by first | omega | decide) (by (try simp only at *); (try simp only [List.length_append] at *); (try simp only [List.length_cons] at *); (try simp only [List.length_nil] at *); omega)) ?_
          rintro _ w304 ⟨v303, rfl, K305, hO306⟩
          have ob308 : ∀ i, (v303).ownBlock = some i → i ≠ b1 := fun i hi => by have := (World.ownsRow.lt hO306 i hi).1; have := H299.lt; omega
          have oo309 : ∀ i, (v275).ownBlock = some i → (v303).ownBlock = some i → False := fun i hi hs => by have := (World.ownsRow.lt hO306 i hs).1; have := (World.ownsRow.lt F300 i hi).2; omega
          have oo310 : ∀ i, (v303).ownBlock = some i → (v275).ownBlock = some i → False := fun i hi hs => oo309 i hs hi
          have oo311 : ∀ i, ((Value.slice A293 ((ys ++ iv x.term).length) c294)).ownBlock = some i → (v303).ownBlock = some i → False := fun i hi hs => by have := (World.ownsRow.lt hO306 i hs).1; have := (World.ownsRow.lt hO289 i hi).2; omega
          have oo312 : ∀ i, (v303).ownBlock = some i → ((Value.slice A293 ((ys ++ iv x.term).length) c294)).ownBlock = some i → False := fun i hi hs => oo311 i hs hi
          have O307 : OwnB w304 w.heap.size _ v303 (tv x.cmd) := own_base hO306 K298.size
          clear hO306
          have hL301 := tv_ge x.cmd
          have hL302 := tv_le (s := x.cmd) (by first | omega | decide)
          refine ⟨_, _, rfl, rfl, ?_⟩
          have K313 := K298.trans K305 (U := none_) (fun i h1 h2 => h2) (fun i h1 h2 => by exact h2)
          clear K298
          have H314 := H299.keep K305 (fun h => h)
          clear H299
          have F315 := own_keep0 F300 K305
          clear F300
          have F316 := own_keep0 hO289 K305
          clear hO289
          clear K305
          obtain ⟨v317, w318, hr319, hO320, K321, hg322⟩ := OwnB.app2 (ty := 23) tyB F316 (OwnB.rd O307) (by (try simp only [List.length_append]); (try simp only [List.length_nil]); omega) K313.size
          obtain ⟨A324, c325, hf323⟩ := RdB.form (OwnB.rd hO320)
          subst hf323
          have ob326 : ∀ i, ((Value.slice A324 ((ys ++ iv x.term ++ tv x.cmd).length) c325)).ownBlock = some i → i ≠ b1 := fun i hi => by rcases hg322 i hi with h | h; (have := ob295 i h; omega); (have := H314.lt; omega)
          have oo327 : ∀ i, (v275).ownBlock = some i → ((Value.slice A324 ((ys ++ iv x.term ++ tv x.cmd).length) c325)).ownBlock = some i → False := fun i hi hs => by rcases hg322 i hs with h | h; (exact oo296 i hi h); (have := (World.ownsRow.lt F315 i hi).2; omega)
          have oo328 : ∀ i, ((Value.slice A324 ((ys ++ iv x.term ++ tv x.cmd).length) c325)).ownBlock = some i → (v275).ownBlock = some i → False := fun i hi hs => oo327 i hs hi
          have oo329 : ∀ i, (v303).ownBlock = some i → ((Value.slice A324 ((ys ++ iv x.term ++ tv x.cmd).length) c325)).ownBlock = some i → False := fun i hi hs => by rcases hg322 i hs with h | h; (exact oo312 i hi h); (have := (World.ownsRow.lt O307 i hi).2; omega)
          have oo330 : ∀ i, ((Value.slice A324 ((ys ++ iv x.term ++ tv x.cmd).length) c325)).ownBlock = some i → (v303).ownBlock = some i → False := fun i hi hs => oo329 i hs hi
          refine Ops.go (v := (Value.slice A324 ((ys ++ iv x.term ++ tv x.cmd).length) c325)) (by kernel_rfl) (Runs.append (ts := #[23, 23]) (ty := 23) (vs := [(Value.slice A293 ((ys ++ iv x.term).length) c294), v303]) (by kernel_rfl) hr319) (d := (some 120)) (by kernel_rfl) rfl ?_
          have K331 := K313.trans K321 (U := none_) (fun i h1 h2 => h2) (fun i h1 h2 => by have h2 : ((Value.slice A293 ((ys ++ iv x.term).length) c294)).ownBlock = some i := h2; exfalso; have := (World.ownsRow.lt F316 i h2).1; omega)
          clear K313
          have H332 := H314.keep K321 (by intro h; change ((Value.slice A293 ((ys ++ iv x.term).length) c294)).ownBlock = some b1 at h; have := ob295 b1 h; omega)
          clear H314
          have F333 := own_keep F315 K321 (fun i hi hs => by have hs : ((Value.slice A293 ((ys ++ iv x.term).length) c294)).ownBlock = some i := hs; exact oo296 i hi hs)
          clear F315
          clear F316
          have F334 := own_keep O307 K321 (fun i hi hs => by have hs : ((Value.slice A293 ((ys ++ iv x.term).length) c294)).ownBlock = some i := hs; exact oo312 i hi hs)
          clear O307
          clear K321 hr319 hg322
          refine Ops.regs 1 [(1, (Value.pointer (some ⟨b1, 0, none⟩))), (2, (Value.slice none 0 0)), (3, (i64 0)), (7, (Value.slice A324 ((ys ++ iv x.term ++ tv x.cmd).length) c325)), (8, (i64 ((i : Nat) : Int))), (100, (Value.bool true))] (j := 10) (by kernel_rfl) (by kernel_rfl) ?_
          refine Ops.done (by kernel_rfl) ?_
          refine q_region (by kernel_rfl) ?_
          refine Ops.regs 2 [(1, (Value.pointer (some ⟨b1, 0, none⟩))), (2, (Value.slice none 0 0)), (3, (i64 0)), (7, (Value.slice A324 ((ys ++ iv x.term ++ tv x.cmd).length) c325)), (8, (i64 ((i : Nat) : Int))), (100, (Value.bool true)), (102, (i64 (IntKind.i64.wrap (((i : Nat) : Int) + 1))))] (j := 2) (by kernel_rfl) (by kernel_rfl) ?_
          have e335 : IntKind.i64.wrap (((i : Nat) : Int) + 1) = ((i + 1 : Nat) : Int) := by rw [wrap_i64 (by omega) (by omega)]; omega
          rw [e335]
          clear e335
          refine Ops.regs 1 [(1, (Value.pointer (some ⟨b1, 0, none⟩))), (2, (Value.slice none 0 0)), (3, (i64 0)), (7, (Value.slice A324 ((ys ++ iv x.term ++ tv x.cmd).length) c325)), (8, (i64 ((i + 1 : Nat) : Int))), (100, (Value.bool true))] (j := 3) (by kernel_rfl) (by kernel_rfl) ?_
          refine Ops.keep (R := [(1, (Value.pointer (some ⟨b1, 0, none⟩))), (2, (Value.slice none 0 0)), (3, (i64 0)), (7, (Value.slice A324 ((ys ++ iv x.term ++ tv x.cmd).length) c325)), (8, (i64 ((i + 1 : Nat) : Int)))]) (by kernel_rfl) ?_
          refine Ops.done (by kernel_rfl) ?_
          exact ⟨(A324, c325, i + 1, ys ++ iv x.term ++ tv x.cmd), ⟨rfl, hO320, ob326, (by rw [hy, entsv_take hXx]; simp only [List.append_assoc]), (by omega), K331, H332⟩, (show m.entries.length - (i + 1) < m.entries.length - i from by omega)⟩
        · rw [h268]
          have p336 : ¬ (((i : Nat) : Int) < ((m.entries.length : Nat) : Int)) := of_decide_eq_false h268
          refine q_exit (id := 2) (by kernel_rfl) ?_
          refine q_seq (by kernel_rfl) ?_
          refine q_region (by kernel_rfl) ?_
          refine Ops.regs 2 [(2, (Value.slice none 0 0)), (3, (i64 0)), (7, (Value.slice uA ys.length uc)), (121, (Value.slice uA ys.length uc)), (122, (Value.pointer (some ⟨b1, 10, none⟩)))] (j := 2) (by kernel_rfl) (by kernel_rfl) ?_
          refine Ops.go (v := (Value.slice D m.data.length dc)) (by kernel_rfl) (Runs.load (t := 23) (a := ⟨b1, 10, none⟩) (by kernel_rfl) (H267.loads (by kernel_rfl))) (d := (some 123)) (by kernel_rfl) rfl ?_
          refine Ops.call (by kernel_rfl) (d := (some 124)) (by kernel_rfl) (RBytesW_calls _ (Value.slice none 0 0) [] D dc m.data (Rd.nil _ _) (hD.keep0 (by omega) K266) (by first | omega | decide) (by (try simp only at *); (try simp only [List.length_append] at *); (try simp only [List.length_cons] at *); (try simp only [List.length_nil] at *); omega)) ?_
          rintro _ w340 ⟨v339, rfl, K341, hO342⟩
          have ob344 : ∀ i, (v339).ownBlock = some i → i ≠ b1 := fun i hi => by have := (World.ownsRow.lt hO342 i hi).1; have := H267.lt; omega
          have oo345 : ∀ i, ((Value.slice uA ys.length uc)).ownBlock = some i → (v339).ownBlock = some i → False := fun i hi hs => by have := (World.ownsRow.lt hO342 i hs).1; have := (World.ownsRow.lt hOU i hi).2; omega
          have oo346 : ∀ i, (v339).ownBlock = some i → ((Value.slice uA ys.length uc)).ownBlock = some i → False := fun i hi hs => oo345 i hs hi
          have O343 : OwnB w340 w.heap.size _ v339 (tv m.data) := own_base hO342 K266.size
          clear hO342
          have hL337 := tv_ge m.data
          have hL338 := tv_le (s := m.data) (by first | omega | decide)
          refine ⟨_, _, rfl, rfl, ?_⟩
          have K347 := K266.trans K341 (U := none_) (fun i h1 h2 => h2) (fun i h1 h2 => by exact h2)
          clear K266
          have H348 := H267.keep K341 (fun h => h)
          clear H267
          have F349 := own_keep0 hOU K341
          clear hOU
          clear K341
          obtain ⟨v350, w351, hr352, hO353, K354, hg355⟩ := OwnB.app2 (ty := 23) tyB F349 (OwnB.rd O343) (by (try simp only [List.length_append]); (try simp only [List.length_nil]); omega) K347.size
          obtain ⟨A357, c358, hf356⟩ := RdB.form (OwnB.rd hO353)
          subst hf356
          have ob359 : ∀ i, ((Value.slice A357 ((ys ++ tv m.data).length) c358)).ownBlock = some i → i ≠ b1 := fun i hi => by rcases hg355 i hi with h | h; (have := obUb1 i h; omega); (have := H348.lt; omega)
          have oo360 : ∀ i, (v339).ownBlock = some i → ((Value.slice A357 ((ys ++ tv m.data).length) c358)).ownBlock = some i → False := fun i hi hs => by rcases hg355 i hs with h | h; (exact oo346 i hi h); (have := (World.ownsRow.lt O343 i hi).2; omega)
          have oo361 : ∀ i, ((Value.slice A357 ((ys ++ tv m.data).length) c358)).ownBlock = some i → (v339).ownBlock = some i → False := fun i hi hs => oo360 i hs hi
          refine Ops.go (v := (Value.slice A357 ((ys ++ tv m.data).length) c358)) (by kernel_rfl) (Runs.append (ts := #[23, 23]) (ty := 23) (vs := [(Value.slice uA ys.length uc), v339]) (by kernel_rfl) hr352) (d := (some 125)) (by kernel_rfl) rfl ?_
          have K362 := K347.trans K354 (U := none_) (fun i h1 h2 => h2) (fun i h1 h2 => by have h2 : ((Value.slice uA ys.length uc)).ownBlock = some i := h2; exfalso; have := (World.ownsRow.lt F349 i h2).1; omega)
          clear K347
          have H363 := H348.keep K354 (by intro h; change ((Value.slice uA ys.length uc)).ownBlock = some b1 at h; have := obUb1 b1 h; omega)
          clear H348
          clear F349
          have F364 := own_keep O343 K354 (fun i hi hs => by have hs : ((Value.slice uA ys.length uc)).ownBlock = some i := hs; exact oo346 i hi hs)
          clear O343
          clear K354 hr352 hg355
          refine Ops.regs 1 [(2, (Value.slice none 0 0)), (3, (i64 0)), (7, (Value.slice A357 ((ys ++ tv m.data).length) c358))] (j := 6) (by kernel_rfl) (by kernel_rfl) ?_
          refine Ops.done (by kernel_rfl) ?_
          refine q_seq (by kernel_rfl) ?_
          refine q_seq (by kernel_rfl) ?_
          refine q_region (by kernel_rfl) ?_
          refine Ops.regs 3 [(2, (Value.slice none 0 0)), (3, (i64 0)), (7, (Value.slice A357 ((ys ++ tv m.data).length) c358)), (128, (Value.bool (decide ((((ys ++ tv m.data).length : Nat) : Int) > 1048576))))] (j := 3) (by kernel_rfl) (by kernel_rfl) ?_
          refine Ops.done (by kernel_rfl) ?_
          refine q_cond (o := .tmp 128) (b := (decide ((((ys ++ tv m.data).length : Nat) : Int) > 1048576))) (by kernel_rfl) rfl (fun h365 => ?_) (fun h365 => ?_)
          · rw [h365]
            have p366 : (((ys ++ tv m.data).length : Nat) : Int) > 1048576 := of_decide_eq_true h365
            refine q_seq (by kernel_rfl) ?_
            refine q_region (by kernel_rfl) ?_
            refine Ops.regs 2 [(2, (Value.slice none 0 0)), (3, (i64 3)), (7, (Value.slice A357 ((ys ++ tv m.data).length) c358))] (j := 2) (by kernel_rfl) (by kernel_rfl) ?_
            refine Ops.done (by kernel_rfl) ?_
            refine q_ret (by kernel_rfl) ?_
            refine ⟨(Value.tuple #[(Value.slice none 0 0), (i64 3)]), retv_tmp2 rfl rfl rfl, ?_⟩
            exact ⟨_, _, _, rfl, K362, World.ownsRow_nil _ _ _ _, .inr ⟨fun hf => by have h3 := hf.size; have h5 := congrArg List.length (show _ = msgv m from (show ys ++ tv m.data = msgv m from by rw [hy, List.take_of_length_le (by omega)]; simp only [msgv, List.append_assoc])); omega, rfl, rfl⟩⟩
          · rw [h365]
            have p367 : ¬ ((((ys ++ tv m.data).length : Nat) : Int) > 1048576) := of_decide_eq_false h365
            refine q_skip (by kernel_rfl) ?_
            refine q_seq (by kernel_rfl) ?_
            refine q_region (by kernel_rfl) ?_
            refine Ops.regs 3 [(2, (Value.slice A357 ((ys ++ tv m.data).length) c358)), (3, (i64 0))] (j := 3) (by kernel_rfl) (by kernel_rfl) ?_
            refine Ops.done (by kernel_rfl) ?_
            refine q_ret (by kernel_rfl) ?_
            refine ⟨(Value.tuple #[(Value.slice A357 ((ys ++ tv m.data).length) c358), (i64 0)]), retv_tmp2 rfl rfl rfl, ?_⟩
            have hfin : ys ++ tv m.data = msgv m := by rw [hy, List.take_of_length_le (by omega)]; simp only [msgv, List.append_assoc]
            have hfl := congrArg List.length hfin
            refine ⟨_, _, _, rfl, K362, hO353, .inl ⟨?_, rfl, hfin⟩⟩
            exact MsgP.fits_of hp (by omega)
end Go.Proofs.Ytnepjfnkaigakaa
