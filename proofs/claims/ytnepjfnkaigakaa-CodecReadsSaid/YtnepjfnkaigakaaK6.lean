/- codec: copies of bytes, new readers -/
import Derived.Test.YtnepjfnkaigakaaProg
import Derived.Test.YtnepjfnkaigakaaK5
set_option linter.unusedVariables false
namespace Go.Proofs.Ytnepjfnkaigakaa
open Go.Q Go.RowKit

theorem Clone_nil (w : World) (n c : Nat) (bs : List UInt8) (hv : RdB w (.slice none n c) bs) : Calls Try.prog 57 ⟨[(Value.slice none n c)]⟩ w (fun e w' => ∃ v', e = .returned v' ∧ Keeps none_ w w' ∧ OwnB w' w.heap.size 5 v' (bs)) := by
  have K0 : Keeps none_ w w := Keeps.refl w
  have hz : [] = bs := hv.none_nil.symm
  refine q_calls Try.func57 (by kernel_rfl) (by kernel_rfl) ?_
  refine q_seq (by kernel_rfl) ?_
  refine q_region (by kernel_rfl) ?_
  refine Ops.regs 1 [(0, (Value.slice none n c)), (2, (Value.slice none 0 0))] (j := 1) (by kernel_rfl) (by kernel_rfl) ?_
  refine Ops.done (by kernel_rfl) ?_
  refine q_seq (by kernel_rfl) ?_
  refine q_seq (by kernel_rfl) ?_
  refine q_region (by kernel_rfl) ?_
  refine Ops.regs 2 [(0, (Value.slice none n c)), (2, (Value.slice none 0 0)), (4, (Value.bool true))] (j := 2) (by kernel_rfl) (by kernel_rfl) ?_
  refine Ops.done (by kernel_rfl) ?_
  refine q_then (o := .tmp 4) (by kernel_rfl) rfl ?_
  refine q_seq (by kernel_rfl) ?_
  refine q_region (by kernel_rfl) ?_
  refine Ops.regs 1 [(0, (Value.slice none n c)), (2, (Value.slice none 0 0))] (j := 1) (by kernel_rfl) (by kernel_rfl) ?_
  refine Ops.done (by kernel_rfl) ?_
  refine q_ret (by kernel_rfl) ?_
  refine ⟨(Value.slice none 0 0), retv_tmp rfl rfl, ?_⟩
  exact ⟨_, rfl, K0, hz ▸ World.ownsRow_nil _ _ _ _⟩

theorem Clone_some (w : World) (a : Addr) (c : Nat) (bs : List UInt8) (hv : RdB w (.slice (some a) bs.length c) bs) (hl : bs.length ≤ 140737488351232) : Calls Try.prog 57 ⟨[(Value.slice (some a) bs.length c)]⟩ w (fun e w' => ∃ v', e = .returned v' ∧ Keeps none_ w w' ∧ OwnB w' w.heap.size 5 v' (bs)) := by
  have K0 : Keeps none_ w w := Keeps.refl w
  refine q_calls Try.func57 (by kernel_rfl) (by kernel_rfl) ?_
  refine q_seq (by kernel_rfl) ?_
  refine q_region (by kernel_rfl) ?_
  refine Ops.regs 1 [(0, (Value.slice (some a) bs.length c)), (2, (Value.slice none 0 0))] (j := 1) (by kernel_rfl) (by kernel_rfl) ?_
  refine Ops.done (by kernel_rfl) ?_
  refine q_seq (by kernel_rfl) ?_
  refine q_seq (by kernel_rfl) ?_
  refine q_region (by kernel_rfl) ?_
  refine Ops.regs 2 [(0, (Value.slice (some a) bs.length c)), (2, (Value.slice none 0 0)), (4, (Value.bool false))] (j := 2) (by kernel_rfl) (by kernel_rfl) ?_
  refine Ops.done (by kernel_rfl) ?_
  refine q_else (o := .tmp 4) (by kernel_rfl) rfl ?_
  refine q_skip (by kernel_rfl) ?_
  refine q_seq (by kernel_rfl) ?_
  refine q_region (by kernel_rfl) ?_
  refine Ops.new (o := rowL [] 5) (V := fun b => (Value.slice (some ⟨b, 0, none⟩) 0 0)) (by kernel_rfl) (d := (some 5)) (by kernel_rfl) (fun b => rfl) (fun b1 w2 hb3 H4 K5 hs6 => ?_)
  have nb1 : w.heap.size ≤ b1 := by have := K0.size; omega
  have K7 := K0.trans K5 (U := none_) (fun i h1 h2 => h2) (fun i h1 h2 => by exact h2)
  clear K0
  clear K5 hs6
  refine Ops.regs 1 [(2, (Value.slice none 0 0)), (5, (Value.slice (some ⟨b1, 0, none⟩) 0 0)), (6, (Value.slice (some a) bs.length c))] (j := 2) (by kernel_rfl) (by kernel_rfl) ?_
  have hE8 : OwnB w2 w.heap.size 5 (Value.slice (some ⟨b1, 0, none⟩) 0 0) [] := own_empty H4 nb1
  obtain ⟨v9, w10, hr11, hO12, K13⟩ := OwnB.app (ty := 23) tyB hE8 (hv.keep0 (by omega) K7) (by (try simp only at *); (try simp only [List.length_append] at *); (try simp only [List.length_cons] at *); (try simp only [List.length_nil] at *); omega) K7.size
  refine Ops.go (v := v9) (by kernel_rfl) (Runs.append (ts := #[23, 23]) (ty := 23) (vs := [(Value.slice (some ⟨b1, 0, none⟩) 0 0), (Value.slice (some a) bs.length c)]) (by kernel_rfl) hr11) (d := (some 7)) (by kernel_rfl) rfl ?_
  have K14 := Keeps.own2 K7 K13
  clear H4 hE8 K7 hr11 K13
  refine Ops.regs 1 [(2, v9)] (j := 4) (by kernel_rfl) (by kernel_rfl) ?_
  refine Ops.done (by kernel_rfl) ?_
  refine q_ret (by kernel_rfl) ?_
  refine ⟨v9, retv_tmp rfl rfl, ?_⟩
  exact ⟨_, rfl, K14, hO12⟩

theorem Clone_calls (w : World) (v : Value) (bs : List UInt8) (hv : RdB w v bs) (hl : bs.length ≤ 140737488351232) : Calls Try.prog 57 ⟨[v]⟩ w (fun e w' => ∃ v', e = .returned v' ∧ Keeps none_ w w' ∧ OwnB w' w.heap.size 5 v' (bs)) := by
  obtain ⟨A, c, rfl⟩ := hv.form
  cases A with
  | none => exact Clone_nil w _ c bs hv
  | some a => exact Clone_some w a c bs hv hl

theorem NewReader_calls (w : World) (v : Value) (bs : List UInt8) (hv : RdB w v bs) (hl : bs.length ≤ 140737488351232) : Calls Try.prog 13 ⟨[v]⟩ w (fun e w' => ∃ b A c, e = .returned (.pointer (some ⟨b, 0, none⟩)) ∧ w.heap.size ≤ b ∧ Keeps none_ w w' ∧ Has w' b (rowL (rdrL A c ⟨bs, 0, 0⟩) 88) ∧ RdO w' A c bs ∧ (∀ g o s, A = some ⟨g, o, s⟩ → g ≠ b) ∧ (∀ g o s, A = some ⟨g, o, s⟩ → w.heap.size ≤ g)) := by
  have K0 : Keeps none_ w w := Keeps.refl w
  refine q_calls Try.func13 (by kernel_rfl) (by kernel_rfl) ?_
  refine q_seq (by kernel_rfl) ?_
  refine q_region (by kernel_rfl) ?_
  refine Ops.regs 1 [(0, v), (2, (Value.pointer none))] (j := 1) (by kernel_rfl) (by kernel_rfl) ?_
  refine Ops.done (by kernel_rfl) ?_
  refine q_seq (by kernel_rfl) ?_
  refine q_region (by kernel_rfl) ?_
  refine Ops.regs 1 [(2, (Value.pointer none)), (3, v)] (j := 1) (by kernel_rfl) (by kernel_rfl) ?_
  refine Ops.call (by kernel_rfl) (d := (some 4)) (by kernel_rfl) (Clone_calls _ v bs (hv.keep0 (by omega) K0) (by omega)) ?_
  rintro _ w2 ⟨v1, rfl, K3, hO4⟩
  obtain ⟨A5, c6, rfl, hr7, hge8⟩ := OwnB.rdo hO4
  have hszhr7 := K0.size
  clear hO4
  refine ⟨_, _, rfl, rfl, ?_⟩
  have K9 := K0.trans K3 (U := none_) (fun i h1 h2 => h2) (fun i h1 h2 => by exact h2)
  clear K0
  clear K3
  refine Ops.regs 1 [(2, (Value.pointer none)), (5, (agg [(Value.slice A5 bs.length c6), (i64 0), (i64 0)]))] (j := 3) (by kernel_rfl) (by kernel_rfl) ?_
  refine Ops.new (o := rowL [(Value.slice A5 bs.length c6), (i64 0), (i64 0)] 88) (V := fun b => (Value.pointer (some ⟨b, 0, none⟩))) (by kernel_rfl) (d := (some 6)) (by kernel_rfl) (fun b => rfl) (fun b10 w11 hb12 H13 K14 hs15 => ?_)
  have nb10 : w.heap.size ≤ b10 := by have := K9.size; omega
  have ob16 : ∀ i o s, A5 = some ⟨i, o, s⟩ → i ≠ b10 := fun i o s hi => by have := hr7.2 i o s hi; omega
  have K17 := K9.trans K14 (U := none_) (fun i h1 h2 => h2) (fun i h1 h2 => by exact h2)
  clear K9
  have F18 := RdO.keep0 hr7 K14
  clear hr7
  clear K14 hs15
  refine Ops.regs 1 [(2, (Value.pointer (some ⟨b10, 0, none⟩)))] (j := 5) (by kernel_rfl) (by kernel_rfl) ?_
  refine Ops.done (by kernel_rfl) ?_
  refine q_ret (by kernel_rfl) ?_
  refine ⟨(Value.pointer (some ⟨b10, 0, none⟩)), retv_tmp rfl rfl, ?_⟩
  exact ⟨b10, A5, c6, rfl, nb10, K17, H13, F18, ob16, fun g o s hi => by have := hge8 g o s hi; omega⟩
end Go.Proofs.Ytnepjfnkaigakaa
