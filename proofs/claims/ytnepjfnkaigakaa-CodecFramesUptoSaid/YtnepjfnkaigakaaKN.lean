/- what codec.Frames makes -/
import Derived.Test.YtnepjfnkaigakaaProg
import Derived.Test.YtnepjfnkaigakaaKM
set_option linter.unusedVariables false
namespace Go.Proofs.Ytnepjfnkaigakaa
open Go.Q Go.RowKit

theorem Frames_calls (w : World) (v : Value) (bs : List UInt8) (hv : RdB w v bs) (hbl : bs.length ≤ 140737488351232) : Calls Try.prog 20 ⟨[v]⟩ w (fun e w' => ∃ (C : Nat) (A : Option Addr) (c : Nat), e = .returned (.func (.func 62) ⟨[]⟩ ⟨[ptr C]⟩) ∧ Keeps none_ w w' ∧ Has w' C (rowL [.slice A bs.length c] 23) ∧ OwnB w' w.heap.size 5 (.slice A bs.length c) bs ∧ w.heap.size ≤ C) := by
  have K0 : Keeps none_ w w := Keeps.refl w
  refine q_calls Try.func20 (by kernel_rfl) (by kernel_rfl) ?_
  refine q_seq (by kernel_rfl) ?_
  refine q_region (by kernel_rfl) ?_
  refine Ops.regs 1 [(0, v), (2, Value.nilFunc)] (j := 1) (by kernel_rfl) (by kernel_rfl) ?_
  refine Ops.done (by kernel_rfl) ?_
  refine q_seq (by kernel_rfl) ?_
  refine q_region (by kernel_rfl) ?_
  refine Ops.regs 1 [(2, Value.nilFunc), (4, v)] (j := 1) (by kernel_rfl) (by kernel_rfl) ?_
  refine Ops.call (by kernel_rfl) (d := (some 5)) (by kernel_rfl) (Clone_calls _ v bs (hv.keep0 (by omega) K0) (by omega)) ?_
  rintro _ w2 ⟨v1, rfl, K3, hO4⟩
  obtain ⟨A6, c7, hf8⟩ := RdB.form (OwnB.rd hO4)
  subst hf8
  have O5 := own_base hO4 K0.size
  clear hO4
  refine ⟨_, _, rfl, rfl, ?_⟩
  replace K0 := K0.trans K3 (U := none_) (fun i h1 h2 => h2) (fun i h1 h2 => by exact h2)
  clear K3
  refine Ops.new (o := rowL [(Value.slice none 0 0)] 23) (V := fun b => (ptr b)) (by kernel_rfl) (d := (some 3)) (by kernel_rfl) (fun b => rfl) (fun b9 w10 hb11 H12 K13 hs14 => ?_)
  have nb9 : w.heap.size ≤ b9 := by have := K0.size; omega
  have ob15 : ∀ i, ((Value.slice A6 bs.length c7)).ownBlock = some i → i < b9 := fun i hi => by have := (World.ownsRow.lt O5 i hi).2; omega
  replace K0 := K0.trans K13 (U := none_) (fun i h1 h2 => h2) (fun i h1 h2 => by exact h2)
  replace O5 := own_keep0 O5 K13
  clear K13 hs14
  refine Ops.put (t := 23) (b := b9) (off := 0) (v := (Value.slice A6 bs.length c7)) (ys := [(Value.slice A6 bs.length c7)]) (by kernel_rfl) (by kernel_rfl) H12 (by kernel_rfl) (d := none) (by kernel_rfl) rfl (fun w16 H17 K18 => ?_)
  clear H12
  replace K0 := K0.trans K18 (U := none_) (fun i h1 h2 => h2) (fun i h1 h2 => by have h2 : i = b9 := h2; exfalso; omega)
  replace O5 := own_keep O5 K18 (fun i hi hs => by have hs : i = b9 := hs; have := ob15 i hi; omega)
  clear K18
  refine Ops.done (by kernel_rfl) ?_
  refine q_seq (by kernel_rfl) ?_
  refine q_region (by kernel_rfl) ?_
  refine Ops.regs 2 [(2, (Value.func (Fn.func 62) ⟨[]⟩ ⟨[(ptr b9)]⟩))] (j := 2) (by kernel_rfl) (by kernel_rfl) ?_
  refine Ops.done (by kernel_rfl) ?_
  refine q_ret (by kernel_rfl) ?_
  refine ⟨(Value.func (Fn.func 62) ⟨[]⟩ ⟨[(ptr b9)]⟩), retv_tmp rfl rfl, ?_⟩
  exact ⟨_, _, _, rfl, K0, H17, O5, nb9⟩
end Go.Proofs.Ytnepjfnkaigakaa
