/- codec: the reference's new readers -/
import Derived.Test.YtnepjfnkaigakaaProg
import Derived.Test.YtnepjfnkaigakaaK6
import Derived.Test.YtnepjfnkaigakaaK7
set_option linter.unusedVariables false
namespace Go.Proofs.Ytnepjfnkaigakaa
open Go.Q Go.RowKit

theorem Of_calls (w : World) (v : Value) (bs : List UInt8) (hv : RdB w v bs) (hl : bs.length ≤ 140737488351232) : Calls Try.prog 44 ⟨[v]⟩ w (fun e w' => ∃ b A c, e = .returned (.pointer (some ⟨b, 0, none⟩)) ∧ w.heap.size ≤ b ∧ Keeps none_ w w' ∧ Has w' b (rowL (rdrL A c ⟨bs, 0, 0⟩) 72) ∧ RdO w' A c bs ∧ (∀ g o s, A = some ⟨g, o, s⟩ → g ≠ b) ∧ (∀ g o s, A = some ⟨g, o, s⟩ → w.heap.size ≤ g)) := by
  have K0 : Keeps none_ w w := Keeps.refl w
  refine q_calls Try.func44 (by kernel_rfl) (by kernel_rfl) ?_
  refine q_seq (by kernel_rfl) ?_
  refine q_region (by kernel_rfl) ?_
  refine Ops.regs 1 [(0, v), (2, (Value.pointer none))] (j := 1) (by kernel_rfl) (by kernel_rfl) ?_
  refine Ops.done (by kernel_rfl) ?_
  refine q_seq (by kernel_rfl) ?_
  refine q_region (by kernel_rfl) ?_
  refine Ops.regs 1 [(0, v), (2, (Value.pointer none)), (4, (agg [(Value.slice none 0 0), (i64 0), (i64 0)]))] (j := 1) (by kernel_rfl) (by kernel_rfl) ?_
  refine Ops.new (o := rowL [(Value.slice none 0 0), (i64 0), (i64 0)] 72) (V := fun b => (Value.pointer (some ⟨b, 0, none⟩))) (by kernel_rfl) (d := (some 5)) (by kernel_rfl) (fun b => rfl) (fun b1 w2 hb3 H4 K5 hs6 => ?_)
  have nb1 : w.heap.size ≤ b1 := by have := K0.size; omega
  have K7 := K0.trans K5 (U := none_) (fun i h1 h2 => h2) (fun i h1 h2 => by exact h2)
  clear K0
  clear K5 hs6
  refine Ops.regs 1 [(0, v), (2, (Value.pointer none)), (3, (Value.pointer (some ⟨b1, 0, none⟩)))] (j := 3) (by kernel_rfl) (by kernel_rfl) ?_
  refine Ops.done (by kernel_rfl) ?_
  refine q_seq (by kernel_rfl) ?_
  refine q_region (by kernel_rfl) ?_
  refine Ops.regs 4 [(0, v), (2, (Value.pointer none)), (3, (Value.pointer (some ⟨b1, 0, none⟩))), (6, (Value.pointer (some ⟨b1, 0, none⟩))), (9, (Value.pointer (some ⟨b1, 0, none⟩)))] (j := 4) (by kernel_rfl) (by kernel_rfl) ?_
  refine Ops.go (v := (Value.slice none 0 0)) (by kernel_rfl) (Runs.load (t := 23) (a := ⟨b1, 0, none⟩) (by kernel_rfl) (H4.loads (by kernel_rfl))) (d := (some 10)) (by kernel_rfl) rfl ?_
  refine Ops.regs 1 [(2, (Value.pointer none)), (3, (Value.pointer (some ⟨b1, 0, none⟩))), (6, (Value.pointer (some ⟨b1, 0, none⟩))), (10, (Value.slice none 0 0)), (11, v)] (j := 6) (by kernel_rfl) (by kernel_rfl) ?_
  obtain ⟨v8, w9, hr10, hO11, hK12⟩ := OwnB.app (ty := 23) (base := w2.heap.size) tyB (show OwnB w2 w2.heap.size 5 (.slice none 0 0) [] from World.ownsRow_nil _ _ _ _) (hv.keep0 (by omega) K7) (by simp only [List.length_nil]; omega) (Nat.le_refl _)
  have hO13 : OwnB w9 _ 5 v8 bs := hO11
  obtain ⟨A14, c15, rfl, hrd16, hge17⟩ := OwnB.rdo hO13
  have K18 := Keeps.new hK12
  have hszK18 := K7.size
  have ob19 : ∀ i o s, A14 = some ⟨i, o, s⟩ → i ≠ b1 := fun i o s hi => by have := hge17 i o s hi; have := H4.lt; omega
  refine Ops.go (v := (Value.slice A14 bs.length c15)) (by kernel_rfl) (Runs.append (ts := #[23, 23]) (ty := 23) (vs := [(Value.slice none 0 0), v]) (by kernel_rfl) hr10) (d := (some 12)) (by kernel_rfl) rfl ?_
  have K20 := K7.trans K18 (U := none_) (fun i h1 h2 => h2) (fun i h1 h2 => by exact h2)
  clear K7
  have H21 := H4.keep K18 (fun h => h)
  clear H4
  clear K18 hr10 hK12 hO11 hO13
  refine Ops.regs 2 [(2, (Value.pointer none)), (3, (Value.pointer (some ⟨b1, 0, none⟩))), (12, (Value.slice A14 bs.length c15)), (14, (Value.pointer (some ⟨b1, 0, none⟩)))] (j := 9) (by kernel_rfl) (by kernel_rfl) ?_
  refine Ops.put (t := 23) (b := b1) (off := 0) (v := (Value.slice A14 bs.length c15)) (ys := [(Value.slice A14 bs.length c15), (i64 0), (i64 0)]) (by kernel_rfl) (by kernel_rfl) H21 (by kernel_rfl) (d := none) (by kernel_rfl) rfl (fun w22 H23 K24 => ?_)
  clear H21
  have K25 := K20.trans K24 (U := none_) (fun i h1 h2 => h2) (fun i h1 h2 => by have h2 : i = b1 := h2; exfalso; omega)
  clear K20
  have F26 := RdO.keep hrd16 K24 (fun i _ _ hi hs => by have hs : i = b1 := hs; have := ob19 i _ _ hi; omega)
  clear hrd16
  clear K24
  refine Ops.done (by kernel_rfl) ?_
  refine q_seq (by kernel_rfl) ?_
  refine q_region (by kernel_rfl) ?_
  refine Ops.regs 2 [(2, (Value.pointer (some ⟨b1, 0, none⟩)))] (j := 2) (by kernel_rfl) (by kernel_rfl) ?_
  refine Ops.done (by kernel_rfl) ?_
  refine q_ret (by kernel_rfl) ?_
  refine ⟨(Value.pointer (some ⟨b1, 0, none⟩)), retv_tmp rfl rfl, ?_⟩
  exact ⟨b1, A14, c15, rfl, nb1, K25, H23, F26, ob19, fun g o s hi => by have := hge17 g o s hi; omega⟩
end Go.Proofs.Ytnepjfnkaigakaa
