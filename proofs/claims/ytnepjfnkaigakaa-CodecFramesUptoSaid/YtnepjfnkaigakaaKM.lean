/- frames one behind the other are told by an iterator -/
import Derived.Test.YtnepjfnkaigakaaProg
import Derived.Test.YtnepjfnkaigakaaLQ
import Derived.Test.YtnepjfnkaigakaaLP
import Derived.Test.YtnepjfnkaigakaaKJ
set_option linter.unusedVariables false
namespace Go.Proofs.Ytnepjfnkaigakaa
open Go.Q Go.RowKit

/-- What codec.Frames makes tells the frames that its bytes begin with, each in memory of its own. -/
theorem Frames1_tells (w0 : World) (m : Nat) (C : Nat) (A : Option Addr) (c : Nat) (bs : List UInt8) (T : Nat → Prop) (hC : Has w0 C (rowL [.slice A bs.length c] 23)) (hTC : ¬ T C)
    (hv : RdB w0 (.slice A bs.length c) bs) (hTv : ∀ b, (Value.slice A bs.length c).ownBlock = some b → ¬ T b) (hbl : bs.length ≤ 140737488351232) :
    Tells Try.prog m 62 [ptr C] (fun k x W => OwnB W w0.heap.size 5 x ((framesB bs).getD k [])) T (framesB bs).length w0 := by
  intro l J W hW hJ hY h0
  obtain ⟨Y, hYd⟩ : ∃ Y, Y = Value.func (.yield l) #[] #[] := ⟨_, rfl⟩
  rw [← hYd]
  refine qr_calls (m + 1) Try.func62 (by kernel_rfl) (by kernel_rfl) ?_
  have hCW := hC.keep hW hTC
  refine qr_seq (by kernel_rfl) ?_
  refine qr_region Open.wide (by kernel_rfl) (by kernel_rfl) ?_
  refine Ops.go (v := .slice A bs.length c) (by kernel_rfl) (Runs.load (t := 23) (a := ⟨C, 0, none⟩) (by kernel_rfl) (hCW.loads (by kernel_rfl))) (d := some 7) (by kernel_rfl) rfl ?_
  refine Ops.regs 1 [(0, Y), (3, .slice A bs.length c)] (j := 2) (by kernel_rfl) (by kernel_rfl) ?_
  refine Ops.done (by kernel_rfl) ?_
  refine qr_block (id := 0) (by kernel_rfl) ?_
  refine qr_loop (fun (s : Nat × Option Addr × Nat × List UInt8) ds L wx => ds = [] ∧ L = [(0, Y), (3, .slice s.2.1 s.2.2.2.length s.2.2.1)] ∧ J s.1 wx ∧ Keeps T w0 wx ∧ RdB w0 (.slice s.2.1 s.2.2.2.length s.2.2.1) s.2.2.2 ∧
    (∀ b, (Value.slice s.2.1 s.2.2.2.length s.2.2.1).ownBlock = some b → ¬ T b) ∧ s.2.2.2.length ≤ bs.length ∧ s.1 ≤ (framesB bs).length ∧ (framesB bs).drop s.1 = framesB s.2.2.2) (fun s => s.2.2.2.length) (0, A, c, bs) (by kernel_rfl)
    ⟨rfl, rfl, h0, hW, hv, hTv, Nat.le_refl _, Nat.zero_le _, rfl⟩ ?_
  rintro ⟨k, A', c', rest⟩ _ _ wx ⟨rfl, rfl, hj, hK, hR, hT, hle, hk, hD⟩
  simp only at hj hR hT hle hk hD ⊢
  have hcap := hR.slice
  refine qr_seq (by kernel_rfl) ?_
  refine qr_seq (by kernel_rfl) ?_
  refine qr_region Open.wide (by kernel_rfl) (by kernel_rfl) ?_
  refine Ops.regs 3 [(0, Y), (3, .slice A' rest.length c'), (10, .bool (decide (((rest.length : Nat) : Int) > 0)))] (j := 3) (by kernel_rfl) (by kernel_rfl) ?_
  refine Ops.done (by kernel_rfl) ?_
  refine qr_cond (o := .tmp 10) (b := decide (((rest.length : Nat) : Int) > 0)) (by kernel_rfl) rfl (fun h => ?_) (fun h => ?_)
  · have hpos := of_decide_eq_true h
    clear h
    refine qr_keep (R := [(0, Y), (3, .slice A' rest.length c')]) (by kernel_rfl) ?_
    refine qr_skip (by kernel_rfl) ?_
    refine qr_block (id := 1) (by kernel_rfl) ?_
    refine qr_seq (by kernel_rfl) ?_
    refine qr_region Open.wide (by kernel_rfl) (by kernel_rfl) ?_
    refine Ops.regs 1 [(0, Y), (3, .slice A' rest.length c'), (12, .slice A' rest.length c')] (j := 1) (by kernel_rfl) (by kernel_rfl) ?_
    refine Ops.call (by kernel_rfl) (d := some 13) (by kernel_rfl) (cut_calls wx A' c' rest (hR.keep (by omega) hK hT) (by omega)) ?_
    rintro _ w1 ⟨x, rfl, k1, hO⟩
    refine ⟨_, _, rfl, rfl, ?_⟩
    have hO2 := own_base (base' := w0.heap.size) hO hK.size
    have hj1 := hJ _ _ _ hj k1
    have hK1 := hK.trans k1 (U := T) (fun _ _ h => h) (fun _ _ h => h.elim)
    refine Ops.regs 7 [(0, Y), (3, .slice A' rest.length c'), (4, x), (5, i64 (((cutB rest).2.1 : Nat) : Int)), (6, i64 (cutB rest).2.2)] (j := 9) (by kernel_rfl) (by kernel_rfl) ?_
    refine Ops.done (by kernel_rfl) ?_
    refine qr_seq (by kernel_rfl) ?_
    refine qr_seq (by kernel_rfl) ?_
    refine qr_opsR (by kernel_rfl) ?_
    refine OpsR.regs Open.wide (by kernel_rfl) 3 [(0, Y), (3, .slice A' rest.length c'), (4, x), (5, i64 (((cutB rest).2.1 : Nat) : Int)), (19, .bool ((cutB rest).2.2 != 0))] (j := 3) (by kernel_rfl) (by kernel_rfl) ?_
    by_cases hw : (cutB rest).2.2 = 0
    · rw [show ((cutB rest).2.2 != 0) = false from by rw [hw]; rfl]
      have hf := frames_cons (bs := rest) (by omega) hw
      have hp := cut_pos hw
      have hg : (framesB bs).getD k [] = (cutB rest).1 := by
        have := congrArg (fun l => l.getD 0 []) hD
        rw [hf] at this
        simpa [List.getD] using this
      have hkl : k < (framesB bs).length := by
        have := congrArg List.length hD
        rw [hf, List.length_drop, List.length_cons] at this
        omega
      refine OpsR.regs Open.wide (by kernel_rfl) 2 [(0, Y), (3, .slice A' rest.length c'), (5, i64 (((cutB rest).2.1 : Nat) : Int)), (19, .bool false), (20, Y), (21, x)] (j := 5) (by kernel_rfl) (by kernel_rfl) ?_
      subst hYd
      refine OpsR.yield Open.wide (by kernel_rfl) (l := l) (args := #[x]) (at?_opn (by kernel_rfl)) ?_ (hY k x w1 hj1 hkl (by show OwnB w1 w0.heap.size 5 x ((framesB bs).getD k []); rw [hg]; exact hO2)) ?_
      · kernel_rfl
      rintro _ w2 ⟨rfl, hj2, k2⟩
      refine ⟨_, _, rfl, rfl, ?_⟩
      refine OpsR.regs Open.wide (by kernel_rfl) 2 [(0, .func (.yield l) #[] #[]), (3, .slice A' rest.length c'), (5, i64 (((cutB rest).2.1 : Nat) : Int)), (24, .bool false)] (j := 8) (by kernel_rfl) (by kernel_rfl) ?_
      refine OpsR.done (by kernel_rfl) ?_
      refine qr_else (o := .tmp 24) (by kernel_rfl) rfl ?_
      refine qr_skip (by kernel_rfl) ?_
      refine qr_region Open.wide (by kernel_rfl) (by kernel_rfl) ?_
      refine Ops.regs 2 [(0, .func (.yield l) #[] #[]), (25, .slice A' rest.length c'), (26, i64 (((cutB rest).2.1 : Nat) : Int))] (j := 2) (by kernel_rfl) (by kernel_rfl) ?_
      refine Ops.go (v := .slice (if c' = (cutB rest).2.1 then A' else A'.map (·.add ((cutB rest).2.1 * 1))) (rest.length - (cutB rest).2.1) (c' - (cutB rest).2.1)) (by kernel_rfl) (Runs.slice (by kernel_rfl) (run_cut (sz := 1) (t := 23) (A := A') (n := rest.length) (c := c') (cutB rest).2.1 rest.length c' (lo := some (i64 (((cutB rest).2.1 : Nat) : Int))) (hi := none) (mx := none) tyB.slice (by kernel_rfl) (.inr ⟨_, rfl⟩) (.inl ⟨rfl, rfl, rfl⟩) (.inl ⟨rfl, rfl⟩) (by omega) (by omega) (by omega))) (d := some 27) (by kernel_rfl) rfl ?_
      refine Ops.regs 1 [(0, .func (.yield l) #[] #[]), (3, .slice (if c' = (cutB rest).2.1 then A' else A'.map (·.add ((cutB rest).2.1 * 1))) (rest.length - (cutB rest).2.1) (c' - (cutB rest).2.1))] (j := 4) (by kernel_rfl) (by kernel_rfl) ?_
      refine Ops.done (by kernel_rfl) ?_
      have hdl : (rest.drop (cutB rest).2.1).length = rest.length - (cutB rest).2.1 := List.length_drop
      refine ⟨(k + 1, (if c' = (cutB rest).2.1 then A' else A'.map (·.add ((cutB rest).2.1 * 1))), c' - (cutB rest).2.1, rest.drop (cutB rest).2.1), ⟨rfl, by simp only [hdl], hj2, hK1.trans k2 (fun _ _ h => h) (fun _ _ h => h), ?_, cut_own hT, ?_, hkl, ?_⟩, ?_⟩
      · simp only [hdl]; exact RdB.drop hR hp.2
      · simp only [hdl]; omega
      · have := congrArg List.tail hD
        rw [hf, List.tail_drop] at this
        exact this
      · simp only [hdl]; omega
    · rw [show ((cutB rest).2.2 != 0) = true from bne_iff_ne.2 hw]
      have hf := frames_nil (bs := rest) (.inr hw)
      have hkl : (framesB bs).length = k := by
        have := congrArg List.length hD
        rw [hf, List.length_drop, List.length_nil] at this
        omega
      rw [hkl]
      refine OpsR.regs Open.wide (by kernel_rfl) 5 [(24, .bool true)] (j := 8) (by kernel_rfl) (by kernel_rfl) ?_
      refine OpsR.done (by kernel_rfl) ?_
      refine qr_then (o := .tmp 24) (by kernel_rfl) rfl ?_
      refine qr_ret (by kernel_rfl) ?_
      exact retR_none (retv_none rfl) ⟨⟨_, rfl⟩, hj1⟩
  · have hz := of_decide_eq_false h
    have hf := frames_nil (bs := rest) (.inl (by omega))
    have hkl : (framesB bs).length = k := by
      have := congrArg List.length hD
      rw [hf, List.length_drop, List.length_nil] at this
      omega
    rw [hkl]
    refine qr_exit (id := 0) (by kernel_rfl) ?_
    exact retR_norm (retv_none rfl) ⟨⟨_, rfl⟩, hj⟩
end Go.Proofs.Ytnepjfnkaigakaa
