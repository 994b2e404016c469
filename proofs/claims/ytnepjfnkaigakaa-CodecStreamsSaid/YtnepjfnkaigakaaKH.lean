/- entries and messages compared -/
import Derived.Test.YtnepjfnkaigakaaProg
import Derived.Test.YtnepjfnkaigakaaLH
import Derived.Test.YtnepjfnkaigakaaKF
set_option linter.unusedVariables false
namespace Go.Proofs.Ytnepjfnkaigakaa
open Go.Q Go.RowKit

theorem SameEntries_calls (w : World) (A : Option Addr) (c : Nat) (la : List EntP) (B : Option Addr) (d : Nat) (lb : List EntP) (hA : RdE w (.slice A la.length c) la) (hB : RdE w (.slice B lb.length d) lb) (hCa : EntsIn w la) (hCb : EntsIn w lb) : Calls Try.prog 65 ⟨[(Value.slice A la.length c), (Value.slice B lb.length d)]⟩ w (fun e w' => ∃ t, e = .returned (.bool t) ∧ (t = true ↔ la.map EntP.key = lb.map EntP.key) ∧ Keeps none_ w w') := by
  have hla := (RdT.len EntP.two (by decide) hA).2
  unfold maxLen at hla
  have K0 : Keeps none_ w w := Keeps.refl w
  refine q_calls Try.func65 (by kernel_rfl) (by kernel_rfl) ?_
  refine q_seq (by kernel_rfl) ?_
  refine q_region (by kernel_rfl) ?_
  refine Ops.regs 1 [(0, (Value.slice A la.length c)), (1, (Value.slice B lb.length d)), (4, (Value.bool false))] (j := 1) (by kernel_rfl) (by kernel_rfl) ?_
  refine Ops.done (by kernel_rfl) ?_
  refine q_seq (by kernel_rfl) ?_
  refine q_seq (by kernel_rfl) ?_
  refine q_region (by kernel_rfl) ?_
  refine Ops.regs 5 [(0, (Value.slice A la.length c)), (1, (Value.slice B lb.length d)), (4, (Value.bool false)), (10, (Value.bool (((la.length : Nat) : Int) != ((lb.length : Nat) : Int))))] (j := 5) (by kernel_rfl) (by kernel_rfl) ?_
  refine Ops.done (by kernel_rfl) ?_
  refine q_cond (o := .tmp 10) (b := (((la.length : Nat) : Int) != ((lb.length : Nat) : Int))) (by kernel_rfl) rfl (fun h1 => ?_) (fun h1 => ?_)
  · rw [h1]
    have p2 : ¬ (((la.length : Nat) : Int) = ((lb.length : Nat) : Int)) := of_bne_t h1
    refine q_seq (by kernel_rfl) ?_
    refine q_region (by kernel_rfl) ?_
    refine Ops.regs 1 [(0, (Value.slice A la.length c)), (1, (Value.slice B lb.length d)), (4, (Value.bool false))] (j := 1) (by kernel_rfl) (by kernel_rfl) ?_
    refine Ops.done (by kernel_rfl) ?_
    refine q_ret (by kernel_rfl) ?_
    refine ⟨(Value.bool false), retv_tmp rfl rfl, ?_⟩
    exact ⟨false, rfl, ⟨fun h => (by cases h), fun h => by have := congrArg List.length h; simp only [List.length_map] at this; omega⟩, K0⟩
  · rw [h1]
    have p3 : ((la.length : Nat) : Int) = ((lb.length : Nat) : Int) := of_bne_f h1
    refine q_skip (by kernel_rfl) ?_
    refine q_seq (by kernel_rfl) ?_
    refine q_seq (by kernel_rfl) ?_
    refine q_region (by kernel_rfl) ?_
    refine Ops.regs 1 [(0, (Value.slice A la.length c)), (1, (Value.slice B lb.length d)), (4, (Value.bool false)), (5, (i64 0))] (j := 1) (by kernel_rfl) (by kernel_rfl) ?_
    refine Ops.done (by kernel_rfl) ?_
    refine q_block (id := 0) (by kernel_rfl) ?_
    refine q_keep (R := [(0, (Value.slice A la.length c)), (1, (Value.slice B lb.length d)), (5, (i64 0))]) (by kernel_rfl) ?_
    refine q_loop (fun (i : Nat) L (wx : World) => L = [(0, (Value.slice A la.length c)), (1, (Value.slice B lb.length d)), (5, (i64 ((i : Nat) : Int)))] ∧ (la.take i).map EntP.key = (lb.take i).map EntP.key ∧ i ≤ la.length ∧ Keeps none_ w wx) (fun (i : Nat) => la.length - i) 0 (by kernel_rfl) ⟨rfl, rfl, Nat.zero_le _, K0⟩ ?_
    clear K0
    rintro i _ w4 ⟨rfl, hE, hi, K5⟩
    refine q_seq (by kernel_rfl) ?_
    refine q_seq (by kernel_rfl) ?_
    refine q_region (by kernel_rfl) ?_
    refine Ops.regs 4 [(0, (Value.slice A la.length c)), (1, (Value.slice B lb.length d)), (5, (i64 ((i : Nat) : Int))), (14, (Value.bool (decide (((i : Nat) : Int) < ((la.length : Nat) : Int)))))] (j := 4) (by kernel_rfl) (by kernel_rfl) ?_
    refine Ops.done (by kernel_rfl) ?_
    refine q_cond (o := .tmp 14) (b := (decide (((i : Nat) : Int) < ((la.length : Nat) : Int)))) (by kernel_rfl) rfl (fun h6 => ?_) (fun h6 => ?_)
    · rw [h6]
      have p7 : ((i : Nat) : Int) < ((la.length : Nat) : Int) := of_decide_eq_true h6
      obtain ⟨rb8, ro9, x, hA10, hx11⟩ := RdT.open (Rd.keep0 (by omega) hA K5) rfl (k := i) (by omega)
      have hXx := hx11
      have hBx := hCa x (List.mem_of_getElem? hXx)
      have hBlx := hBx.slice
      unfold maxLen at hBlx
      obtain ⟨rb12, ro13, y, hA14, hx15⟩ := RdT.open (Rd.keep0 (by omega) hB K5) rfl (k := i) (by omega)
      have hXy := hx15
      have hBy := hCb y (List.mem_of_getElem? hXy)
      have hBly := hBy.slice
      unfold maxLen at hBly
      refine q_skip (by kernel_rfl) ?_
      refine q_seq (by kernel_rfl) ?_
      refine q_block (id := 1) (by kernel_rfl) ?_
      refine q_seq (by kernel_rfl) ?_
      refine q_draw (fun wz => Keeps none_ w4 wz) 26 (by kernel_rfl) (by kernel_rfl) (by kernel_rfl) (fun w16 K17 _ _ => ⟨K17, ?_⟩)
      have K18 := K5.trans K17 (U := none_) (fun i h1 h2 => h2) (fun i h1 h2 => by exact h2)
      clear K5
      refine Dr.strong (S' := (fun wz => Keeps none_ w16 wz)) (Keeps.refl w16) (fun wz hx => K17.trans hx (fun i _ h => h) (fun _ _ h => h)) ?_
      clear K17
      refine Dr.takes (fuel' := 24) (is' := [1, 0]) [0, 1] [(0, (Value.slice A la.length c)), (1, (Value.slice B lb.length d)), (5, (i64 ((i : Nat) : Int))), (14, (Value.bool true)), (17, (Value.slice A la.length c)), (18, (i64 ((i : Nat) : Int)))] (by kernel_rfl) rfl (by kernel_rfl) ?_
      refine Dr.take (i := 2) (v := (Value.pointer (some ⟨rb8, ro9 + i * 2, none⟩))) (by kernel_rfl) (by kernel_rfl) (fun wz hS => Runs.ixSliceE (k := IntKind.i64) (t := 47) (len := la.length) (cap := c) (s := 2) (off' := ro9 + i * 2) (i := ((i : Nat) : Int)) hA10 (by kernel_rfl) (by kernel_rfl) (by omega) (by omega) (by omega)) (d := (some 19)) (by kernel_rfl) rfl ?_
      refine Dr.takes (fuel' := 22) (is' := [3, 2, 1, 0]) [3] [(0, (Value.slice A la.length c)), (1, (Value.slice B lb.length d)), (5, (i64 ((i : Nat) : Int))), (14, (Value.bool true)), (20, (Value.pointer (some ⟨rb8, ro9 + i * 2, none⟩)))] (by kernel_rfl) rfl (by kernel_rfl) ?_
      refine Dr.take (i := 4) (v := (i64 x.term)) (by kernel_rfl) (by kernel_rfl) (fun wz hS => Runs.load (t := 2) (a := ⟨rb8, ro9 + i * 2, none⟩) (by kernel_rfl) (RdT.ldf (f := EntP.cells) (x := x) (o := 0) EntP.two (Rd.keep0 (by omega) hA (K18.trans hS (fun _ _ h => h) (fun _ _ h => h))) (by kernel_rfl) hA10 hx11 rfl)) (d := (some 21)) (by kernel_rfl) rfl ?_
      refine Dr.takes (fuel' := 19) (is' := [6, 5, 4, 3, 2, 1, 0]) [5, 6] [(0, (Value.slice A la.length c)), (1, (Value.slice B lb.length d)), (5, (i64 ((i : Nat) : Int))), (14, (Value.bool true)), (21, (i64 x.term)), (22, (Value.slice B lb.length d)), (23, (i64 ((i : Nat) : Int)))] (by kernel_rfl) rfl (by kernel_rfl) ?_
      refine Dr.take (i := 7) (v := (Value.pointer (some ⟨rb12, ro13 + i * 2, none⟩))) (by kernel_rfl) (by kernel_rfl) (fun wz hS => Runs.ixSliceE (k := IntKind.i64) (t := 47) (len := lb.length) (cap := d) (s := 2) (off' := ro13 + i * 2) (i := ((i : Nat) : Int)) hA14 (by kernel_rfl) (by kernel_rfl) (by omega) (by omega) (by omega)) (d := (some 24)) (by kernel_rfl) rfl ?_
      refine Dr.takes (fuel' := 17) (is' := [8, 7, 6, 5, 4, 3, 2, 1, 0]) [8] [(0, (Value.slice A la.length c)), (1, (Value.slice B lb.length d)), (5, (i64 ((i : Nat) : Int))), (14, (Value.bool true)), (21, (i64 x.term)), (25, (Value.pointer (some ⟨rb12, ro13 + i * 2, none⟩)))] (by kernel_rfl) rfl (by kernel_rfl) ?_
      refine Dr.take (i := 9) (v := (i64 y.term)) (by kernel_rfl) (by kernel_rfl) (fun wz hS => Runs.load (t := 2) (a := ⟨rb12, ro13 + i * 2, none⟩) (by kernel_rfl) (RdT.ldf (f := EntP.cells) (x := y) (o := 0) EntP.two (Rd.keep0 (by omega) hB (K18.trans hS (fun _ _ h => h) (fun _ _ h => h))) (by kernel_rfl) hA14 hx15 rfl)) (d := (some 26)) (by kernel_rfl) rfl ?_
      refine Dr.takes (fuel' := 14) (is' := [11, 10, 9, 8, 7, 6, 5, 4, 3, 2, 1, 0]) [10, 11] [(0, (Value.slice A la.length c)), (1, (Value.slice B lb.length d)), (5, (i64 ((i : Nat) : Int))), (14, (Value.bool true)), (28, (Value.bool (x.term != y.term)))] (by kernel_rfl) rfl (by kernel_rfl) ?_
      refine Dr.split (x.term != y.term) (fun h19 => ?_) (fun h19 => ?_)
      · rw [h19]
        have p20 : ¬ (x.term = y.term) := of_bne_t h19
        refine Dr.takes (fuel' := 0) (is' := [25, 24, 23, 22, 21, 20, 19, 18, 17, 16, 15, 14, 13, 12, 11, 10, 9, 8, 7, 6, 5, 4, 3, 2, 1, 0]) [12, 13, 14, 15, 16, 17, 18, 19, 20, 21, 22, 23, 24, 25] [(0, (Value.slice A la.length c)), (1, (Value.slice B lb.length d)), (5, (i64 ((i : Nat) : Int))), (14, (Value.bool true)), (42, (Value.bool true))] (by kernel_rfl) rfl (by kernel_rfl) ?_
        refine Dr.done (by kernel_rfl) ?_
        refine q_then (o := .tmp 42) (by kernel_rfl) rfl ?_
        refine q_seq (by kernel_rfl) ?_
        refine q_region (by kernel_rfl) ?_
        refine Ops.regs 1 [(0, (Value.slice A la.length c)), (1, (Value.slice B lb.length d)), (4, (Value.bool false)), (5, (i64 ((i : Nat) : Int))), (14, (Value.bool true)), (42, (Value.bool true))] (j := 1) (by kernel_rfl) (by kernel_rfl) ?_
        refine Ops.done (by kernel_rfl) ?_
        refine q_ret (by kernel_rfl) ?_
        refine ⟨(Value.bool false), retv_tmp rfl rfl, ?_⟩
        exact ⟨false, rfl, ⟨fun h => (by cases h), fun h => by have := key_at hXx; rw [h, key_at hXy] at this; have := Option.some.inj this; simp only [EntP.key, Prod.mk.injEq] at this; omega⟩, K18⟩
      · rw [h19]
        have p21 : x.term = y.term := of_bne_f h19
        refine Dr.takes (fuel' := 12) (is' := [13, 12, 11, 10, 9, 8, 7, 6, 5, 4, 3, 2, 1, 0]) [12, 13] [(0, (Value.slice A la.length c)), (1, (Value.slice B lb.length d)), (5, (i64 ((i : Nat) : Int))), (14, (Value.bool true)), (28, (Value.bool false)), (29, (Value.slice A la.length c)), (30, (i64 ((i : Nat) : Int)))] (by kernel_rfl) rfl (by kernel_rfl) ?_
        refine Dr.take (i := 14) (v := (Value.pointer (some ⟨rb8, ro9 + i * 2, none⟩))) (by kernel_rfl) (by kernel_rfl) (fun wz hS => Runs.ixSliceE (k := IntKind.i64) (t := 47) (len := la.length) (cap := c) (s := 2) (off' := ro9 + i * 2) (i := ((i : Nat) : Int)) hA10 (by kernel_rfl) (by kernel_rfl) (by omega) (by omega) (by omega)) (d := (some 31)) (by kernel_rfl) rfl ?_
        refine Dr.takes (fuel' := 10) (is' := [15, 14, 13, 12, 11, 10, 9, 8, 7, 6, 5, 4, 3, 2, 1, 0]) [15] [(0, (Value.slice A la.length c)), (1, (Value.slice B lb.length d)), (5, (i64 ((i : Nat) : Int))), (14, (Value.bool true)), (28, (Value.bool false)), (32, (Value.pointer (some ⟨rb8, ro9 + i * 2 + 1, none⟩)))] (by kernel_rfl) rfl (by kernel_rfl) ?_
        refine Dr.take (i := 16) (v := (Value.slice x.A x.cmd.length x.c)) (by kernel_rfl) (by kernel_rfl) (fun wz hS => Runs.load (t := 23) (a := ⟨rb8, ro9 + i * 2 + 1, none⟩) (by kernel_rfl) (RdT.ldf (f := EntP.cells) (x := x) (o := 1) EntP.two (Rd.keep0 (by omega) hA (K18.trans hS (fun _ _ h => h) (fun _ _ h => h))) (by kernel_rfl) hA10 hx11 rfl)) (d := (some 33)) (by kernel_rfl) rfl ?_
        refine Dr.take (i := 17) (v := (Value.string (str x.cmd))) (by kernel_rfl) (by kernel_rfl) (fun wz hS => Runs.b2s (s := 23) (d := 9) (e := 5) (by kernel_rfl) (by kernel_rfl) (by kernel_rfl) (Rd.keep0 (by omega) (hBx.keep0 (by omega) K18) hS)) (d := (some 34)) (by kernel_rfl) rfl ?_
        refine Dr.takes (fuel' := 6) (is' := [19, 18, 17, 16, 15, 14, 13, 12, 11, 10, 9, 8, 7, 6, 5, 4, 3, 2, 1, 0]) [18, 19] [(0, (Value.slice A la.length c)), (1, (Value.slice B lb.length d)), (5, (i64 ((i : Nat) : Int))), (14, (Value.bool true)), (28, (Value.bool false)), (34, (Value.string (str x.cmd))), (35, (Value.slice B lb.length d)), (36, (i64 ((i : Nat) : Int)))] (by kernel_rfl) rfl (by kernel_rfl) ?_
        refine Dr.take (i := 20) (v := (Value.pointer (some ⟨rb12, ro13 + i * 2, none⟩))) (by kernel_rfl) (by kernel_rfl) (fun wz hS => Runs.ixSliceE (k := IntKind.i64) (t := 47) (len := lb.length) (cap := d) (s := 2) (off' := ro13 + i * 2) (i := ((i : Nat) : Int)) hA14 (by kernel_rfl) (by kernel_rfl) (by omega) (by omega) (by omega)) (d := (some 37)) (by kernel_rfl) rfl ?_
        refine Dr.takes (fuel' := 4) (is' := [21, 20, 19, 18, 17, 16, 15, 14, 13, 12, 11, 10, 9, 8, 7, 6, 5, 4, 3, 2, 1, 0]) [21] [(0, (Value.slice A la.length c)), (1, (Value.slice B lb.length d)), (5, (i64 ((i : Nat) : Int))), (14, (Value.bool true)), (28, (Value.bool false)), (34, (Value.string (str x.cmd))), (38, (Value.pointer (some ⟨rb12, ro13 + i * 2 + 1, none⟩)))] (by kernel_rfl) rfl (by kernel_rfl) ?_
        refine Dr.take (i := 22) (v := (Value.slice y.A y.cmd.length y.c)) (by kernel_rfl) (by kernel_rfl) (fun wz hS => Runs.load (t := 23) (a := ⟨rb12, ro13 + i * 2 + 1, none⟩) (by kernel_rfl) (RdT.ldf (f := EntP.cells) (x := y) (o := 1) EntP.two (Rd.keep0 (by omega) hB (K18.trans hS (fun _ _ h => h) (fun _ _ h => h))) (by kernel_rfl) hA14 hx15 rfl)) (d := (some 39)) (by kernel_rfl) rfl ?_
        refine Dr.take (i := 23) (v := (Value.string (str y.cmd))) (by kernel_rfl) (by kernel_rfl) (fun wz hS => Runs.b2s (s := 23) (d := 9) (e := 5) (by kernel_rfl) (by kernel_rfl) (by kernel_rfl) (Rd.keep0 (by omega) (hBy.keep0 (by omega) K18) hS)) (d := (some 40)) (by kernel_rfl) rfl ?_
        refine Dr.take (i := 24) (v := (Value.bool (!(x.cmd == y.cmd)))) (by kernel_rfl) (by kernel_rfl) (fun wz hS => Runs.strne (t := 9) (by kernel_rfl)) (d := (some 41)) (by kernel_rfl) rfl ?_
        refine Dr.takes (fuel' := 0) (is' := [25, 24, 23, 22, 21, 20, 19, 18, 17, 16, 15, 14, 13, 12, 11, 10, 9, 8, 7, 6, 5, 4, 3, 2, 1, 0]) [25] [(0, (Value.slice A la.length c)), (1, (Value.slice B lb.length d)), (5, (i64 ((i : Nat) : Int))), (14, (Value.bool true)), (42, (Value.bool (!(x.cmd == y.cmd))))] (by kernel_rfl) rfl (by kernel_rfl) ?_
        refine Dr.done (by kernel_rfl) ?_
        refine q_cond (o := .tmp 42) (b := (!(x.cmd == y.cmd))) (by kernel_rfl) rfl (fun h22 => ?_) (fun h22 => ?_)
        · rw [h22]
          have p23 : (x.cmd == y.cmd) = false := (bnot_true h22)
          have hcmd := (bnot_true h22)
          refine q_seq (by kernel_rfl) ?_
          refine q_region (by kernel_rfl) ?_
          refine Ops.regs 1 [(0, (Value.slice A la.length c)), (1, (Value.slice B lb.length d)), (4, (Value.bool false)), (5, (i64 ((i : Nat) : Int))), (14, (Value.bool true)), (42, (Value.bool true))] (j := 1) (by kernel_rfl) (by kernel_rfl) ?_
          refine Ops.done (by kernel_rfl) ?_
          refine q_ret (by kernel_rfl) ?_
          refine ⟨(Value.bool false), retv_tmp rfl rfl, ?_⟩
          exact ⟨false, rfl, ⟨fun h => (by cases h), fun h => by have := key_at hXx; rw [h, key_at hXy] at this; have := Option.some.inj this; simp only [EntP.key, Prod.mk.injEq] at this; rw [this.2] at hcmd; simp at hcmd⟩, K18⟩
        · rw [h22]
          have p24 : (x.cmd == y.cmd) = true := (bnot_false h22)
          have hcmd := (bnot_false h22)
          refine q_skip (by kernel_rfl) ?_
          refine q_region (by kernel_rfl) ?_
          refine Ops.regs 2 [(0, (Value.slice A la.length c)), (1, (Value.slice B lb.length d)), (5, (i64 ((i : Nat) : Int))), (14, (Value.bool true)), (16, (i64 (IntKind.i64.wrap (((i : Nat) : Int) + 1)))), (42, (Value.bool false))] (j := 2) (by kernel_rfl) (by kernel_rfl) ?_
          have e25 : IntKind.i64.wrap (((i : Nat) : Int) + 1) = ((i + 1 : Nat) : Int) := by rw [wrap_i64 (by omega) (by omega)]; omega
          rw [e25]
          clear e25
          refine Ops.regs 1 [(0, (Value.slice A la.length c)), (1, (Value.slice B lb.length d)), (5, (i64 ((i + 1 : Nat) : Int))), (14, (Value.bool true)), (42, (Value.bool false))] (j := 3) (by kernel_rfl) (by kernel_rfl) ?_
          refine Ops.keep (R := [(0, (Value.slice A la.length c)), (1, (Value.slice B lb.length d)), (5, (i64 ((i + 1 : Nat) : Int)))]) (by kernel_rfl) ?_
          refine Ops.done (by kernel_rfl) ?_
          exact ⟨i + 1, ⟨rfl, (by rw [key_take hXx, key_take hXy, hE]; simp only [EntP.key]; rw [show x.term = y.term from by omega, eq_of_beq hcmd]), (by omega), K18⟩, (show la.length - (i + 1) < la.length - i from by omega)⟩
    · rw [h6]
      have p26 : ¬ (((i : Nat) : Int) < ((la.length : Nat) : Int)) := of_decide_eq_false h6
      refine q_exit (id := 0) (by kernel_rfl) ?_
      refine q_seq (by kernel_rfl) ?_
      refine q_region (by kernel_rfl) ?_
      refine Ops.regs 1 [(4, (Value.bool true))] (j := 1) (by kernel_rfl) (by kernel_rfl) ?_
      refine Ops.done (by kernel_rfl) ?_
      refine q_ret (by kernel_rfl) ?_
      refine ⟨(Value.bool true), retv_tmp rfl rfl, ?_⟩
      exact ⟨true, rfl, ⟨fun _ => by rw [List.take_of_length_le (by omega), List.take_of_length_le (by omega)] at hE; exact hE, fun _ => rfl⟩, K5⟩

set_option maxHeartbeats 4000000 in
theorem SameMsg_calls (w : World) (m : MsgP) (E : Option Addr) (ec : Nat) (D : Option Addr) (dc : Nat) (n : MsgP) (G : Option Addr) (gc : Nat) (F : Option Addr) (fc : Nat) (hE : RdE w (.slice E m.entries.length ec) m.entries) (hC : EntsIn w m.entries) (hD : RdB w (.slice D m.data.length dc) m.data) (hG : RdE w (.slice G n.entries.length gc) n.entries) (hCn : EntsIn w n.entries) (hF : RdB w (.slice F n.data.length fc) n.data) : Calls Try.prog 38 ⟨[(agg [(i64 m.kind), (i64 m.group), (i64 m.frm), (i64 m.to), (i64 m.term), (i64 m.index), (i64 m.logTerm), (i64 m.commit), (Value.bool m.ok), (Value.slice E m.entries.length ec), (Value.slice D m.data.length dc)]), (agg [(i64 n.kind), (i64 n.group), (i64 n.frm), (i64 n.to), (i64 n.term), (i64 n.index), (i64 n.logTerm), (i64 n.commit), (Value.bool n.ok), (Value.slice G n.entries.length gc), (Value.slice F n.data.length fc)])]⟩ w (fun e w' => ∃ t, e = .returned (.bool t) ∧ (t = true ↔ m.Same n) ∧ Keeps none_ w w') := by
  have K0 : Keeps none_ w w := Keeps.refl w
  refine q_calls Try.func38 (by kernel_rfl) (by kernel_rfl) ?_
  refine q_seq (by kernel_rfl) ?_
  refine q_region (by kernel_rfl) ?_
  refine Ops.new (o := rowL [(i64 m.kind), (i64 m.group), (i64 m.frm), (i64 m.to), (i64 m.term), (i64 m.index), (i64 m.logTerm), (i64 m.commit), (Value.bool m.ok), (Value.slice E m.entries.length ec), (Value.slice D m.data.length dc)] 49) (V := fun b => (Value.pointer (some ⟨b, 0, none⟩))) (by kernel_rfl) (d := (some 2)) (by kernel_rfl) (fun b => rfl) (fun b1 w2 hb3 H4 K5 hs6 => ?_)
  have nb1 : w.heap.size ≤ b1 := by have := K0.size; omega
  have K7 := K0.trans K5 (U := none_) (fun i h1 h2 => h2) (fun i h1 h2 => by exact h2)
  clear K0
  clear K5 hs6
  refine Ops.new (o := rowL [(i64 n.kind), (i64 n.group), (i64 n.frm), (i64 n.to), (i64 n.term), (i64 n.index), (i64 n.logTerm), (i64 n.commit), (Value.bool n.ok), (Value.slice G n.entries.length gc), (Value.slice F n.data.length fc)] 49) (V := fun b => (Value.pointer (some ⟨b, 0, none⟩))) (by kernel_rfl) (d := (some 3)) (by kernel_rfl) (fun b => rfl) (fun b8 w9 hb10 H11 K12 hs13 => ?_)
  have lb8 : b1 < b8 := by have := H4.lt; omega
  have nb8 : w.heap.size ≤ b8 := by have := K7.size; omega
  have K14 := K7.trans K12 (U := none_) (fun i h1 h2 => h2) (fun i h1 h2 => by exact h2)
  clear K7
  have H15 := H4.keep K12 (fun h => h)
  clear H4
  clear K12 hs13
  refine Ops.regs 1 [(2, (Value.pointer (some ⟨b1, 0, none⟩))), (3, (Value.pointer (some ⟨b8, 0, none⟩))), (4, (Value.bool false))] (j := 3) (by kernel_rfl) (by kernel_rfl) ?_
  refine Ops.done (by kernel_rfl) ?_
  refine q_seq (by kernel_rfl) ?_
  refine q_region (by kernel_rfl) ?_
  refine Ops.regs 1 [(2, (Value.pointer (some ⟨b1, 0, none⟩))), (3, (Value.pointer (some ⟨b8, 0, none⟩))), (4, (Value.bool false)), (5, (Value.pointer (some ⟨b1, 0, none⟩)))] (j := 1) (by kernel_rfl) (by kernel_rfl) ?_
  refine Ops.go (v := (i64 m.kind)) (by kernel_rfl) (Runs.load (t := 3) (a := ⟨b1, 0, none⟩) (by kernel_rfl) (H15.loads (by kernel_rfl))) (d := (some 6)) (by kernel_rfl) rfl ?_
  refine Ops.regs 1 [(2, (Value.pointer (some ⟨b1, 0, none⟩))), (3, (Value.pointer (some ⟨b8, 0, none⟩))), (4, (Value.bool false)), (6, (i64 m.kind)), (7, (Value.pointer (some ⟨b8, 0, none⟩)))] (j := 3) (by kernel_rfl) (by kernel_rfl) ?_
  refine Ops.go (v := (i64 n.kind)) (by kernel_rfl) (Runs.load (t := 3) (a := ⟨b8, 0, none⟩) (by kernel_rfl) (H11.loads (by kernel_rfl))) (d := (some 8)) (by kernel_rfl) rfl ?_
  refine Ops.regs 2 [(2, (Value.pointer (some ⟨b1, 0, none⟩))), (3, (Value.pointer (some ⟨b8, 0, none⟩))), (4, (Value.bool false)), (10, (Value.bool (m.kind == n.kind)))] (j := 6) (by kernel_rfl) (by kernel_rfl) ?_
  refine Ops.split (m.kind == n.kind) (fun h16 => ?_) (fun h16 => ?_)
  · rw [h16]
    have p17 : m.kind = n.kind := of_beq_t h16
    refine Ops.regs 1 [(2, (Value.pointer (some ⟨b1, 0, none⟩))), (3, (Value.pointer (some ⟨b8, 0, none⟩))), (4, (Value.bool false)), (10, (Value.bool true)), (11, (Value.pointer (some ⟨b1, 1, none⟩)))] (j := 7) (by kernel_rfl) (by kernel_rfl) ?_
    refine Ops.go (v := (i64 m.group)) (by kernel_rfl) (Runs.load (t := 3) (a := ⟨b1, 1, none⟩) (by kernel_rfl) (H15.loads (by kernel_rfl))) (d := (some 12)) (by kernel_rfl) rfl ?_
    refine Ops.regs 1 [(2, (Value.pointer (some ⟨b1, 0, none⟩))), (3, (Value.pointer (some ⟨b8, 0, none⟩))), (4, (Value.bool false)), (10, (Value.bool true)), (12, (i64 m.group)), (13, (Value.pointer (some ⟨b8, 1, none⟩)))] (j := 9) (by kernel_rfl) (by kernel_rfl) ?_
    refine Ops.go (v := (i64 n.group)) (by kernel_rfl) (Runs.load (t := 3) (a := ⟨b8, 1, none⟩) (by kernel_rfl) (H11.loads (by kernel_rfl))) (d := (some 14)) (by kernel_rfl) rfl ?_
    refine Ops.regs 3 [(2, (Value.pointer (some ⟨b1, 0, none⟩))), (3, (Value.pointer (some ⟨b8, 0, none⟩))), (4, (Value.bool false)), (17, (Value.bool (m.group == n.group)))] (j := 13) (by kernel_rfl) (by kernel_rfl) ?_
    refine Ops.split (m.group == n.group) (fun h18 => ?_) (fun h18 => ?_)
    · rw [h18]
      have p19 : m.group = n.group := of_beq_t h18
      refine Ops.regs 1 [(2, (Value.pointer (some ⟨b1, 0, none⟩))), (3, (Value.pointer (some ⟨b8, 0, none⟩))), (4, (Value.bool false)), (17, (Value.bool true)), (18, (Value.pointer (some ⟨b1, 2, none⟩)))] (j := 14) (by kernel_rfl) (by kernel_rfl) ?_
      refine Ops.go (v := (i64 m.frm)) (by kernel_rfl) (Runs.load (t := 3) (a := ⟨b1, 2, none⟩) (by kernel_rfl) (H15.loads (by kernel_rfl))) (d := (some 19)) (by kernel_rfl) rfl ?_
      refine Ops.regs 1 [(2, (Value.pointer (some ⟨b1, 0, none⟩))), (3, (Value.pointer (some ⟨b8, 0, none⟩))), (4, (Value.bool false)), (17, (Value.bool true)), (19, (i64 m.frm)), (20, (Value.pointer (some ⟨b8, 2, none⟩)))] (j := 16) (by kernel_rfl) (by kernel_rfl) ?_
      refine Ops.go (v := (i64 n.frm)) (by kernel_rfl) (Runs.load (t := 3) (a := ⟨b8, 2, none⟩) (by kernel_rfl) (H11.loads (by kernel_rfl))) (d := (some 21)) (by kernel_rfl) rfl ?_
      refine Ops.regs 3 [(2, (Value.pointer (some ⟨b1, 0, none⟩))), (3, (Value.pointer (some ⟨b8, 0, none⟩))), (4, (Value.bool false)), (24, (Value.bool (m.frm == n.frm)))] (j := 20) (by kernel_rfl) (by kernel_rfl) ?_
      refine Ops.split (m.frm == n.frm) (fun h20 => ?_) (fun h20 => ?_)
      · rw [h20]
        have p21 : m.frm = n.frm := of_beq_t h20
        refine Ops.regs 1 [(2, (Value.pointer (some ⟨b1, 0, none⟩))), (3, (Value.pointer (some ⟨b8, 0, none⟩))), (4, (Value.bool false)), (24, (Value.bool true)), (25, (Value.pointer (some ⟨b1, 3, none⟩)))] (j := 21) (by kernel_rfl) (by kernel_rfl) ?_
        refine Ops.go (v := (i64 m.to)) (by kernel_rfl) (Runs.load (t := 3) (a := ⟨b1, 3, none⟩) (by kernel_rfl) (H15.loads (by kernel_rfl))) (d := (some 26)) (by kernel_rfl) rfl ?_
        refine Ops.regs 1 [(2, (Value.pointer (some ⟨b1, 0, none⟩))), (3, (Value.pointer (some ⟨b8, 0, none⟩))), (4, (Value.bool false)), (24, (Value.bool true)), (26, (i64 m.to)), (27, (Value.pointer (some ⟨b8, 3, none⟩)))] (j := 23) (by kernel_rfl) (by kernel_rfl) ?_
        refine Ops.go (v := (i64 n.to)) (by kernel_rfl) (Runs.load (t := 3) (a := ⟨b8, 3, none⟩) (by kernel_rfl) (H11.loads (by kernel_rfl))) (d := (some 28)) (by kernel_rfl) rfl ?_
        refine Ops.regs 3 [(2, (Value.pointer (some ⟨b1, 0, none⟩))), (3, (Value.pointer (some ⟨b8, 0, none⟩))), (4, (Value.bool false)), (31, (Value.bool (m.to == n.to)))] (j := 27) (by kernel_rfl) (by kernel_rfl) ?_
        refine Ops.split (m.to == n.to) (fun h22 => ?_) (fun h22 => ?_)
        · rw [h22]
          have p23 : m.to = n.to := of_beq_t h22
          refine Ops.regs 1 [(2, (Value.pointer (some ⟨b1, 0, none⟩))), (3, (Value.pointer (some ⟨b8, 0, none⟩))), (4, (Value.bool false)), (31, (Value.bool true)), (32, (Value.pointer (some ⟨b1, 4, none⟩)))] (j := 28) (by kernel_rfl) (by kernel_rfl) ?_
          refine Ops.go (v := (i64 m.term)) (by kernel_rfl) (Runs.load (t := 2) (a := ⟨b1, 4, none⟩) (by kernel_rfl) (H15.loads (by kernel_rfl))) (d := (some 33)) (by kernel_rfl) rfl ?_
          refine Ops.regs 1 [(2, (Value.pointer (some ⟨b1, 0, none⟩))), (3, (Value.pointer (some ⟨b8, 0, none⟩))), (4, (Value.bool false)), (31, (Value.bool true)), (33, (i64 m.term)), (34, (Value.pointer (some ⟨b8, 4, none⟩)))] (j := 30) (by kernel_rfl) (by kernel_rfl) ?_
          refine Ops.go (v := (i64 n.term)) (by kernel_rfl) (Runs.load (t := 2) (a := ⟨b8, 4, none⟩) (by kernel_rfl) (H11.loads (by kernel_rfl))) (d := (some 35)) (by kernel_rfl) rfl ?_
          refine Ops.regs 3 [(2, (Value.pointer (some ⟨b1, 0, none⟩))), (3, (Value.pointer (some ⟨b8, 0, none⟩))), (4, (Value.bool false)), (38, (Value.bool (m.term == n.term)))] (j := 34) (by kernel_rfl) (by kernel_rfl) ?_
          refine Ops.split (m.term == n.term) (fun h24 => ?_) (fun h24 => ?_)
          · rw [h24]
            have p25 : m.term = n.term := of_beq_t h24
            refine Ops.regs 1 [(2, (Value.pointer (some ⟨b1, 0, none⟩))), (3, (Value.pointer (some ⟨b8, 0, none⟩))), (4, (Value.bool false)), (38, (Value.bool true)), (39, (Value.pointer (some ⟨b1, 5, none⟩)))] (j := 35) (by kernel_rfl) (by kernel_rfl) ?_
            refine Ops.go (v := (i64 m.index)) (by kernel_rfl) (Runs.load (t := 2) (a := ⟨b1, 5, none⟩) (by kernel_rfl) (H15.loads (by kernel_rfl))) (d := (some 40)) (by kernel_rfl) rfl ?_
            refine Ops.regs 1 [(2, (Value.pointer (some ⟨b1, 0, none⟩))), (3, (Value.pointer (some ⟨b8, 0, none⟩))), (4, (Value.bool false)), (38, (Value.bool true)), (40, (i64 m.index)), (41, (Value.pointer (some ⟨b8, 5, none⟩)))] (j := 37) (by kernel_rfl) (by kernel_rfl) ?_
            refine Ops.go (v := (i64 n.index)) (by kernel_rfl) (Runs.load (t := 2) (a := ⟨b8, 5, none⟩) (by kernel_rfl) (H11.loads (by kernel_rfl))) (d := (some 42)) (by kernel_rfl) rfl ?_
            refine Ops.regs 3 [(2, (Value.pointer (some ⟨b1, 0, none⟩))), (3, (Value.pointer (some ⟨b8, 0, none⟩))), (4, (Value.bool false)), (45, (Value.bool (m.index == n.index)))] (j := 41) (by kernel_rfl) (by kernel_rfl) ?_
            refine Ops.split (m.index == n.index) (fun h26 => ?_) (fun h26 => ?_)
            · rw [h26]
              have p27 : m.index = n.index := of_beq_t h26
              refine Ops.regs 1 [(2, (Value.pointer (some ⟨b1, 0, none⟩))), (3, (Value.pointer (some ⟨b8, 0, none⟩))), (4, (Value.bool false)), (45, (Value.bool true)), (46, (Value.pointer (some ⟨b1, 6, none⟩)))] (j := 42) (by kernel_rfl) (by kernel_rfl) ?_
              refine Ops.go (v := (i64 m.logTerm)) (by kernel_rfl) (Runs.load (t := 2) (a := ⟨b1, 6, none⟩) (by kernel_rfl) (H15.loads (by kernel_rfl))) (d := (some 47)) (by kernel_rfl) rfl ?_
              refine Ops.regs 1 [(2, (Value.pointer (some ⟨b1, 0, none⟩))), (3, (Value.pointer (some ⟨b8, 0, none⟩))), (4, (Value.bool false)), (45, (Value.bool true)), (47, (i64 m.logTerm)), (48, (Value.pointer (some ⟨b8, 6, none⟩)))] (j := 44) (by kernel_rfl) (by kernel_rfl) ?_
              refine Ops.go (v := (i64 n.logTerm)) (by kernel_rfl) (Runs.load (t := 2) (a := ⟨b8, 6, none⟩) (by kernel_rfl) (H11.loads (by kernel_rfl))) (d := (some 49)) (by kernel_rfl) rfl ?_
              refine Ops.regs 3 [(2, (Value.pointer (some ⟨b1, 0, none⟩))), (3, (Value.pointer (some ⟨b8, 0, none⟩))), (4, (Value.bool false)), (52, (Value.bool (m.logTerm == n.logTerm)))] (j := 48) (by kernel_rfl) (by kernel_rfl) ?_
              refine Ops.split (m.logTerm == n.logTerm) (fun h28 => ?_) (fun h28 => ?_)
              · rw [h28]
                have p29 : m.logTerm = n.logTerm := of_beq_t h28
                refine Ops.regs 1 [(2, (Value.pointer (some ⟨b1, 0, none⟩))), (3, (Value.pointer (some ⟨b8, 0, none⟩))), (4, (Value.bool false)), (52, (Value.bool true)), (53, (Value.pointer (some ⟨b1, 7, none⟩)))] (j := 49) (by kernel_rfl) (by kernel_rfl) ?_
                refine Ops.go (v := (i64 m.commit)) (by kernel_rfl) (Runs.load (t := 2) (a := ⟨b1, 7, none⟩) (by kernel_rfl) (H15.loads (by kernel_rfl))) (d := (some 54)) (by kernel_rfl) rfl ?_
                refine Ops.regs 1 [(2, (Value.pointer (some ⟨b1, 0, none⟩))), (3, (Value.pointer (some ⟨b8, 0, none⟩))), (4, (Value.bool false)), (52, (Value.bool true)), (54, (i64 m.commit)), (55, (Value.pointer (some ⟨b8, 7, none⟩)))] (j := 51) (by kernel_rfl) (by kernel_rfl) ?_
                refine Ops.go (v := (i64 n.commit)) (by kernel_rfl) (Runs.load (t := 2) (a := ⟨b8, 7, none⟩) (by kernel_rfl) (H11.loads (by kernel_rfl))) (d := (some 56)) (by kernel_rfl) rfl ?_
                refine Ops.regs 3 [(2, (Value.pointer (some ⟨b1, 0, none⟩))), (3, (Value.pointer (some ⟨b8, 0, none⟩))), (4, (Value.bool false)), (59, (Value.bool (m.commit == n.commit)))] (j := 55) (by kernel_rfl) (by kernel_rfl) ?_
                refine Ops.split (m.commit == n.commit) (fun h30 => ?_) (fun h30 => ?_)
                · rw [h30]
                  have p31 : m.commit = n.commit := of_beq_t h30
                  refine Ops.regs 1 [(2, (Value.pointer (some ⟨b1, 0, none⟩))), (3, (Value.pointer (some ⟨b8, 0, none⟩))), (4, (Value.bool false)), (59, (Value.bool true)), (60, (Value.pointer (some ⟨b1, 8, none⟩)))] (j := 56) (by kernel_rfl) (by kernel_rfl) ?_
                  refine Ops.go (v := (Value.bool m.ok)) (by kernel_rfl) (Runs.load (t := 4) (a := ⟨b1, 8, none⟩) (by kernel_rfl) (H15.loads (by kernel_rfl))) (d := (some 61)) (by kernel_rfl) rfl ?_
                  refine Ops.regs 1 [(2, (Value.pointer (some ⟨b1, 0, none⟩))), (3, (Value.pointer (some ⟨b8, 0, none⟩))), (4, (Value.bool false)), (59, (Value.bool true)), (61, (Value.bool m.ok)), (62, (Value.pointer (some ⟨b8, 8, none⟩)))] (j := 58) (by kernel_rfl) (by kernel_rfl) ?_
                  refine Ops.go (v := (Value.bool n.ok)) (by kernel_rfl) (Runs.load (t := 4) (a := ⟨b8, 8, none⟩) (by kernel_rfl) (H11.loads (by kernel_rfl))) (d := (some 63)) (by kernel_rfl) rfl ?_
                  refine Ops.split m.ok (fun h32 => ?_) (fun h32 => ?_)
                  · rw [h32]
                    have p33 : m.ok = true := h32
                    have hmo := h32
                    refine Ops.split n.ok (fun h34 => ?_) (fun h34 => ?_)
                    · rw [h34]
                      have p35 : n.ok = true := h34
                      have hno := h34
                      refine Ops.regs 4 [(2, (Value.pointer (some ⟨b1, 0, none⟩))), (3, (Value.pointer (some ⟨b8, 0, none⟩))), (4, (Value.bool false)), (66, (Value.bool true)), (67, (Value.pointer (some ⟨b1, 9, none⟩)))] (j := 63) (by kernel_rfl) (by kernel_rfl) ?_
                      refine Ops.go (v := (Value.slice E m.entries.length ec)) (by kernel_rfl) (Runs.load (t := 47) (a := ⟨b1, 9, none⟩) (by kernel_rfl) (H15.loads (by kernel_rfl))) (d := (some 68)) (by kernel_rfl) rfl ?_
                      refine Ops.regs 1 [(2, (Value.pointer (some ⟨b1, 0, none⟩))), (3, (Value.pointer (some ⟨b8, 0, none⟩))), (4, (Value.bool false)), (66, (Value.bool true)), (68, (Value.slice E m.entries.length ec)), (69, (Value.pointer (some ⟨b8, 9, none⟩)))] (j := 65) (by kernel_rfl) (by kernel_rfl) ?_
                      refine Ops.go (v := (Value.slice G n.entries.length gc)) (by kernel_rfl) (Runs.load (t := 47) (a := ⟨b8, 9, none⟩) (by kernel_rfl) (H11.loads (by kernel_rfl))) (d := (some 70)) (by kernel_rfl) rfl ?_
                      refine Ops.call (by kernel_rfl) (d := (some 71)) (by kernel_rfl) (SameEntries_calls _ E ec m.entries G gc n.entries (Rd.keep0 (by omega) hE K14) (Rd.keep0 (by omega) hG K14) (hC.keep K14) (hCn.keep K14)) ?_
                      rintro _ w39 ⟨t36, rfl, ht37, K38⟩
                      refine ⟨_, _, rfl, rfl, ?_⟩
                      have K40 := K14.trans K38 (U := none_) (fun i h1 h2 => h2) (fun i h1 h2 => by exact h2)
                      clear K14
                      have H41 := H15.keep K38 (fun h => h)
                      clear H15
                      have H42 := H11.keep K38 (fun h => h)
                      clear H11
                      clear K38
                      refine Ops.regs 2 [(2, (Value.pointer (some ⟨b1, 0, none⟩))), (3, (Value.pointer (some ⟨b8, 0, none⟩))), (4, (Value.bool false)), (73, (Value.bool t36))] (j := 69) (by kernel_rfl) (by kernel_rfl) ?_
                      refine Ops.split t36 (fun h43 => ?_) (fun h43 => ?_)
                      · rw [h43]
                        have p44 : t36 = true := h43
                        have htv := h43
                        refine Ops.regs 1 [(3, (Value.pointer (some ⟨b8, 0, none⟩))), (4, (Value.bool false)), (73, (Value.bool true)), (74, (Value.pointer (some ⟨b1, 10, none⟩)))] (j := 70) (by kernel_rfl) (by kernel_rfl) ?_
                        refine Ops.go (v := (Value.slice D m.data.length dc)) (by kernel_rfl) (Runs.load (t := 23) (a := ⟨b1, 10, none⟩) (by kernel_rfl) (H41.loads (by kernel_rfl))) (d := (some 75)) (by kernel_rfl) rfl ?_
                        refine Ops.go (v := (Value.string (str m.data))) (by kernel_rfl) (Runs.b2s (s := 23) (d := 9) (e := 5) (by kernel_rfl) (by kernel_rfl) (by kernel_rfl) (hD.keep0 (by omega) K40)) (d := (some 76)) (by kernel_rfl) rfl ?_
                        refine Ops.regs 1 [(4, (Value.bool false)), (73, (Value.bool true)), (76, (Value.string (str m.data))), (77, (Value.pointer (some ⟨b8, 10, none⟩)))] (j := 73) (by kernel_rfl) (by kernel_rfl) ?_
                        refine Ops.go (v := (Value.slice F n.data.length fc)) (by kernel_rfl) (Runs.load (t := 23) (a := ⟨b8, 10, none⟩) (by kernel_rfl) (H42.loads (by kernel_rfl))) (d := (some 78)) (by kernel_rfl) rfl ?_
                        refine Ops.go (v := (Value.string (str n.data))) (by kernel_rfl) (Runs.b2s (s := 23) (d := 9) (e := 5) (by kernel_rfl) (by kernel_rfl) (by kernel_rfl) (hF.keep0 (by omega) K40)) (d := (some 79)) (by kernel_rfl) rfl ?_
                        refine Ops.go (v := (Value.bool (m.data == n.data))) (by kernel_rfl) (Runs.streq (t := 9) (by kernel_rfl)) (d := (some 80)) (by kernel_rfl) rfl ?_
                        refine Ops.regs 2 [(4, (Value.bool (m.data == n.data)))] (j := 78) (by kernel_rfl) (by kernel_rfl) ?_
                        refine Ops.done (by kernel_rfl) ?_
                        refine q_ret (by kernel_rfl) ?_
                        refine ⟨(Value.bool (m.data == n.data)), retv_tmp rfl rfl, ?_⟩
                        exact ⟨_, rfl, ⟨fun h => ⟨by omega, by omega, by omega, by omega, by omega, by omega, by omega, by omega, by rw [hmo, hno], ht37.1 htv, eq_of_beq h⟩, fun h => by rw [h.data]; simp⟩, K40⟩
                      · rw [h43]
                        have p45 : t36 = false := h43
                        have htv := h43
                        refine Ops.regs 9 [(4, (Value.bool false))] (j := 78) (by kernel_rfl) (by kernel_rfl) ?_
                        refine Ops.done (by kernel_rfl) ?_
                        refine q_ret (by kernel_rfl) ?_
                        refine ⟨(Value.bool false), retv_tmp rfl rfl, ?_⟩
                        exact ⟨false, rfl, ⟨fun h => (by cases h), fun h => by first | (have h1 := h.kind; have h2 := h.group; have h3 := h.frm; have h4 := h.to; have h5 := h.term; have h6 := h.index; have h7 := h.logTerm; have h8 := h.commit; omega) | (have h9 := h.ok; rw [hmo, hno] at h9; cases h9; done) | (have h10 := ht37.2 h.ents; rw [htv] at h10; cases h10; done)⟩, K40⟩
                    · rw [h34]
                      have p46 : n.ok = false := h34
                      have hno := h34
                      refine Ops.regs 19 [(4, (Value.bool false))] (j := 78) (by kernel_rfl) (by kernel_rfl) ?_
                      refine Ops.done (by kernel_rfl) ?_
                      refine q_ret (by kernel_rfl) ?_
                      refine ⟨(Value.bool false), retv_tmp rfl rfl, ?_⟩
                      exact ⟨false, rfl, ⟨fun h => (by cases h), fun h => by first | (have h1 := h.kind; have h2 := h.group; have h3 := h.frm; have h4 := h.to; have h5 := h.term; have h6 := h.index; have h7 := h.logTerm; have h8 := h.commit; omega) | (have h9 := h.ok; rw [hmo, hno] at h9; cases h9; done) | (have h10 := ht37.2 h.ents; rw [htv] at h10; cases h10; done)⟩, K14⟩
                  · rw [h32]
                    have p47 : m.ok = false := h32
                    have hmo := h32
                    refine Ops.split n.ok (fun h48 => ?_) (fun h48 => ?_)
                    · rw [h48]
                      have p49 : n.ok = true := h48
                      have hno := h48
                      refine Ops.regs 19 [(4, (Value.bool false))] (j := 78) (by kernel_rfl) (by kernel_rfl) ?_
                      refine Ops.done (by kernel_rfl) ?_
                      refine q_ret (by kernel_rfl) ?_
                      refine ⟨(Value.bool false), retv_tmp rfl rfl, ?_⟩
                      exact ⟨false, rfl, ⟨fun h => (by cases h), fun h => by first | (have h1 := h.kind; have h2 := h.group; have h3 := h.frm; have h4 := h.to; have h5 := h.term; have h6 := h.index; have h7 := h.logTerm; have h8 := h.commit; omega) | (have h9 := h.ok; rw [hmo, hno] at h9; cases h9; done) | (have h10 := ht37.2 h.ents; rw [htv] at h10; cases h10; done)⟩, K14⟩
                    · rw [h48]
                      have p50 : n.ok = false := h48
                      have hno := h48
                      refine Ops.regs 4 [(2, (Value.pointer (some ⟨b1, 0, none⟩))), (3, (Value.pointer (some ⟨b8, 0, none⟩))), (4, (Value.bool false)), (66, (Value.bool true)), (67, (Value.pointer (some ⟨b1, 9, none⟩)))] (j := 63) (by kernel_rfl) (by kernel_rfl) ?_
                      refine Ops.go (v := (Value.slice E m.entries.length ec)) (by kernel_rfl) (Runs.load (t := 47) (a := ⟨b1, 9, none⟩) (by kernel_rfl) (H15.loads (by kernel_rfl))) (d := (some 68)) (by kernel_rfl) rfl ?_
                      refine Ops.regs 1 [(2, (Value.pointer (some ⟨b1, 0, none⟩))), (3, (Value.pointer (some ⟨b8, 0, none⟩))), (4, (Value.bool false)), (66, (Value.bool true)), (68, (Value.slice E m.entries.length ec)), (69, (Value.pointer (some ⟨b8, 9, none⟩)))] (j := 65) (by kernel_rfl) (by kernel_rfl) ?_
                      refine Ops.go (v := (Value.slice G n.entries.length gc)) (by kernel_rfl) (Runs.load (t := 47) (a := ⟨b8, 9, none⟩) (by kernel_rfl) (H11.loads (by kernel_rfl))) (d := (some 70)) (by kernel_rfl) rfl ?_
                      refine Ops.call (by kernel_rfl) (d := (some 71)) (by kernel_rfl) (SameEntries_calls _ E ec m.entries G gc n.entries (Rd.keep0 (by omega) hE K14) (Rd.keep0 (by omega) hG K14) (hC.keep K14) (hCn.keep K14)) ?_
                      rintro _ w54 ⟨t51, rfl, ht52, K53⟩
                      refine ⟨_, _, rfl, rfl, ?_⟩
                      have K55 := K14.trans K53 (U := none_) (fun i h1 h2 => h2) (fun i h1 h2 => by exact h2)
                      clear K14
                      have H56 := H15.keep K53 (fun h => h)
                      clear H15
                      have H57 := H11.keep K53 (fun h => h)
                      clear H11
                      clear K53
                      refine Ops.regs 2 [(2, (Value.pointer (some ⟨b1, 0, none⟩))), (3, (Value.pointer (some ⟨b8, 0, none⟩))), (4, (Value.bool false)), (73, (Value.bool t51))] (j := 69) (by kernel_rfl) (by kernel_rfl) ?_
                      refine Ops.split t51 (fun h58 => ?_) (fun h58 => ?_)
                      · rw [h58]
                        have p59 : t51 = true := h58
                        have htv := h58
                        refine Ops.regs 1 [(3, (Value.pointer (some ⟨b8, 0, none⟩))), (4, (Value.bool false)), (73, (Value.bool true)), (74, (Value.pointer (some ⟨b1, 10, none⟩)))] (j := 70) (by kernel_rfl) (by kernel_rfl) ?_
                        refine Ops.go (v := (Value.slice D m.data.length dc)) (by kernel_rfl) (Runs.load (t := 23) (a := ⟨b1, 10, none⟩) (by kernel_rfl) (H56.loads (by kernel_rfl))) (d := (some 75)) (by kernel_rfl) rfl ?_
                        refine Ops.go (v := (Value.string (str m.data))) (by kernel_rfl) (Runs.b2s (s := 23) (d := 9) (e := 5) (by kernel_rfl) (by kernel_rfl) (by kernel_rfl) (hD.keep0 (by omega) K55)) (d := (some 76)) (by kernel_rfl) rfl ?_
                        refine Ops.regs 1 [(4, (Value.bool false)), (73, (Value.bool true)), (76, (Value.string (str m.data))), (77, (Value.pointer (some ⟨b8, 10, none⟩)))] (j := 73) (by kernel_rfl) (by kernel_rfl) ?_
                        refine Ops.go (v := (Value.slice F n.data.length fc)) (by kernel_rfl) (Runs.load (t := 23) (a := ⟨b8, 10, none⟩) (by kernel_rfl) (H57.loads (by kernel_rfl))) (d := (some 78)) (by kernel_rfl) rfl ?_
                        refine Ops.go (v := (Value.string (str n.data))) (by kernel_rfl) (Runs.b2s (s := 23) (d := 9) (e := 5) (by kernel_rfl) (by kernel_rfl) (by kernel_rfl) (hF.keep0 (by omega) K55)) (d := (some 79)) (by kernel_rfl) rfl ?_
                        refine Ops.go (v := (Value.bool (m.data == n.data))) (by kernel_rfl) (Runs.streq (t := 9) (by kernel_rfl)) (d := (some 80)) (by kernel_rfl) rfl ?_
                        refine Ops.regs 2 [(4, (Value.bool (m.data == n.data)))] (j := 78) (by kernel_rfl) (by kernel_rfl) ?_
                        refine Ops.done (by kernel_rfl) ?_
                        refine q_ret (by kernel_rfl) ?_
                        refine ⟨(Value.bool (m.data == n.data)), retv_tmp rfl rfl, ?_⟩
                        exact ⟨_, rfl, ⟨fun h => ⟨by omega, by omega, by omega, by omega, by omega, by omega, by omega, by omega, by rw [hmo, hno], ht52.1 htv, eq_of_beq h⟩, fun h => by rw [h.data]; simp⟩, K55⟩
                      · rw [h58]
                        have p60 : t51 = false := h58
                        have htv := h58
                        refine Ops.regs 9 [(4, (Value.bool false))] (j := 78) (by kernel_rfl) (by kernel_rfl) ?_
                        refine Ops.done (by kernel_rfl) ?_
                        refine q_ret (by kernel_rfl) ?_
                        refine ⟨(Value.bool false), retv_tmp rfl rfl, ?_⟩
                        exact ⟨false, rfl, ⟨fun h => (by cases h), fun h => by first | (have h1 := h.kind; have h2 := h.group; have h3 := h.frm; have h4 := h.to; have h5 := h.term; have h6 := h.index; have h7 := h.logTerm; have h8 := h.commit; omega) | (have h9 := h.ok; rw [hmo, hno] at h9; cases h9; done) | (have h10 := ht52.2 h.ents; rw [htv] at h10; cases h10; done)⟩, K55⟩
                · rw [h30]
                  have p61 : ¬ (m.commit = n.commit) := of_beq_f h30
                  refine Ops.regs 23 [(4, (Value.bool false))] (j := 78) (by kernel_rfl) (by kernel_rfl) ?_
                  refine Ops.done (by kernel_rfl) ?_
                  refine q_ret (by kernel_rfl) ?_
                  refine ⟨(Value.bool false), retv_tmp rfl rfl, ?_⟩
                  exact ⟨false, rfl, ⟨fun h => (by cases h), fun h => by first | (have h1 := h.kind; have h2 := h.group; have h3 := h.frm; have h4 := h.to; have h5 := h.term; have h6 := h.index; have h7 := h.logTerm; have h8 := h.commit; omega) | (have h9 := h.ok; rw [hmo, hno] at h9; cases h9; done) | (have h10 := ht52.2 h.ents; rw [htv] at h10; cases h10; done)⟩, K14⟩
              · rw [h28]
                have p62 : ¬ (m.logTerm = n.logTerm) := of_beq_f h28
                refine Ops.regs 30 [(4, (Value.bool false))] (j := 78) (by kernel_rfl) (by kernel_rfl) ?_
                refine Ops.done (by kernel_rfl) ?_
                refine q_ret (by kernel_rfl) ?_
                refine ⟨(Value.bool false), retv_tmp rfl rfl, ?_⟩
                exact ⟨false, rfl, ⟨fun h => (by cases h), fun h => by first | (have h1 := h.kind; have h2 := h.group; have h3 := h.frm; have h4 := h.to; have h5 := h.term; have h6 := h.index; have h7 := h.logTerm; have h8 := h.commit; omega) | (have h9 := h.ok; rw [hmo, hno] at h9; cases h9; done) | (have h10 := ht52.2 h.ents; rw [htv] at h10; cases h10; done)⟩, K14⟩
            · rw [h26]
              have p63 : ¬ (m.index = n.index) := of_beq_f h26
              refine Ops.regs 37 [(4, (Value.bool false))] (j := 78) (by kernel_rfl) (by kernel_rfl) ?_
              refine Ops.done (by kernel_rfl) ?_
              refine q_ret (by kernel_rfl) ?_
              refine ⟨(Value.bool false), retv_tmp rfl rfl, ?_⟩
              exact ⟨false, rfl, ⟨fun h => (by cases h), fun h => by first | (have h1 := h.kind; have h2 := h.group; have h3 := h.frm; have h4 := h.to; have h5 := h.term; have h6 := h.index; have h7 := h.logTerm; have h8 := h.commit; omega) | (have h9 := h.ok; rw [hmo, hno] at h9; cases h9; done) | (have h10 := ht52.2 h.ents; rw [htv] at h10; cases h10; done)⟩, K14⟩
          · rw [h24]
            have p64 : ¬ (m.term = n.term) := of_beq_f h24
            refine Ops.regs 44 [(4, (Value.bool false))] (j := 78) (by kernel_rfl) (by kernel_rfl) ?_
            refine Ops.done (by kernel_rfl) ?_
            refine q_ret (by kernel_rfl) ?_
            refine ⟨(Value.bool false), retv_tmp rfl rfl, ?_⟩
            exact ⟨false, rfl, ⟨fun h => (by cases h), fun h => by first | (have h1 := h.kind; have h2 := h.group; have h3 := h.frm; have h4 := h.to; have h5 := h.term; have h6 := h.index; have h7 := h.logTerm; have h8 := h.commit; omega) | (have h9 := h.ok; rw [hmo, hno] at h9; cases h9; done) | (have h10 := ht52.2 h.ents; rw [htv] at h10; cases h10; done)⟩, K14⟩
        · rw [h22]
          have p65 : ¬ (m.to = n.to) := of_beq_f h22
          refine Ops.regs 51 [(4, (Value.bool false))] (j := 78) (by kernel_rfl) (by kernel_rfl) ?_
          refine Ops.done (by kernel_rfl) ?_
          refine q_ret (by kernel_rfl) ?_
          refine ⟨(Value.bool false), retv_tmp rfl rfl, ?_⟩
          exact ⟨false, rfl, ⟨fun h => (by cases h), fun h => by first | (have h1 := h.kind; have h2 := h.group; have h3 := h.frm; have h4 := h.to; have h5 := h.term; have h6 := h.index; have h7 := h.logTerm; have h8 := h.commit; omega) | (have h9 := h.ok; rw [hmo, hno] at h9; cases h9; done) | (have h10 := ht52.2 h.ents; rw [htv] at h10; cases h10; done)⟩, K14⟩
      · rw [h20]
        have p66 : ¬ (m.frm = n.frm) := of_beq_f h20
        refine Ops.regs 58 [(4, (Value.bool false))] (j := 78) (by kernel_rfl) (by kernel_rfl) ?_
        refine Ops.done (by kernel_rfl) ?_
        refine q_ret (by kernel_rfl) ?_
        refine ⟨(Value.bool false), retv_tmp rfl rfl, ?_⟩
        exact ⟨false, rfl, ⟨fun h => (by cases h), fun h => by first | (have h1 := h.kind; have h2 := h.group; have h3 := h.frm; have h4 := h.to; have h5 := h.term; have h6 := h.index; have h7 := h.logTerm; have h8 := h.commit; omega) | (have h9 := h.ok; rw [hmo, hno] at h9; cases h9; done) | (have h10 := ht52.2 h.ents; rw [htv] at h10; cases h10; done)⟩, K14⟩
    · rw [h18]
      have p67 : ¬ (m.group = n.group) := of_beq_f h18
      refine Ops.regs 65 [(4, (Value.bool false))] (j := 78) (by kernel_rfl) (by kernel_rfl) ?_
      refine Ops.done (by kernel_rfl) ?_
      refine q_ret (by kernel_rfl) ?_
      refine ⟨(Value.bool false), retv_tmp rfl rfl, ?_⟩
      exact ⟨false, rfl, ⟨fun h => (by cases h), fun h => by first | (have h1 := h.kind; have h2 := h.group; have h3 := h.frm; have h4 := h.to; have h5 := h.term; have h6 := h.index; have h7 := h.logTerm; have h8 := h.commit; omega) | (have h9 := h.ok; rw [hmo, hno] at h9; cases h9; done) | (have h10 := ht52.2 h.ents; rw [htv] at h10; cases h10; done)⟩, K14⟩
  · rw [h16]
    have p68 : ¬ (m.kind = n.kind) := of_beq_f h16
    refine Ops.regs 72 [(4, (Value.bool false))] (j := 78) (by kernel_rfl) (by kernel_rfl) ?_
    refine Ops.done (by kernel_rfl) ?_
    refine q_ret (by kernel_rfl) ?_
    refine ⟨(Value.bool false), retv_tmp rfl rfl, ?_⟩
    exact ⟨false, rfl, ⟨fun h => (by cases h), fun h => by first | (have h1 := h.kind; have h2 := h.group; have h3 := h.frm; have h4 := h.to; have h5 := h.term; have h6 := h.index; have h7 := h.logTerm; have h8 := h.commit; omega) | (have h9 := h.ok; rw [hmo, hno] at h9; cases h9; done) | (have h10 := ht52.2 h.ents; rw [htv] at h10; cases h10; done)⟩, K14⟩
end Go.Proofs.Ytnepjfnkaigakaa
