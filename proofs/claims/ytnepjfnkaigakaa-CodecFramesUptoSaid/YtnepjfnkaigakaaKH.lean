/- entries and messages compared -/
import Derived.Test.YtnepjfnkaigakaaProg
import Derived.Test.YtnepjfnkaigakaaLH
import Derived.Test.YtnepjfnkaigakaaKC
set_option linter.unusedVariables false
namespace Go.Proofs.Ytnepjfnkaigakaa
open Go.Q Go.RowKit

theorem SameEntries_calls (w : World) (A : Option Addr) (c : Nat) (la : List EntP) (B : Option Addr) (d : Nat) (lb : List EntP) (hA : RdE w (.slice A la.length c) la) (hB : RdE w (.slice B lb.length d) lb) (hCa : EntsIn w la) (hCb : EntsIn w lb) : Calls Try.prog 65 ⟨[(Value.slice A la.length c), (Value.slice B lb.length d)]⟩ w (fun e w' => ∃ t, e = .returned (.bool t) ∧ (t = true ↔ la.map EntP.key = lb.map EntP.key) ∧ Keeps none_ w w') := by
  have hla := (RdT.len EntP.two (by decide) hA).2
  unfold maxLen at hla
  have K0 : Keeps none_ w w := Keeps.refl w
  refine q_calls Try.func65 (by kernel_rfl) (by kernel_rfl) ?_
  refine q_seq (by kernel_rfl) ?_
  refine q_region (by kernel_rfl) ?_
  refine Ops.regs 1 [(0, (Value.slice A la.length c)), (1, (Value.slice B lb.length d)), (4, (Value.bool false))] (j := 1) (by kernel_rfl) (by kernel_rfl) ?_
  refine Ops.done (by kernel_rfl) ?_
  refine q_seq (by kernel_rfl) ?_
  refine q_seq (by kernel_rfl) ?_
  refine q_region (by kernel_rfl) ?_
  refine Ops.regs 5 [(0, (Value.slice A la.length c)), (1, (Value.slice B lb.length d)), (4, (Value.bool false)), (10, (Value.bool (((la.length : Nat) : Int) != ((lb.length : Nat) : Int))))] (j := 5) (by kernel_rfl) (by kernel_rfl) ?_
  refine Ops.done (by kernel_rfl) ?_
  refine q_cond (o := .tmp 10) (b := (((la.length : Nat) : Int) != ((lb.length : Nat) : Int))) (by kernel_rfl) rfl (fun h1 => ?_) (fun h1 => ?_)
  · rw [h1]
    have p2 : ¬ (((la.length : Nat) : Int) = ((lb.length : Nat) : Int)) := of_bne_t h1
    refine q_seq (by kernel_rfl) ?_
    refine q_region (by kernel_rfl) ?_
    refine Ops.regs 1 [(0, (Value.slice A la.length c)), (1, (Value.slice B lb.length d)), (4, (Value.bool false))] (j := 1) (by kernel_rfl) (by kernel_rfl) ?_
    refine Ops.done (by kernel_rfl) ?_
    refine q_ret (by kernel_rfl) ?_
    refine ⟨(Value.bool false), retv_tmp rfl rfl, ?_⟩
    exact ⟨false, rfl, ⟨fun h => (by cases h), fun h => by have := congrArg List.length h; simp only [List.length_map] at this; omega⟩, K0⟩
  · rw [h1]
    have p3 : ((la.length : Nat) : Int) = ((lb.length : Nat) : Int) := of_bne_f h1
    refine q_skip (by kernel_rfl) ?_
    refine q_seq (by kernel_rfl) ?_
    refine q_seq (by kernel_rfl) ?_
    refine q_region (by kernel_rfl) ?_
    refine Ops.regs 1 [(0, (Value.slice A la.length c)), (1, (Value.slice B lb.length d)), (4, (Value.bool false)), (5, (i64 0))] (j := 1) (by kernel_rfl) (by kernel_rfl) ?_
    refine Ops.done (by kernel_rfl) ?_
    refine q_block (id := 0) (by kernel_rfl) ?_
    refine q_keep (R := [(0, (Value.slice A la.length c)), (1, (Value.slice B lb.length d)), (5, (i64 0))]) (by kernel_rfl) ?_
    refine q_loop (fun (i : Nat) L (wx : World) => L = [(0, (Value.slice A la.length c)), (1, (Value.slice B lb.length d)), (5, (i64 ((i : Nat) : Int)))] ∧ (la.take i).map EntP.key = (lb.take i).map EntP.key ∧ i ≤ la.length ∧ Keeps none_ w wx) (fun (i : Nat) => la.length - i) 0 (by kernel_rfl) ⟨rfl, rfl, Nat.zero_le _, K0⟩ ?_
    clear K0
    rintro i _ w4 ⟨rfl, hE, hi, K5⟩
    refine q_seq (by kernel_rfl) ?_
    refine q_seq (by kernel_rfl) ?_
    refine q_region (by kernel_rfl) ?_
    refine Ops.regs 4 [(0, (Value.slice A la.length c)), (1, (Value.slice B lb.length d)), (5, (i64 ((i : Nat) : Int))), (14, (Value.bool (decide (((i : Nat) : Int) < ((la.length : Nat) : Int)))))] (j := 4) (by kernel_rfl) (by kernel_rfl) ?_
    refine Ops.done (by kernel_rfl) ?_
    refine q_cond (o := .tmp 14) (b := (decide (((i : Nat) : Int) < ((la.length : Nat) : Int)))) (by kernel_rfl) rfl (fun h6 => ?_) (fun h6 => ?_)
    · rw [h6]
      have p7 : ((i : Nat) : Int) < ((la.length : Nat) : Int) := of_decide_eq_true h6
      obtain ⟨rb8, ro9, x, hA10, hx11⟩ := RdT.open (Rd.keep0 (by omega) hA K5) rfl (k := i) (by omega)
      have hXx := hx11
      have hBx := hCa x (List.mem_of_getElem? hXx)
      have hBlx := hBx.slice
      unfold maxLen at hBlx
      obtain ⟨rb12, ro13, y, hA14, hx15⟩ := RdT.open (Rd.keep0 (by omega) hB K5) rfl (k := i) (by omega)
      have hXy := hx15
      have hBy := hCb y (List.mem_of_getElem? hXy)
      have hBly := hBy.slice
      unfold maxLen at hBly
      refine q_skip (by kernel_rfl) ?_
      refine q_seq (by kernel_rfl) ?_
      refine q_block (id := 1) (by kernel_rfl) ?_
      refine q_seq (by kernel_rfl) ?_
      refine q_draw (fun wz => Keeps none_ w4 wz) 26 (by kernel_rfl) (by kernel_rfl) (by kernel_rfl) (fun w16 K17 _ _ => ⟨K17, ?_⟩)
      replace K5 := K5.trans K17 (U := none_) (fun i h1 h2 => h2) (fun i h1 h2 => by exact h2)
      refine Dr.strong (S' := (fun wz => Keeps none_ w16 wz)) (Keeps.refl w16) (fun wz hx => K17.trans hx (fun i _ h => h) (fun _ _ h => h)) ?_
      clear K17
      refine Dr.takes (fuel' := 24) (is' := [1, 0]) [0, 1] [(0, (Value.slice A la.length c)), (1, (Value.slice B lb.length d)), (5, (i64 ((i : Nat) : Int))), (14, (Value.bool true)), (17, (Value.slice A la.length c)), (18, (i64 ((i : Nat) : Int)))] (by kernel_rfl) rfl (by kernel_rfl) ?_
      refine Dr.take (i := 2) (v := (Value.pointer (some ⟨rb8, ro9 + i * 2, none⟩))) (by kernel_rfl) (by kernel_rfl) (fun wz hS => Runs.ixSliceE (k := IntKind.i64) (t := 47) (len := la.length) (cap := c) (s := 2) (off' := ro9 + i * 2) (i := ((i : Nat) : Int)) hA10 (by kernel_rfl) (by kernel_rfl) (by omega) (by omega) (by omega)) (d := (some 19)) (by kernel_rfl) rfl ?_
      refine Dr.takes (fuel' := 22) (is' := [3, 2, 1, 0]) [3] [(0, (Value.slice A la.length c)), (1, (Value.slice B lb.length d)), (5, (i64 ((i : Nat) : Int))), (14, (Value.bool true)), (20, (Value.pointer (some ⟨rb8, ro9 + i * 2, none⟩)))] (by kernel_rfl) rfl (by kernel_rfl) ?_
      refine Dr.take (i := 4) (v := (i64 x.term)) (by kernel_rfl) (by kernel_rfl) (fun wz hS => Runs.load (t := 2) (a := ⟨rb8, ro9 + i * 2, none⟩) (by kernel_rfl) (RdT.ldf (f := EntP.cells) (x := x) (o := 0) EntP.two (Rd.keep0 (by omega) hA (K5.trans hS (fun _ _ h => h) (fun _ _ h => h))) (by kernel_rfl) hA10 hx11 rfl)) (d := (some 21)) (by kernel_rfl) rfl ?_
      refine Dr.takes (fuel' := 19) (is' := [6, 5, 4, 3, 2, 1, 0]) [5, 6] [(0, (Value.slice A la.length c)), (1, (Value.slice B lb.length d)), (5, (i64 ((i : Nat) : Int))), (14, (Value.bool true)), (21, (i64 x.term)), (22, (Value.slice B lb.length d)), (23, (i64 ((i : Nat) : Int)))] (by kernel_rfl) rfl (by kernel_rfl) ?_
      refine Dr.take (i := 7) (v := (Value.pointer (some ⟨rb12, ro13 + i * 2, none⟩))) (by kernel_rfl) (by kernel_rfl) (fun wz hS => Runs.ixSliceE (k := IntKind.i64) (t := 47) (len := lb.length) (cap := d) (s := 2) (off' := ro13 + i * 2) (i := ((i : Nat) : Int)) hA14 (by kernel_rfl) (by kernel_rfl) (by omega) (by omega) (by omega)) (d := (some 24)) (by kernel_rfl) rfl ?_
      refine Dr.takes (fuel' := 17) (is' := [8, 7, 6, 5, 4, 3, 2, 1, 0]) [8] [(0, (Value.slice A la.length c)), (1, (Value.slice B lb.length d)), (5, (i64 ((i : Nat) : Int))), (14, (Value.bool true)), (21, (i64 x.term)), (25, (Value.pointer (some ⟨rb12, ro13 + i * 2, none⟩)))] (by kernel_rfl) rfl (by kernel_rfl) ?_
      refine Dr.take (i := 9) (v := (i64 y.term)) (by kernel_rfl) (by kernel_rfl) (fun wz hS => Runs.load (t := 2) (a := ⟨rb12, ro13 + i * 2, none⟩) (by kernel_rfl) (RdT.ldf (f := EntP.cells) (x := y) (o := 0) EntP.two (Rd.keep0 (by omega) hB (K5.trans hS (fun _ _ h => h) (fun _ _ h => h))) (by kernel_rfl) hA14 hx15 rfl)) (d := (some 26)) (by kernel_rfl) rfl ?_
      refine Dr.takes (fuel' := 14) (is' := [11, 10, 9, 8, 7, 6, 5, 4, 3, 2, 1, 0]) [10, 11] [(0, (Value.slice A la.length c)), (1, (Value.slice B lb.length d)), (5, (i64 ((i : Nat) : Int))), (14, (Value.bool true)), (28, (Value.bool (x.term != y.term)))] (by kernel_rfl) rfl (by kernel_rfl) ?_
      refine Dr.split (x.term != y.term) (fun h18 => ?_) (fun h18 => ?_)
      · rw [h18]
        have p19 : ¬ (x.term = y.term) := of_bne_t h18
        refine Dr.takes (fuel' := 0) (is' := [25, 24, 23, 22, 21, 20, 19, 18, 17, 16, 15, 14, 13, 12, 11, 10, 9, 8, 7, 6, 5, 4, 3, 2, 1, 0]) [12, 13, 14, 15, 16, 17, 18, 19, 20, 21, 22, 23, 24, 25] [(0, (Value.slice A la.length c)), (1, (Value.slice B lb.length d)), (5, (i64 ((i : Nat) : Int))), (14, (Value.bool true)), (42, (Value.bool true))] (by kernel_rfl) rfl (by kernel_rfl) ?_
        refine Dr.done (by kernel_rfl) ?_
        refine q_then (o := .tmp 42) (by kernel_rfl) rfl ?_
        refine q_seq (by kernel_rfl) ?_
        refine q_region (by kernel_rfl) ?_
        refine Ops.regs 1 [(0, (Value.slice A la.length c)), (1, (Value.slice B lb.length d)), (4, (Value.bool false)), (5, (i64 ((i : Nat) : Int))), (14, (Value.bool true)), (42, (Value.bool true))] (j := 1) (by kernel_rfl) (by kernel_rfl) ?_
        refine Ops.done (by kernel_rfl) ?_
        refine q_ret (by kernel_rfl) ?_
        refine ⟨(Value.bool false), retv_tmp rfl rfl, ?_⟩
        exact ⟨false, rfl, ⟨fun h => (by cases h), fun h => by have := key_at hXx; rw [h, key_at hXy] at this; have := Option.some.inj this; simp only [EntP.key, Prod.mk.injEq] at this; omega⟩, K5⟩
      · rw [h18]
        have p20 : x.term = y.term := of_bne_f h18
        refine Dr.takes (fuel' := 12) (is' := [13, 12, 11, 10, 9, 8, 7, 6, 5, 4, 3, 2, 1, 0]) [12, 13] [(0, (Value.slice A la.length c)), (1, (Value.slice B lb.length d)), (5, (i64 ((i : Nat) : Int))), (14, (Value.bool true)), (28, (Value.bool false)), (29, (Value.slice A la.length c)), (30, (i64 ((i : Nat) : Int)))] (by kernel_rfl) rfl (by kernel_rfl) ?_
        refine Dr.take (i := 14) (v := (Value.pointer (some ⟨rb8, ro9 + i * 2, none⟩))) (by kernel_rfl) (by kernel_rfl) (fun wz hS => Runs.ixSliceE (k := IntKind.i64) (t := 47) (len := la.length) (cap := c) (s := 2) (off' := ro9 + i * 2) (i := ((i : Nat) : Int)) hA10 (by kernel_rfl) (by kernel_rfl) (by omega) (by omega) (by omega)) (d := (some 31)) (by kernel_rfl) rfl ?_
        refine Dr.takes (fuel' := 10) (is' := [15, 14, 13, 12, 11, 10, 9, 8, 7, 6, 5, 4, 3, 2, 1, 0]) [15] [(0, (Value.slice A la.length c)), (1, (Value.slice B lb.length d)), (5, (i64 ((i : Nat) : Int))), (14, (Value.bool true)), (28, (Value.bool false)), (32, (Value.pointer (some ⟨rb8, ro9 + i * 2 + 1, none⟩)))] (by kernel_rfl) rfl (by kernel_rfl) ?_
        refine Dr.take (i := 16) (v := (Value.slice x.A x.cmd.length x.c)) (by kernel_rfl) (by kernel_rfl) (fun wz hS => Runs.load (t := 23) (a := ⟨rb8, ro9 + i * 2 + 1, none⟩) (by kernel_rfl) (RdT.ldf (f := EntP.cells) (x := x) (o := 1) EntP.two (Rd.keep0 (by omega) hA (K5.trans hS (fun _ _ h => h) (fun _ _ h => h))) (by kernel_rfl) hA10 hx11 rfl)) (d := (some 33)) (by kernel_rfl) rfl ?_
        refine Dr.take (i := 17) (v := (Value.string (str x.cmd))) (by kernel_rfl) (by kernel_rfl) (fun wz hS => Runs.b2s (s := 23) (d := 9) (e := 5) (by kernel_rfl) (by kernel_rfl) (by kernel_rfl) (Rd.keep0 (by omega) (hBx.keep0 (by omega) K5) hS)) (d := (some 34)) (by kernel_rfl) rfl ?_
        refine Dr.takes (fuel' := 6) (is' := [19, 18, 17, 16, 15, 14, 13, 12, 11, 10, 9, 8, 7, 6, 5, 4, 3, 2, 1, 0]) [18, 19] [(0, (Value.slice A la.length c)), (1, (Value.slice B lb.length d)), (5, (i64 ((i : Nat) : Int))), (14, (Value.bool true)), (28, (Value.bool false)), (34, (Value.string (str x.cmd))), (35, (Value.slice B lb.length d)), (36, (i64 ((i : Nat) : Int)))] (by kernel_rfl) rfl (by kernel_rfl) ?_
        refine Dr.take (i := 20) (v := (Value.pointer (some ⟨rb12, ro13 + i * 2, none⟩))) (by kernel_rfl) (by kernel_rfl) (fun wz hS => Runs.ixSliceE (k := IntKind.i64) (t := 47) (len := lb.length) (cap := d) (s := 2) (off' := ro13 + i * 2) (i := ((i : Nat) : Int)) hA14 (by kernel_rfl) (by kernel_rfl) (by omega) (by omega) (by omega)) (d := (some 37)) (by kernel_rfl) rfl ?_
        refine Dr.takes (fuel' := 4) (is' := [21, 20, 19, 18, 17, 16, 15, 14, 13, 12, 11, 10, 9, 8, 7, 6, 5, 4, 3, 2, 1, 0]) [21] [(0, (Value.slice A la.length c)), (1, (Value.slice B lb.length d)), (5, (i64 ((i : Nat) : Int))), (14, (Value.bool true)), (28, (Value.bool false)), (34, (Value.string (str x.cmd))), (38, (Value.pointer (some ⟨rb12, ro13 + i * 2 + 1, none⟩)))] (by kernel_rfl) rfl (by kernel_rfl) ?_
        refine Dr.take (i := 22) (v := (Value.slice y.A y.cmd.length y.c)) (by kernel_rfl) (by kernel_rfl) (fun wz hS => Runs.load (t := 23) (a := ⟨rb12, ro13 + i * 2 + 1, none⟩) (by kernel_rfl) (RdT.ldf (f := EntP.cells) (x := y) (o := 1) EntP.two (Rd.keep0 (by omega) hB (K5.trans hS (fun _ _ h => h) (fun _ _ h => h))) (by kernel_rfl) hA14 hx15 rfl)) (d := (some 39)) (by kernel_rfl) rfl ?_
        refine Dr.take (i := 23) (v := (Value.string (str y.cmd))) (by kernel_rfl) (by kernel_rfl) (fun wz hS => Runs.b2s (s := 23) (d := 9) (e := 5) (by kernel_rfl) (by kernel_rfl) (by kernel_rfl) (Rd.keep0 (by omega) (hBy.keep0 (by omega) K5) hS)) (d := (some 40)) (by kernel_rfl) rfl ?_
        refine Dr.take (i := 24) (v := (Value.bool (!(x.cmd == y.cmd)))) (by kernel_rfl) (by kernel_rfl) (fun wz hS => Runs.strne (t := 9) (by kernel_rfl)) (d := (some 41)) (by kernel_rfl) rfl ?_
        refine Dr.takes (fuel' := 0) (is' := [25, 24, 23, 22, 21, 20, 19, 18, 17, 16, 15, 14, 13, 12, 11, 10, 9, 8, 7, 6, 5, 4, 3, 2, 1, 0]) [25] [(0, (Value.slice A la.length c)), (1, (Value.slice B lb.length d)), (5, (i64 ((i : Nat) : Int))), (14, (Value.bool true)), (42, (Value.bool (!(x.cmd == y.cmd))))] (by kernel_rfl) rfl (by kernel_rfl) ?_
        refine Dr.done (by kernel_rfl) ?_
        refine q_cond (o := .tmp 42) (b := (!(x.cmd == y.cmd))) (by kernel_rfl) rfl (fun h21 => ?_) (fun h21 => ?_)
        · rw [h21]
          have p22 : (x.cmd == y.cmd) = false := (bnot_true h21)
          have hcmd := (bnot_true h21)
          refine q_seq (by kernel_rfl) ?_
          refine q_region (by kernel_rfl) ?_
          refine Ops.regs 1 [(0, (Value.slice A la.length c)), (1, (Value.slice B lb.length d)), (4, (Value.bool false)), (5, (i64 ((i : Nat) : Int))), (14, (Value.bool true)), (42, (Value.bool true))] (j := 1) (by kernel_rfl) (by kernel_rfl) ?_
          refine Ops.done (by kernel_rfl) ?_
          refine q_ret (by kernel_rfl) ?_
          refine ⟨(Value.bool false), retv_tmp rfl rfl, ?_⟩
          exact ⟨false, rfl, ⟨fun h => (by cases h), fun h => by have := key_at hXx; rw [h, key_at hXy] at this; have := Option.some.inj this; simp only [EntP.key, Prod.mk.injEq] at this; rw [this.2] at hcmd; simp at hcmd⟩, K5⟩
        · rw [h21]
          have p23 : (x.cmd == y.cmd) = true := (bnot_false h21)
          have hcmd := (bnot_false h21)
          refine q_skip (by kernel_rfl) ?_
          refine q_region (by kernel_rfl) ?_
          refine Ops.regs 2 [(0, (Value.slice A la.length c)), (1, (Value.slice B lb.length d)), (5, (i64 ((i : Nat) : Int))), (14, (Value.bool true)), (16, (i64 (IntKind.i64.wrap (((i : Nat) : Int) + 1)))), (42, (Value.bool false))] (j := 2) (by kernel_rfl) (by kernel_rfl) ?_
          have e24 : IntKind.i64.wrap (((i : Nat) : Int) + 1) = ((i + 1 : Nat) : Int) := by rw [wrap_i64 (by omega) (by omega)]; omega
          rw [e24]
          clear e24
          refine Ops.regs 1 [(0, (Value.slice A la.length c)), (1, (Value.slice B lb.length d)), (5, (i64 ((i + 1 : Nat) : Int))), (14, (Value.bool true)), (42, (Value.bool false))] (j := 3) (by kernel_rfl) (by kernel_rfl) ?_
          refine Ops.keep (R := [(0, (Value.slice A la.length c)), (1, (Value.slice B lb.length d)), (5, (i64 ((i + 1 : Nat) : Int)))]) (by kernel_rfl) ?_
          refine Ops.done (by kernel_rfl) ?_
          exact ⟨i + 1, ⟨rfl, (by rw [key_take hXx, key_take hXy, hE]; simp only [EntP.key]; rw [show x.term = y.term from by omega, eq_of_beq hcmd]), (by omega), K5⟩, (show la.length - (i + 1) < la.length - i from by omega)⟩
    · rw [h6]
      have p25 : ¬ (((i : Nat) : Int) < ((la.length : Nat) : Int)) := of_decide_eq_false h6
      refine q_exit (id := 0) (by kernel_rfl) ?_
      refine q_seq (by kernel_rfl) ?_
      refine q_region (by kernel_rfl) ?_
      refine Ops.regs 1 [(4, (Value.bool true))] (j := 1) (by kernel_rfl) (by kernel_rfl) ?_
      refine Ops.done (by kernel_rfl) ?_
      refine q_ret (by kernel_rfl) ?_
      refine ⟨(Value.bool true), retv_tmp rfl rfl, ?_⟩
      exact ⟨true, rfl, ⟨fun _ => by rw [List.take_of_length_le (by omega), List.take_of_length_le (by omega)] at hE; exact hE, fun _ => rfl⟩, K5⟩

set_option maxHeartbeats 4000000 in
theorem SameMsg_calls (w : World) (m : MsgP) (E : Option Addr) (ec : Nat) (D : Option Addr) (dc : Nat) (n : MsgP) (G : Option Addr) (gc : Nat) (F : Option Addr) (fc : Nat) (hE : RdE w (.slice E m.entries.length ec) m.entries) (hC : EntsIn w m.entries) (hD : RdB w (.slice D m.data.length dc) m.data) (hG : RdE w (.slice G n.entries.length gc) n.entries) (hCn : EntsIn w n.entries) (hF : RdB w (.slice F n.data.length fc) n.data) : Calls Try.prog 38 ⟨[(agg [(i64 m.kind), (i64 m.group), (i64 m.frm), (i64 m.to), (i64 m.term), (i64 m.index), (i64 m.logTerm), (i64 m.commit), (Value.bool m.ok), (Value.slice E m.entries.length ec), (Value.slice D m.data.length dc)]), (agg [(i64 n.kind), (i64 n.group), (i64 n.frm), (i64 n.to), (i64 n.term), (i64 n.index), (i64 n.logTerm), (i64 n.commit), (Value.bool n.ok), (Value.slice G n.entries.length gc), (Value.slice F n.data.length fc)])]⟩ w (fun e w' => ∃ t, e = .returned (.bool t) ∧ (t = true ↔ m.Same n) ∧ Keeps none_ w w') := by
  have K0 : Keeps none_ w w := Keeps.refl w
  refine q_calls Try.func38 (by kernel_rfl) (by kernel_rfl) ?_
  refine q_seq (by kernel_rfl) ?_
  refine q_region (by kernel_rfl) ?_
  refine Ops.new (o := rowL [(i64 m.kind), (i64 m.group), (i64 m.frm), (i64 m.to), (i64 m.term), (i64 m.index), (i64 m.logTerm), (i64 m.commit), (Value.bool m.ok), (Value.slice E m.entries.length ec), (Value.slice D m.data.length dc)] 49) (V := fun b => (ptr b)) (by kernel_rfl) (d := (some 2)) (by kernel_rfl) (fun b => rfl) (fun b1 w2 hb3 H4 K5 hs6 => ?_)
  have nb1 : w.heap.size ≤ b1 := by have := K0.size; omega
  replace K0 := K0.trans K5 (U := none_) (fun i h1 h2 => h2) (fun i h1 h2 => by exact h2)
  clear K5 hs6
  refine Ops.new (o := rowL [(i64 n.kind), (i64 n.group), (i64 n.frm), (i64 n.to), (i64 n.term), (i64 n.index), (i64 n.logTerm), (i64 n.commit), (Value.bool n.ok), (Value.slice G n.entries.length gc), (Value.slice F n.data.length fc)] 49) (V := fun b => (ptr b)) (by kernel_rfl) (d := (some 3)) (by kernel_rfl) (fun b => rfl) (fun b7 w8 hb9 H10 K11 hs12 => ?_)
  have lb7 : b1 < b7 := by have := H4.lt; omega
  have nb7 : w.heap.size ≤ b7 := by have := K0.size; omega
  replace K0 := K0.trans K11 (U := none_) (fun i h1 h2 => h2) (fun i h1 h2 => by exact h2)
  replace H4 := H4.keep K11 (fun h => h)
  clear K11 hs12
  refine Ops.regs 1 [(2, (ptr b1)), (3, (ptr b7)), (4, (Value.bool false))] (j := 3) (by kernel_rfl) (by kernel_rfl) ?_
  refine Ops.done (by kernel_rfl) ?_
  refine q_seq (by kernel_rfl) ?_
  refine q_region (by kernel_rfl) ?_
  refine Ops.regs 1 [(2, (ptr b1)), (3, (ptr b7)), (4, (Value.bool false)), (5, (ptr b1))] (j := 1) (by kernel_rfl) (by kernel_rfl) ?_
  refine Ops.go (v := (i64 m.kind)) (by kernel_rfl) (Runs.load (t := 3) (a := ⟨b1, 0, none⟩) (by kernel_rfl) (H4.loads (by kernel_rfl))) (d := (some 6)) (by kernel_rfl) rfl ?_
  refine Ops.regs 1 [(2, (ptr b1)), (3, (ptr b7)), (4, (Value.bool false)), (6, (i64 m.kind)), (7, (ptr b7))] (j := 3) (by kernel_rfl) (by kernel_rfl) ?_
  refine Ops.go (v := (i64 n.kind)) (by kernel_rfl) (Runs.load (t := 3) (a := ⟨b7, 0, none⟩) (by kernel_rfl) (H10.loads (by kernel_rfl))) (d := (some 8)) (by kernel_rfl) rfl ?_
  refine Ops.regs 2 [(2, (ptr b1)), (3, (ptr b7)), (4, (Value.bool false)), (10, (Value.bool (m.kind == n.kind)))] (j := 6) (by kernel_rfl) (by kernel_rfl) ?_
  refine Ops.split (m.kind == n.kind) (fun h13 => ?_) (fun h13 => ?_)
  · rw [h13]
    have p14 : m.kind = n.kind := of_beq_t h13
    refine Ops.regs 1 [(2, (ptr b1)), (3, (ptr b7)), (4, (Value.bool false)), (10, (Value.bool true)), (11, (Value.pointer (some ⟨b1, 1, none⟩)))] (j := 7) (by kernel_rfl) (by kernel_rfl) ?_
    refine Ops.go (v := (i64 m.group)) (by kernel_rfl) (Runs.load (t := 3) (a := ⟨b1, 1, none⟩) (by kernel_rfl) (H4.loads (by kernel_rfl))) (d := (some 12)) (by kernel_rfl) rfl ?_
    refine Ops.regs 1 [(2, (ptr b1)), (3, (ptr b7)), (4, (Value.bool false)), (10, (Value.bool true)), (12, (i64 m.group)), (13, (Value.pointer (some ⟨b7, 1, none⟩)))] (j := 9) (by kernel_rfl) (by kernel_rfl) ?_
    refine Ops.go (v := (i64 n.group)) (by kernel_rfl) (Runs.load (t := 3) (a := ⟨b7, 1, none⟩) (by kernel_rfl) (H10.loads (by kernel_rfl))) (d := (some 14)) (by kernel_rfl) rfl ?_
    refine Ops.regs 3 [(2, (ptr b1)), (3, (ptr b7)), (4, (Value.bool false)), (17, (Value.bool (m.group == n.group)))] (j := 13) (by kernel_rfl) (by kernel_rfl) ?_
    refine Ops.split (m.group == n.group) (fun h15 => ?_) (fun h15 => ?_)
    · rw [h15]
      have p16 : m.group = n.group := of_beq_t h15
      refine Ops.regs 1 [(2, (ptr b1)), (3, (ptr b7)), (4, (Value.bool false)), (17, (Value.bool true)), (18, (Value.pointer (some ⟨b1, 2, none⟩)))] (j := 14) (by kernel_rfl) (by kernel_rfl) ?_
      refine Ops.go (v := (i64 m.frm)) (by kernel_rfl) (Runs.load (t := 3) (a := ⟨b1, 2, none⟩) (by kernel_rfl) (H4.loads (by kernel_rfl))) (d := (some 19)) (by kernel_rfl) rfl ?_
      refine Ops.regs 1 [(2, (ptr b1)), (3, (ptr b7)), (4, (Value.bool false)), (17, (Value.bool true)), (19, (i64 m.frm)), (20, (Value.pointer (some ⟨b7, 2, none⟩)))] (j := 16) (by kernel_rfl) (by kernel_rfl) ?_
      refine Ops.go (v := (i64 n.frm)) (by kernel_rfl) (Runs.load (t := 3) (a := ⟨b7, 2, none⟩) (by kernel_rfl) (H10.loads (by kernel_rfl))) (d := (some 21)) (by kernel_rfl) rfl ?_
      refine Ops.regs 3 [(2, (ptr b1)), (3, (ptr b7)), (4, (Value.bool false)), (24, (Value.bool (m.frm == n.frm)))] (j := 20) (by kernel_rfl) (by kernel_rfl) ?_
      refine Ops.split (m.frm == n.frm) (fun h17 => ?_) (fun h17 => ?_)
      · rw [h17]
        have p18 : m.frm = n.frm := of_beq_t h17
        refine Ops.regs 1 [(2, (ptr b1)), (3, (ptr b7)), (4, (Value.bool false)), (24, (Value.bool true)), (25, (Value.pointer (some ⟨b1, 3, none⟩)))] (j := 21) (by kernel_rfl) (by kernel_rfl) ?_
        refine Ops.go (v := (i64 m.to)) (by kernel_rfl) (Runs.load (t := 3) (a := ⟨b1, 3, none⟩) (by kernel_rfl) (H4.loads (by kernel_rfl))) (d := (some 26)) (by kernel_rfl) rfl ?_
        refine Ops.regs 1 [(2, (ptr b1)), (3, (ptr b7)), (4, (Value.bool false)), (24, (Value.bool true)), (26, (i64 m.to)), (27, (Value.pointer (some ⟨b7, 3, none⟩)))] (j := 23) (by kernel_rfl) (by kernel_rfl) ?_
        refine Ops.go (v := (i64 n.to)) (by kernel_rfl) (Runs.load (t := 3) (a := ⟨b7, 3, none⟩) (by kernel_rfl) (H10.loads (by kernel_rfl))) (d := (some 28)) (by kernel_rfl) rfl ?_
        refine Ops.regs 3 [(2, (ptr b1)), (3, (ptr b7)), (4, (Value.bool false)), (31, (Value.bool (m.to == n.to)))] (j := 27) (by kernel_rfl) (by kernel_rfl) ?_
        refine Ops.split (m.to == n.to) (fun h19 => ?_) (fun h19 => ?_)
        · rw [h19]
          have p20 : m.to = n.to := of_beq_t h19
          refine Ops.regs 1 [(2, (ptr b1)), (3, (ptr b7)), (4, (Value.bool false)), (31, (Value.bool true)), (32, (Value.pointer (some ⟨b1, 4, none⟩)))] (j := 28) (by kernel_rfl) (by kernel_rfl) ?_
          refine Ops.go (v := (i64 m.term)) (by kernel_rfl) (Runs.load (t := 2) (a := ⟨b1, 4, none⟩) (by kernel_rfl) (H4.loads (by kernel_rfl))) (d := (some 33)) (by kernel_rfl) rfl ?_
          refine Ops.regs 1 [(2, (ptr b1)), (3, (ptr b7)), (4, (Value.bool false)), (31, (Value.bool true)), (33, (i64 m.term)), (34, (Value.pointer (some ⟨b7, 4, none⟩)))] (j := 30) (by kernel_rfl) (by kernel_rfl) ?_
          refine Ops.go (v := (i64 n.term)) (by kernel_rfl) (Runs.load (t := 2) (a := ⟨b7, 4, none⟩) (by kernel_rfl) (H10.loads (by kernel_rfl))) (d := (some 35)) (by kernel_rfl) rfl ?_
          refine Ops.regs 3 [(2, (ptr b1)), (3, (ptr b7)), (4, (Value.bool false)), (38, (Value.bool (m.term == n.term)))] (j := 34) (by kernel_rfl) (by kernel_rfl) ?_
          refine Ops.split (m.term == n.term) (fun h21 => ?_) (fun h21 => ?_)
          · rw [h21]
            have p22 : m.term = n.term := of_beq_t h21
            refine Ops.regs 1 [(2, (ptr b1)), (3, (ptr b7)), (4, (Value.bool false)), (38, (Value.bool true)), (39, (Value.pointer (some ⟨b1, 5, none⟩)))] (j := 35) (by kernel_rfl) (by kernel_rfl) ?_
            refine Ops.go (v := (i64 m.index)) (by kernel_rfl) (Runs.load (t := 2) (a := ⟨b1, 5, none⟩) (by kernel_rfl) (H4.loads (by kernel_rfl))) (d := (some 40)) (by kernel_rfl) rfl ?_
            refine Ops.regs 1 [(2, (ptr b1)), (3, (ptr b7)), (4, (Value.bool false)), (38, (Value.bool true)), (40, (i64 m.index)), (41, (Value.pointer (some ⟨b7, 5, none⟩)))] (j := 37) (by kernel_rfl) (by kernel_rfl) ?_
            refine Ops.go (v := (i64 n.index)) (by kernel_rfl) (Runs.load (t := 2) (a := ⟨b7, 5, none⟩) (by kernel_rfl) (H10.loads (by kernel_rfl))) (d := (some 42)) (by kernel_rfl) rfl ?_
            refine Ops.regs 3 [(2, (ptr b1)), (3, (ptr b7)), (4, (Value.bool false)), (45, (Value.bool (m.index == n.index)))] (j := 41) (by kernel_rfl) (by kernel_rfl) ?_
            refine Ops.split (m.index == n.index) (fun h23 => ?_) (fun h23 => ?_)
            · rw [h23]
              have p24 : m.index = n.index := of_beq_t h23
              refine Ops.regs 1 [(2, (ptr b1)), (3, (ptr b7)), (4, (Value.bool false)), (45, (Value.bool true)), (46, (Value.pointer (some ⟨b1, 6, none⟩)))] (j := 42) (by kernel_rfl) (by kernel_rfl) ?_
              refine Ops.go (v := (i64 m.logTerm)) (by kernel_rfl) (Runs.load (t := 2) (a := ⟨b1, 6, none⟩) (by kernel_rfl) (H4.loads (by kernel_rfl))) (d := (some 47)) (by kernel_rfl) rfl ?_
              refine Ops.regs 1 [(2, (ptr b1)), (3, (ptr b7)), (4, (Value.bool false)), (45, (Value.bool true)), (47, (i64 m.logTerm)), (48, (Value.pointer (some ⟨b7, 6, none⟩)))] (j := 44) (by kernel_rfl) (by kernel_rfl) ?_
              refine Ops.go (v := (i64 n.logTerm)) (by kernel_rfl) (Runs.load (t := 2) (a := ⟨b7, 6, none⟩) (by kernel_rfl) (H10.loads (by kernel_rfl))) (d := (some 49)) (by kernel_rfl) rfl ?_
              refine Ops.regs 3 [(2, (ptr b1)), (3, (ptr b7)), (4, (Value.bool false)), (52, (Value.bool (m.logTerm == n.logTerm)))] (j := 48) (by kernel_rfl) (by kernel_rfl) ?_
              refine Ops.split (m.logTerm == n.logTerm) (fun h25 => ?_) (fun h25 => ?_)
              · rw [h25]
                have p26 : m.logTerm = n.logTerm := of_beq_t h25
                refine Ops.regs 1 [(2, (ptr b1)), (3, (ptr b7)), (4, (Value.bool false)), (52, (Value.bool true)), (53, (Value.pointer (some ⟨b1, 7, none⟩)))] (j := 49) (by kernel_rfl) (by kernel_rfl) ?_
                refine Ops.go (v := (i64 m.commit)) (by kernel_rfl) (Runs.load (t := 2) (a := ⟨b1, 7, none⟩) (by kernel_rfl) (H4.loads (by kernel_rfl))) (d := (some 54)) (by kernel_rfl) rfl ?_
                refine Ops.regs 1 [(2, (ptr b1)), (3, (ptr b7)), (4, (Value.bool false)), (52, (Value.bool true)), (54, (i64 m.commit)), (55, (Value.pointer (some ⟨b7, 7, none⟩)))] (j := 51) (by kernel_rfl) (by kernel_rfl) ?_
                refine Ops.go (v := (i64 n.commit)) (by kernel_rfl) (Runs.load (t := 2) (a := ⟨b7, 7, none⟩) (by kernel_rfl) (H10.loads (by kernel_rfl))) (d := (some 56)) (by kernel_rfl) rfl ?_
                refine Ops.regs 3 [(2, (ptr b1)), (3, (ptr b7)), (4, (Value.bool false)), (59, (Value.bool (m.commit == n.commit)))] (j := 55) (by kernel_rfl) (by kernel_rfl) ?_
                refine Ops.split (m.commit == n.commit) (fun h27 => ?_) (fun h27 => ?_)
                · rw [h27]
                  have p28 : m.commit = n.commit := of_beq_t h27
                  refine Ops.regs 1 [(2, (ptr b1)), (3, (ptr b7)), (4, (Value.bool false)), (59, (Value.bool true)), (60, (Value.pointer (some ⟨b1, 8, none⟩)))] (j := 56) (by kernel_rfl) (by kernel_rfl) ?_
                  refine Ops.go (v := (Value.bool m.ok)) (by kernel_rfl) (Runs.load (t := 4) (a := ⟨b1, 8, none⟩) (by kernel_rfl) (H4.loads (by kernel_rfl))) (d := (some 61)) (by kernel_rfl) rfl ?_
                  refine Ops.regs 1 [(2, (ptr b1)), (3, (ptr b7)), (4, (Value.bool false)), (59, (Value.bool true)), (61, (Value.bool m.ok)), (62, (Value.pointer (some ⟨b7, 8, none⟩)))] (j := 58) (by kernel_rfl) (by kernel_rfl) ?_
                  refine Ops.go (v := (Value.bool n.ok)) (by kernel_rfl) (Runs.load (t := 4) (a := ⟨b7, 8, none⟩) (by kernel_rfl) (H10.loads (by kernel_rfl))) (d := (some 63)) (by kernel_rfl) rfl ?_
                  refine Ops.split m.ok (fun h29 => ?_) (fun h29 => ?_)
                  · rw [h29]
                    have p30 : m.ok = true := h29
                    have hmo := h29
                    refine Ops.split n.ok (fun h31 => ?_) (fun h31 => ?_)
                    · rw [h31]
                      have p32 : n.ok = true := h31
                      have hno := h31
                      refine Ops.regs 4 [(2, (ptr b1)), (3, (ptr b7)), (4, (Value.bool false)), (66, (Value.bool true)), (67, (Value.pointer (some ⟨b1, 9, none⟩)))] (j := 63) (by kernel_rfl) (by kernel_rfl) ?_
                      refine Ops.go (v := (Value.slice E m.entries.length ec)) (by kernel_rfl) (Runs.load (t := 47) (a := ⟨b1, 9, none⟩) (by kernel_rfl) (H4.loads (by kernel_rfl))) (d := (some 68)) (by kernel_rfl) rfl ?_
                      refine Ops.regs 1 [(2, (ptr b1)), (3, (ptr b7)), (4, (Value.bool false)), (66, (Value.bool true)), (68, (Value.slice E m.entries.length ec)), (69, (Value.pointer (some ⟨b7, 9, none⟩)))] (j := 65) (by kernel_rfl) (by kernel_rfl) ?_
                      refine Ops.go (v := (Value.slice G n.entries.length gc)) (by kernel_rfl) (Runs.load (t := 47) (a := ⟨b7, 9, none⟩) (by kernel_rfl) (H10.loads (by kernel_rfl))) (d := (some 70)) (by kernel_rfl) rfl ?_
                      refine Ops.call (by kernel_rfl) (d := (some 71)) (by kernel_rfl) (SameEntries_calls _ E ec m.entries G gc n.entries (Rd.keep0 (by omega) hE K0) (Rd.keep0 (by omega) hG K0) (hC.keep K0) (hCn.keep K0)) ?_
                      rintro _ w36 ⟨t33, rfl, ht34, K35⟩
                      refine ⟨_, _, rfl, rfl, ?_⟩
                      replace K0 := K0.trans K35 (U := none_) (fun i h1 h2 => h2) (fun i h1 h2 => by exact h2)
                      replace H4 := H4.keep K35 (fun h => h)
                      replace H10 := H10.keep K35 (fun h => h)
                      clear K35
                      refine Ops.regs 2 [(2, (ptr b1)), (3, (ptr b7)), (4, (Value.bool false)), (73, (Value.bool t33))] (j := 69) (by kernel_rfl) (by kernel_rfl) ?_
                      refine Ops.split t33 (fun h37 => ?_) (fun h37 => ?_)
                      · rw [h37]
                        have p38 : t33 = true := h37
                        have htv := h37
                        refine Ops.regs 1 [(3, (ptr b7)), (4, (Value.bool false)), (73, (Value.bool true)), (74, (Value.pointer (some ⟨b1, 10, none⟩)))] (j := 70) (by kernel_rfl) (by kernel_rfl) ?_
                        refine Ops.go (v := (Value.slice D m.data.length dc)) (by kernel_rfl) (Runs.load (t := 23) (a := ⟨b1, 10, none⟩) (by kernel_rfl) (H4.loads (by kernel_rfl))) (d := (some 75)) (by kernel_rfl) rfl ?_
                        refine Ops.go (v := (Value.string (str m.data))) (by kernel_rfl) (Runs.b2s (s := 23) (d := 9) (e := 5) (by kernel_rfl) (by kernel_rfl) (by kernel_rfl) (hD.keep0 (by omega) K0)) (d := (some 76)) (by kernel_rfl) rfl ?_
                        refine Ops.regs 1 [(4, (Value.bool false)), (73, (Value.bool true)), (76, (Value.string (str m.data))), (77, (Value.pointer (some ⟨b7, 10, none⟩)))] (j := 73) (by kernel_rfl) (by kernel_rfl) ?_
                        refine Ops.go (v := (Value.slice F n.data.length fc)) (by kernel_rfl) (Runs.load (t := 23) (a := ⟨b7, 10, none⟩) (by kernel_rfl) (H10.loads (by kernel_rfl))) (d := (some 78)) (by kernel_rfl) rfl ?_
                        refine Ops.go (v := (Value.string (str n.data))) (by kernel_rfl) (Runs.b2s (s := 23) (d := 9) (e := 5) (by kernel_rfl) (by kernel_rfl) (by kernel_rfl) (hF.keep0 (by omega) K0)) (d := (some 79)) (by kernel_rfl) rfl ?_
                        refine Ops.go (v := (Value.bool (m.data == n.data))) (by kernel_rfl) (Runs.streq (t := 9) (by kernel_rfl)) (d := (some 80)) (by kernel_rfl) rfl ?_
                        refine Ops.regs 2 [(4, (Value.bool (m.data == n.data)))] (j := 78) (by kernel_rfl) (by kernel_rfl) ?_
                        refine Ops.done (by kernel_rfl) ?_
                        refine q_ret (by kernel_rfl) ?_
                        refine ⟨(Value.bool (m.data == n.data)), retv_tmp rfl rfl, ?_⟩
                        exact ⟨_, rfl, ⟨fun h => ⟨by omega, by omega, by omega, by omega, by omega, by omega, by omega, by omega, by rw [hmo, hno], ht34.1 htv, eq_of_beq h⟩, fun h => by rw [h.data]; simp⟩, K0⟩
                      · rw [h37]
                        have p39 : t33 = false := h37
                        have htv := h37
                        refine Ops.regs 9 [(4, (Value.bool false))] (j := 78) (by kernel_rfl) (by kernel_rfl) ?_
                        refine Ops.done (by kernel_rfl) ?_
                        refine q_ret (by kernel_rfl) ?_
                        refine ⟨(Value.bool false), retv_tmp rfl rfl, ?_⟩
                        exact ⟨false, rfl, ⟨fun h => (by cases h), fun h => by first | (have h1 := h.kind; have h2 := h.group; have h3 := h.frm; have h4 := h.to; have h5 := h.term; have h6 := h.index; have h7 := h.logTerm; have h8 := h.commit; omega) | (have h9 := h.ok; rw [hmo, hno] at h9; cases h9; done) | (have h10 := ht34.2 h.ents; rw [htv] at h10; cases h10; done)⟩, K0⟩
                    · rw [h31]
                      have p40 : n.ok = false := h31
                      have hno := h31
                      refine Ops.regs 19 [(4, (Value.bool false))] (j := 78) (by kernel_rfl) (by kernel_rfl) ?_
                      refine Ops.done (by kernel_rfl) ?_
                      refine q_ret (by kernel_rfl) ?_
                      refine ⟨(Value.bool false), retv_tmp rfl rfl, ?_⟩
                      exact ⟨false, rfl, ⟨fun h => (by cases h), fun h => by first | (have h1 := h.kind; have h2 := h.group; have h3 := h.frm; have h4 := h.to; have h5 := h.term; have h6 := h.index; have h7 := h.logTerm; have h8 := h.commit; omega) | (have h9 := h.ok; rw [hmo, hno] at h9; cases h9; done) | (have h10 := ht34.2 h.ents; rw [htv] at h10; cases h10; done)⟩, K0⟩
                  · rw [h29]
                    have p41 : m.ok = false := h29
                    have hmo := h29
                    refine Ops.split n.ok (fun h42 => ?_) (fun h42 => ?_)
                    · rw [h42]
                      have p43 : n.ok = true := h42
                      have hno := h42
                      refine Ops.regs 19 [(4, (Value.bool false))] (j := 78) (by kernel_rfl) (by kernel_rfl) ?_
                      refine Ops.done (by kernel_rfl) ?_
                      refine q_ret (by kernel_rfl) ?_
                      refine ⟨(Value.bool false), retv_tmp rfl rfl, ?_⟩
                      exact ⟨false, rfl, ⟨fun h => (by cases h), fun h => by first | (have h1 := h.kind; have h2 := h.group; have h3 := h.frm; have h4 := h.to; have h5 := h.term; have h6 := h.index; have h7 := h.logTerm; have h8 := h.commit; omega) | (have h9 := h.ok; rw [hmo, hno] at h9; cases h9; done) | (have h10 := ht34.2 h.ents; rw [htv] at h10; cases h10; done)⟩, K0⟩
                    · rw [h42]
                      have p44 : n.ok = false := h42
                      have hno := h42
                      refine Ops.regs 4 [(2, (ptr b1)), (3, (ptr b7)), (4, (Value.bool false)), (66, (Value.bool true)), (67, (Value.pointer (some ⟨b1, 9, none⟩)))] (j := 63) (by kernel_rfl) (by kernel_rfl) ?_
                      refine Ops.go (v := (Value.slice E m.entries.length ec)) (by kernel_rfl) (Runs.load (t := 47) (a := ⟨b1, 9, none⟩) (by kernel_rfl) (H4.loads (by kernel_rfl))) (d := (some 68)) (by kernel_rfl) rfl ?_
                      refine Ops.regs 1 [(2, (ptr b1)), (3, (ptr b7)), (4, (Value.bool false)), (66, (Value.bool true)), (68, (Value.slice E m.entries.length ec)), (69, (Value.pointer (some ⟨b7, 9, none⟩)))] (j := 65) (by kernel_rfl) (by kernel_rfl) ?_
                      refine Ops.go (v := (Value.slice G n.entries.length gc)) (by kernel_rfl) (Runs.load (t := 47) (a := ⟨b7, 9, none⟩) (by kernel_rfl) (H10.loads (by kernel_rfl))) (d := (some 70)) (by kernel_rfl) rfl ?_
                      refine Ops.call (by kernel_rfl) (d := (some 71)) (by kernel_rfl) (SameEntries_calls _ E ec m.entries G gc n.entries (Rd.keep0 (by omega) hE K0) (Rd.keep0 (by omega) hG K0) (hC.keep K0) (hCn.keep K0)) ?_
                      rintro _ w48 ⟨t45, rfl, ht46, K47⟩
                      refine ⟨_, _, rfl, rfl, ?_⟩
                      replace K0 := K0.trans K47 (U := none_) (fun i h1 h2 => h2) (fun i h1 h2 => by exact h2)
                      replace H4 := H4.keep K47 (fun h => h)
                      replace H10 := H10.keep K47 (fun h => h)
                      clear K47
                      refine Ops.regs 2 [(2, (ptr b1)), (3, (ptr b7)), (4, (Value.bool false)), (73, (Value.bool t45))] (j := 69) (by kernel_rfl) (by kernel_rfl) ?_
                      refine Ops.split t45 (fun h49 => ?_) (fun h49 => ?_)
                      · rw [h49]
                        have p50 : t45 = true := h49
                        have htv := h49
                        refine Ops.regs 1 [(3, (ptr b7)), (4, (Value.bool false)), (73, (Value.bool true)), (74, (Value.pointer (some ⟨b1, 10, none⟩)))] (j := 70) (by kernel_rfl) (by kernel_rfl) ?_
                        refine Ops.go (v := (Value.slice D m.data.length dc)) (by kernel_rfl) (Runs.load (t := 23) (a := ⟨b1, 10, none⟩) (by kernel_rfl) (H4.loads (by kernel_rfl))) (d := (some 75)) (by kernel_rfl) rfl ?_
                        refine Ops.go (v := (Value.string (str m.data))) (by kernel_rfl) (Runs.b2s (s := 23) (d := 9) (e := 5) (by kernel_rfl) (by kernel_rfl) (by kernel_rfl) (hD.keep0 (by omega) K0)) (d := (some 76)) (by kernel_rfl) rfl ?_
                        refine Ops.regs 1 [(4, (Value.bool false)), (73, (Value.bool true)), (76, (Value.string (str m.data))), (77, (Value.pointer (some ⟨b7, 10, none⟩)))] (j := 73) (by kernel_rfl) (by kernel_rfl) ?_
                        refine Ops.go (v := (Value.slice F n.data.length fc)) (by kernel_rfl) (Runs.load (t := 23) (a := ⟨b7, 10, none⟩) (by kernel_rfl) (H10.loads (by kernel_rfl))) (d := (some 78)) (by kernel_rfl) rfl ?_
                        refine Ops.go (v := (Value.string (str n.data))) (by kernel_rfl) (Runs.b2s (s := 23) (d := 9) (e := 5) (by kernel_rfl) (by kernel_rfl) (by kernel_rfl) (hF.keep0 (by omega) K0)) (d := (some 79)) (by kernel_rfl) rfl ?_
                        refine Ops.go (v := (Value.bool (m.data == n.data))) (by kernel_rfl) (Runs.streq (t := 9) (by kernel_rfl)) (d := (some 80)) (by kernel_rfl) rfl ?_
                        refine Ops.regs 2 [(4, (Value.bool (m.data == n.data)))] (j := 78) (by kernel_rfl) (by kernel_rfl) ?_
                        refine Ops.done (by kernel_rfl) ?_
                        refine q_ret (by kernel_rfl) ?_
                        refine ⟨(Value.bool (m.data == n.data)), retv_tmp rfl rfl, ?_⟩
                        exact ⟨_, rfl, ⟨fun h => ⟨by omega, by omega, by omega, by omega, by omega, by omega, by omega, by omega, by rw [hmo, hno], ht46.1 htv, eq_of_beq h⟩, fun h => by rw [h.data]; simp⟩, K0⟩
                      · rw [h49]
                        have p51 : t45 = false := h49
                        have htv := h49
                        refine Ops.regs 9 [(4, (Value.bool false))] (j := 78) (by kernel_rfl) (by kernel_rfl) ?_
                        refine Ops.done (by kernel_rfl) ?_
                        refine q_ret (by kernel_rfl) ?_
                        refine ⟨(Value.bool false), retv_tmp rfl rfl, ?_⟩
                        exact ⟨false, rfl, ⟨fun h => (by cases h), fun h => by first | (have h1 := h.kind; have h2 := h.group; have h3 := h.frm; have h4 := h.to; have h5 := h.term; have h6 := h.index; have h7 := h.logTerm; have h8 := h.commit; omega) | (have h9 := h.ok; rw [hmo, hno] at h9; cases h9; done) | (have h10 := ht46.2 h.ents; rw [htv] at h10; cases h10; done)⟩, K0⟩
                · rw [h27]
                  have p52 : ¬ (m.commit = n.commit) := of_beq_f h27
                  refine Ops.regs 23 [(4, (Value.bool false))] (j := 78) (by kernel_rfl) (by kernel_rfl) ?_
                  refine Ops.done (by kernel_rfl) ?_
                  refine q_ret (by kernel_rfl) ?_
                  refine ⟨(Value.bool false), retv_tmp rfl rfl, ?_⟩
                  exact ⟨false, rfl, ⟨fun h => (by cases h), fun h => by first | (have h1 := h.kind; have h2 := h.group; have h3 := h.frm; have h4 := h.to; have h5 := h.term; have h6 := h.index; have h7 := h.logTerm; have h8 := h.commit; omega) | (have h9 := h.ok; rw [hmo, hno] at h9; cases h9; done) | (have h10 := ht46.2 h.ents; rw [htv] at h10; cases h10; done)⟩, K0⟩
              · rw [h25]
                have p53 : ¬ (m.logTerm = n.logTerm) := of_beq_f h25
                refine Ops.regs 30 [(4, (Value.bool false))] (j := 78) (by kernel_rfl) (by kernel_rfl) ?_
                refine Ops.done (by kernel_rfl) ?_
                refine q_ret (by kernel_rfl) ?_
                refine ⟨(Value.bool false), retv_tmp rfl rfl, ?_⟩
                exact ⟨false, rfl, ⟨fun h => (by cases h), fun h => by first | (have h1 := h.kind; have h2 := h.group; have h3 := h.frm; have h4 := h.to; have h5 := h.term; have h6 := h.index; have h7 := h.logTerm; have h8 := h.commit; omega) | (have h9 := h.ok; rw [hmo, hno] at h9; cases h9; done) | (have h10 := ht46.2 h.ents; rw [htv] at h10; cases h10; done)⟩, K0⟩
            · rw [h23]
              have p54 : ¬ (m.index = n.index) := of_beq_f h23
              refine Ops.regs 37 [(4, (Value.bool false))] (j := 78) (by kernel_rfl) (by kernel_rfl) ?_
              refine Ops.done (by kernel_rfl) ?_
              refine q_ret (by kernel_rfl) ?_
              refine ⟨(Value.bool false), retv_tmp rfl rfl, ?_⟩
              exact ⟨false, rfl, ⟨fun h => (by cases h), fun h => by first | (have h1 := h.kind; have h2 := h.group; have h3 := h.frm; have h4 := h.to; have h5 := h.term; have h6 := h.index; have h7 := h.logTerm; have h8 := h.commit; omega) | (have h9 := h.ok; rw [hmo, hno] at h9; cases h9; done) | (have h10 := ht46.2 h.ents; rw [htv] at h10; cases h10; done)⟩, K0⟩
          · rw [h21]
            have p55 : ¬ (m.term = n.term) := of_beq_f h21
            refine Ops.regs 44 [(4, (Value.bool false))] (j := 78) (by kernel_rfl) (by kernel_rfl) ?_
            refine Ops.done (by kernel_rfl) ?_
            refine q_ret (by kernel_rfl) ?_
            refine ⟨(Value.bool false), retv_tmp rfl rfl, ?_⟩
            exact ⟨false, rfl, ⟨fun h => (by cases h), fun h => by first | (have h1 := h.kind; have h2 := h.group; have h3 := h.frm; have h4 := h.to; have h5 := h.term; have h6 := h.index; have h7 := h.logTerm; have h8 := h.commit; omega) | (have h9 := h.ok; rw [hmo, hno] at h9; cases h9; done) | (have h10 := ht46.2 h.ents; rw [htv] at h10; cases h10; done)⟩, K0⟩
        · rw [h19]
          have p56 : ¬ (m.to = n.to) := of_beq_f h19
          refine Ops.regs 51 [(4, (Value.bool false))] (j := 78) (by kernel_rfl) (by kernel_rfl) ?_
          refine Ops.done (by kernel_rfl) ?_
          refine q_ret (by kernel_rfl) ?_
          refine ⟨(Value.bool false), retv_tmp rfl rfl, ?_⟩
          exact ⟨false, rfl, ⟨fun h => (by cases h), fun h => by first | (have h1 := h.kind; have h2 := h.group; have h3 := h.frm; have h4 := h.to; have h5 := h.term; have h6 := h.index; have h7 := h.logTerm; have h8 := h.commit; omega) | (have h9 := h.ok; rw [hmo, hno] at h9; cases h9; done) | (have h10 := ht46.2 h.ents; rw [htv] at h10; cases h10; done)⟩, K0⟩
      · rw [h17]
        have p57 : ¬ (m.frm = n.frm) := of_beq_f h17
        refine Ops.regs 58 [(4, (Value.bool false))] (j := 78) (by kernel_rfl) (by kernel_rfl) ?_
        refine Ops.done (by kernel_rfl) ?_
        refine q_ret (by kernel_rfl) ?_
        refine ⟨(Value.bool false), retv_tmp rfl rfl, ?_⟩
        exact ⟨false, rfl, ⟨fun h => (by cases h), fun h => by first | (have h1 := h.kind; have h2 := h.group; have h3 := h.frm; have h4 := h.to; have h5 := h.term; have h6 := h.index; have h7 := h.logTerm; have h8 := h.commit; omega) | (have h9 := h.ok; rw [hmo, hno] at h9; cases h9; done) | (have h10 := ht46.2 h.ents; rw [htv] at h10; cases h10; done)⟩, K0⟩
    · rw [h15]
      have p58 : ¬ (m.group = n.group) := of_beq_f h15
      refine Ops.regs 65 [(4, (Value.bool false))] (j := 78) (by kernel_rfl) (by kernel_rfl) ?_
      refine Ops.done (by kernel_rfl) ?_
      refine q_ret (by kernel_rfl) ?_
      refine ⟨(Value.bool false), retv_tmp rfl rfl, ?_⟩
      exact ⟨false, rfl, ⟨fun h => (by cases h), fun h => by first | (have h1 := h.kind; have h2 := h.group; have h3 := h.frm; have h4 := h.to; have h5 := h.term; have h6 := h.index; have h7 := h.logTerm; have h8 := h.commit; omega) | (have h9 := h.ok; rw [hmo, hno] at h9; cases h9; done) | (have h10 := ht46.2 h.ents; rw [htv] at h10; cases h10; done)⟩, K0⟩
  · rw [h13]
    have p59 : ¬ (m.kind = n.kind) := of_beq_f h13
    refine Ops.regs 72 [(4, (Value.bool false))] (j := 78) (by kernel_rfl) (by kernel_rfl) ?_
    refine Ops.done (by kernel_rfl) ?_
    refine q_ret (by kernel_rfl) ?_
    refine ⟨(Value.bool false), retv_tmp rfl rfl, ?_⟩
    exact ⟨false, rfl, ⟨fun h => (by cases h), fun h => by first | (have h1 := h.kind; have h2 := h.group; have h3 := h.frm; have h4 := h.to; have h5 := h.term; have h6 := h.index; have h7 := h.logTerm; have h8 := h.commit; omega) | (have h9 := h.ok; rw [hmo, hno] at h9; cases h9; done) | (have h10 := ht46.2 h.ents; rw [htv] at h10; cases h10; done)⟩, K0⟩
end Go.Proofs.Ytnepjfnkaigakaa
