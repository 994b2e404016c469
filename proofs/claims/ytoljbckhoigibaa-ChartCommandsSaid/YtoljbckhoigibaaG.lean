/- chart: the reference, New -/
import Derived.Test.YtoljbckhoigibaaProg
import Derived.Test.YtoljbckhoigibaaChart7
import Derived.Test.YtoljbckhoigibaaK3
import Derived.Test.YtoljbckhoigibaaF
set_option linter.unusedVariables false
namespace Go.Proofs.Ytoljbckhoigibaa
open Go.Q Go.RowKit
theorem ty44 : ElemTy Try.prog 44 3 1 8 := elemTy (by kernel_rfl)
theorem ty45 : ElemTy Try.prog 45 2 1 8 := elemTy (by kernel_rfl)

theorem RNew_bad (w : World) (s : Int) (h : ¬ (1 ≤ s ∧ s ≤ 3)) : Calls Try.prog 21 ⟨[(i64 s)]⟩ w (fun e w' => e = .returned (.tuple #[.pointer none, i64 1]) ∧ Keeps none_ w w') := by
  have K0 : Keeps none_ w w := Keeps.refl w
  refine q_calls Try.func21 (by kernel_rfl) (by kernel_rfl) ?_
  refine q_seq (by kernel_rfl) ?_
  refine q_region (by kernel_rfl) ?_
  refine Ops.regs 2 [(0, (i64 s)), (2, (Value.pointer none)), (3, (i64 0))] (j := 2) (by kernel_rfl) (by kernel_rfl) ?_
  refine Ops.done (by kernel_rfl) ?_
  refine q_seq (by kernel_rfl) ?_
  refine q_seq (by kernel_rfl) ?_
  refine q_region (by kernel_rfl) ?_
  refine Ops.regs 3 [(0, (i64 s)), (2, (Value.pointer none)), (3, (i64 0)), (8, (Value.bool (decide (s < 1))))] (j := 3) (by kernel_rfl) (by kernel_rfl) ?_
  refine Ops.split (decide (s < 1)) (fun h1 => ?_) (fun h1 => ?_)
  · rw [h1]
    have p2 : s < 1 := of_decide_eq_true h1
    refine Ops.regs 3 [(0, (i64 s)), (2, (Value.pointer none)), (3, (i64 0)), (11, (Value.bool true))] (j := 6) (by kernel_rfl) (by kernel_rfl) ?_
    refine Ops.done (by kernel_rfl) ?_
    refine q_then (o := .tmp 11) (by kernel_rfl) rfl ?_
    refine q_seq (by kernel_rfl) ?_
    refine q_region (by kernel_rfl) ?_
    refine Ops.regs 2 [(0, (i64 s)), (2, (Value.pointer none)), (3, (i64 1))] (j := 2) (by kernel_rfl) (by kernel_rfl) ?_
    refine Ops.done (by kernel_rfl) ?_
    refine q_ret (by kernel_rfl) ?_
    refine ⟨(Value.tuple #[(Value.pointer none), (i64 1)]), retv_tmp2 rfl rfl rfl, ?_⟩
    exact ⟨rfl, K0⟩
  · rw [h1]
    have p3 : ¬ (s < 1) := of_decide_eq_false h1
    refine Ops.regs 3 [(0, (i64 s)), (2, (Value.pointer none)), (3, (i64 0)), (11, (Value.bool (decide (s > 3))))] (j := 6) (by kernel_rfl) (by kernel_rfl) ?_
    refine Ops.done (by kernel_rfl) ?_
    have h4 : (decide (s > 3)) = true := decide_eq_true (by omega)
    rw [h4]
    refine q_then (o := .tmp 11) (by kernel_rfl) rfl ?_
    refine q_seq (by kernel_rfl) ?_
    refine q_region (by kernel_rfl) ?_
    refine Ops.regs 2 [(0, (i64 s)), (2, (Value.pointer none)), (3, (i64 1))] (j := 2) (by kernel_rfl) (by kernel_rfl) ?_
    refine Ops.done (by kernel_rfl) ?_
    refine q_ret (by kernel_rfl) ?_
    refine ⟨(Value.tuple #[(Value.pointer none), (i64 1)]), retv_tmp2 rfl rfl rfl, ?_⟩
    exact ⟨rfl, K0⟩

theorem RNew_ok (w : World) (s : Int) (h0 : 1 ≤ s) (h1 : s ≤ 3) : Calls Try.prog 21 ⟨[(i64 s)]⟩ w (fun e w' => ∃ b go co ro ge ce re, e = .returned (.tuple #[.pointer (some ⟨b, 0, none⟩), i64 0]) ∧ Keeps none_ w w' ∧ w.heap.size ≤ b ∧ w.heap.size ≤ go ∧ w.heap.size ≤ ge ∧ go ≠ b ∧ ge ≠ b ∧ go ≠ ge ∧ Has w' b (rowL (rchL (newCh s 16) go co ge ce) 54) ∧ Has w' go (rowL (ints (newCh s 16).owner ++ ro) 3) ∧ Has w' ge (rowL (ints (newCh s 16).epoch ++ re) 2)) := by
  have K0 : Keeps none_ w w := Keeps.refl w
  refine q_calls Try.func21 (by kernel_rfl) (by kernel_rfl) ?_
  refine q_seq (by kernel_rfl) ?_
  refine q_region (by kernel_rfl) ?_
  refine Ops.regs 2 [(0, (i64 s)), (2, (Value.pointer none)), (3, (i64 0))] (j := 2) (by kernel_rfl) (by kernel_rfl) ?_
  refine Ops.done (by kernel_rfl) ?_
  refine q_seq (by kernel_rfl) ?_
  refine q_seq (by kernel_rfl) ?_
  refine q_region (by kernel_rfl) ?_
  refine Ops.regs 3 [(0, (i64 s)), (2, (Value.pointer none)), (3, (i64 0)), (8, (Value.bool (decide (s < 1))))] (j := 3) (by kernel_rfl) (by kernel_rfl) ?_
  have h1 : (decide (s < 1)) = false := decide_eq_false (by omega)
  rw [h1]
  refine Ops.regs 3 [(0, (i64 s)), (2, (Value.pointer none)), (3, (i64 0)), (11, (Value.bool (decide (s > 3))))] (j := 6) (by kernel_rfl) (by kernel_rfl) ?_
  refine Ops.done (by kernel_rfl) ?_
  have h2 : (decide (s > 3)) = false := decide_eq_false (by omega)
  rw [h2]
  refine q_else (o := .tmp 11) (by kernel_rfl) rfl ?_
  refine q_skip (by kernel_rfl) ?_
  refine q_seq (by kernel_rfl) ?_
  refine q_region (by kernel_rfl) ?_
  refine Ops.regs 2 [(0, (i64 s)), (2, (Value.pointer none)), (3, (i64 0)), (13, (agg [(i64 s), (Value.slice none 0 0), (Value.slice none 0 0), (i64 0), (i64 0), (i64 0), (i64 0), (i64 0), (i64 0), (i64 0), (i64 0), (i64 0)]))] (j := 2) (by kernel_rfl) (by kernel_rfl) ?_
  refine Ops.new (o := rowL [(i64 s), (Value.slice none 0 0), (Value.slice none 0 0), (i64 0), (i64 0), (i64 0), (i64 0), (i64 0), (i64 0), (i64 0), (i64 0), (i64 0)] 54) (V := fun b => (Value.pointer (some ⟨b, 0, none⟩))) (by kernel_rfl) (d := (some 14)) (by kernel_rfl) (fun b => rfl) (fun b3 w4 hb5 H6 K7 hs8 => ?_)
  have nb3 : w.heap.size ≤ b3 := by have := K0.size; omega
  have K9 := K0.trans K7 (U := none_) (fun i h1 h2 => h2) (fun i h1 h2 => by exact h2)
  clear K0
  clear K7 hs8
  refine Ops.regs 1 [(0, (i64 s)), (2, (Value.pointer none)), (3, (i64 0)), (4, (Value.pointer (some ⟨b3, 0, none⟩)))] (j := 4) (by kernel_rfl) (by kernel_rfl) ?_
  refine Ops.done (by kernel_rfl) ?_
  refine q_seq (by kernel_rfl) ?_
  refine q_seq (by kernel_rfl) ?_
  refine q_region (by kernel_rfl) ?_
  refine Ops.regs 1 [(0, (i64 s)), (2, (Value.pointer none)), (3, (i64 0)), (4, (Value.pointer (some ⟨b3, 0, none⟩))), (5, (i64 0))] (j := 1) (by kernel_rfl) (by kernel_rfl) ?_
  refine Ops.done (by kernel_rfl) ?_
  refine q_block (id := 0) (by kernel_rfl) ?_
  refine q_keep (R := [(0, (i64 s)), (2, (Value.pointer none)), (3, (i64 0)), (4, (Value.pointer (some ⟨b3, 0, none⟩))), (5, (i64 0))]) (by kernel_rfl) ?_
  refine q_peel (fun (gs : Nat × Nat × Nat × (List Value) × Nat × Nat × (List Value)) L (wx : World) => match gs with | (k, go, co, ro, ge, ce, re) => L = [(0, (i64 s)), (2, (Value.pointer none)), (3, (i64 0)), (4, (Value.pointer (some ⟨b3, 0, none⟩))), (5, (i64 ((k : Nat) : Int)))] ∧ 1 ≤ k ∧ k ≤ 16 ∧ go ≠ b3 ∧ ge ≠ b3 ∧ go ≠ ge ∧ w.heap.size ≤ go ∧ w.heap.size ≤ ge ∧ (ints (ownl s k)).length + ro.length = co * 1 ∧ k ≤ co ∧ co ≤ maxLen ∧ (ints (List.replicate k (0 : Int))).length + re.length = ce * 1 ∧ k ≤ ce ∧ ce ≤ maxLen ∧ Keeps none_ w wx ∧ Has wx b3 (rowL [(i64 s), (Value.slice (some ⟨go, 0, none⟩) k co), (Value.slice (some ⟨ge, 0, none⟩) k ce), (i64 0), (i64 0), (i64 0), (i64 0), (i64 0), (i64 0), (i64 0), (i64 0), (i64 0)] 54) ∧ Has wx go (rowL (ints (ownl s k) ++ ro) 3) ∧ Has wx ge (rowL (ints (List.replicate k (0 : Int)) ++ re) 2)) (fun (gs : Nat × Nat × Nat × (List Value) × Nat × Nat × (List Value)) => match gs with | (k, go, co, ro, ge, ce, re) => 16 - k) 16 (by kernel_rfl) ?_ ?_
  · skip
    refine q_seq (by kernel_rfl) ?_
    refine q_seq (by kernel_rfl) ?_
    refine q_region (by kernel_rfl) ?_
    refine Ops.regs 2 [(0, (i64 s)), (2, (Value.pointer none)), (3, (i64 0)), (4, (Value.pointer (some ⟨b3, 0, none⟩))), (5, (i64 0)), (16, (Value.bool true))] (j := 2) (by kernel_rfl) (by kernel_rfl) ?_
    refine Ops.done (by kernel_rfl) ?_
    refine q_then (o := .tmp 16) (by kernel_rfl) rfl ?_
    refine q_skip (by kernel_rfl) ?_
    refine q_seq (by kernel_rfl) ?_
    refine q_block (id := 1) (by kernel_rfl) ?_
    refine q_seq (by kernel_rfl) ?_
    refine q_draw (fun wz => Keeps (fun i => i = b3) w4 wz) 14 (by kernel_rfl) (by kernel_rfl) (by kernel_rfl) (fun w10 K11 _ _ => ⟨(K11.mono (fun _ _ h => h.elim)), ?_⟩)
    have H12 := H6.keep K11 (fun h => h)
    clear H6
    have K13 := K9.trans K11 (U := none_) (fun i h1 h2 => h2) (fun i h1 h2 => by exact h2)
    clear K9
    refine Dr.strong (S' := (fun wz => Keeps (fun i => i = b3) w10 wz)) ((Keeps.refl w10).mono (fun _ _ h => h.elim)) (fun wz hx => K11.trans hx (fun _ _ h => h.elim) (fun _ _ h => h)) ?_
    clear K11
    refine Dr.takes (fuel' := 8) (is' := [6, 5, 3, 2, 1, 0]) [0, 1, 2, 3, 5, 6] [(0, (i64 s)), (2, (Value.pointer none)), (3, (i64 0)), (4, (Value.pointer (some ⟨b3, 0, none⟩))), (5, (i64 0)), (16, (Value.bool true)), (19, (Value.pointer (some ⟨b3, 0, none⟩))), (22, (Value.pointer (some ⟨b3, 1, none⟩))), (24, (i64 0)), (25, (i64 s))] (by kernel_rfl) rfl (by kernel_rfl) ?_
    refine Dr.take (i := 7) (v := (i64 ((0 : Int).tmod s))) (by kernel_rfl) (by kernel_rfl) (fun wz hS => Runs.int (op := .rem) (t := 3) (x := 0) (y := s) (by kernel_rfl) (run_rem (by omega))) (d := (some 26)) (by kernel_rfl) rfl ?_
    refine Dr.takes (fuel' := 6) (is' := [8, 7, 6, 5, 3, 2, 1, 0]) [8] [(0, (i64 s)), (2, (Value.pointer none)), (3, (i64 0)), (4, (Value.pointer (some ⟨b3, 0, none⟩))), (5, (i64 0)), (16, (Value.bool true)), (19, (Value.pointer (some ⟨b3, 0, none⟩))), (22, (Value.pointer (some ⟨b3, 1, none⟩))), (27, (i64 (IntKind.i64.wrap (1 + ((0 : Int).tmod s)))))] (by kernel_rfl) rfl (by kernel_rfl) ?_
    have := Int.tmod_nonneg s (show (0 : Int) ≤ 0 by omega)
    have := Int.tmod_lt_of_pos (0 : Int) (show (0 : Int) < s by omega)
    have e14 : IntKind.i64.wrap (1 + ((0 : Int).tmod s)) = 1 + ((0 : Int).tmod s) := wrap_i64 (by omega) (by omega)
    rw [e14]
    refine Dr.load_new (i := 4) (j := 9) (t := 44) (a := ⟨b3, 1, none⟩) (v := (Value.slice none 0 0)) (o := rowL [(i64 (1 + ((0 : Int).tmod s)))] 3) (V := fun b => (Value.slice (some ⟨b, 0, none⟩) 1 1)) (R := fun b => [(0, (i64 s)), (2, (Value.pointer none)), (3, (i64 0)), (4, (Value.pointer (some ⟨b3, 0, none⟩))), (5, (i64 0)), (16, (Value.bool true)), (19, (Value.pointer (some ⟨b3, 0, none⟩))), (23, (Value.slice none 0 0)), (28, (Value.slice (some ⟨b, 0, none⟩) 1 1))]) (by kernel_rfl) (by kernel_rfl) (by kernel_rfl) (by kernel_rfl) (by kernel_rfl) (by kernel_rfl) (di := (some 23)) (by kernel_rfl) rfl (by kernel_rfl) (dj := (some 28)) (by kernel_rfl) (fun b => ⟨_, rfl, rfl⟩) (by kernel_rfl) (fun b => rfl) (fun b => rfl) (fun b => rfl) (fun b => ⟨_, rfl, rfl⟩) (fun wz hk => ((H12.keep hk (fun h => h)).loads (by kernel_rfl))) ((Keeps.refl _).mono (fun _ _ h => h.elim)) (fun b15 w16 hb17 H18 K19 hs20 => ?_)
    have lb15b3 : b3 < b15 := by have := H12.lt; omega
    have nb15 : w.heap.size ≤ b15 := by have := K13.size; omega
    have H21 := H12.keep K19 (fun h => h)
    clear H12
    have K22 := K13.trans K19 (U := none_) (fun i h1 h2 => h2) (fun i h1 h2 => by exact h2)
    clear K13
    refine ⟨(K19.mono (fun _ _ h => h.elim)), ?_⟩
    refine Dr.strong (S' := (fun wz => Keeps (fun i => i = b3) w16 wz)) ((Keeps.refl w16).mono (fun _ _ h => h.elim)) (fun wz hx => K19.trans hx (fun _ _ h => h.elim) (fun _ _ h => h)) ?_
    clear K19 hs20
    obtain ⟨g23, cap24, rest25, w26, hr27, H28, fl29, fn30, fm31, K32, hg33⟩ := app_row0 (ty := 44) ty44 (Rd.lit H18 (n := 1) rfl (by decide)) (m := 1) rfl (by omega) (by omega) (by decide)
    have H34 : Has w26 g23 (rowL ([(i64 (1 + ((0 : Int).tmod s)))] ++ rest25) 3) := H28
    clear H28
    have dg23b3 : g23 ≠ b3 := by have := H21.lt; omega
    have dg23b15 : g23 ≠ b15 := by have := H18.lt; omega
    have ng23 : w.heap.size ≤ g23 := by have := K22.size; omega
    refine Dr.go (i := 10) (v := (Value.slice (some ⟨g23, 0, none⟩) 1 cap24)) (by kernel_rfl) (by kernel_rfl) (Runs.append (ts := #[44, 44]) (ty := 44) (vs := [(Value.slice none 0 0), (Value.slice (some ⟨b15, 0, none⟩) 1 1)]) (by kernel_rfl) hr27) (d := (some 29)) (by kernel_rfl) rfl (K32.mono (fun _ _ h => h.elim)) ?_
    have H35 := H21.keep K32 (fun h => h)
    clear H21
    have H36 := H18.keep K32 (fun h => h)
    clear H18
    have K37 := K22.trans K32 (U := none_) (fun i h1 h2 => h2) (fun i h1 h2 => by exact h2)
    clear K22
    refine Dr.strong (S' := (fun wz => Keeps (fun i => i = b3) w26 wz)) ((Keeps.refl w26).mono (fun _ _ h => h.elim)) (fun wz hx => K32.trans hx (fun _ _ h => h.elim) (fun _ _ h => h)) ?_
    clear K32 hr27 hg33
    refine Dr.takes (fuel' := 1) (is' := [12, 11, 10, 9, 4, 8, 7, 6, 5, 3, 2, 1, 0]) [11, 12] [(0, (i64 s)), (2, (Value.pointer none)), (3, (i64 0)), (4, (Value.pointer (some ⟨b3, 0, none⟩))), (5, (i64 0)), (16, (Value.bool true)), (29, (Value.slice (some ⟨g23, 0, none⟩) 1 cap24)), (31, (Value.pointer (some ⟨b3, 1, none⟩)))] (by kernel_rfl) rfl (by kernel_rfl) ?_
    refine Dr.put (i := 13) (t := 44) (b := b3) (off := 1) (v := (Value.slice (some ⟨g23, 0, none⟩) 1 cap24)) (ys := [(i64 s), (Value.slice (some ⟨g23, 0, none⟩) 1 cap24), (Value.slice none 0 0), (i64 0), (i64 0), (i64 0), (i64 0), (i64 0), (i64 0), (i64 0), (i64 0), (i64 0)]) (by kernel_rfl) (by kernel_rfl) (by kernel_rfl) H35 (by kernel_rfl) (d := none) (by kernel_rfl) rfl (fun w38 H39 K40 => ?_)
    clear H35
    have H41 := H36.keep K40 (by intro h; change b15 = b3 at h; omega)
    clear H36
    have H42 := H34.keep K40 (by intro h; change g23 = b3 at h; omega)
    clear H34
    have K43 := K37.trans K40 (U := none_) (fun i h1 h2 => h2) (fun i h1 h2 => by have h2 : i = b3 := h2; exfalso; omega)
    clear K37
    refine ⟨K40, ?_⟩
    refine Dr.strong (S' := (fun wz => Keeps (fun i => i = b3) w38 wz)) ((Keeps.refl w38).mono (fun _ _ h => h.elim)) (fun wz hx => K40.trans hx (fun _ _ h => by have h : _ = b3 := h; show _ = b3; omega) (fun _ _ h => h)) ?_
    clear K40
    refine Dr.done (by kernel_rfl) ?_
    clear H41
    refine q_region (by kernel_rfl) ?_
    refine Ops.regs 4 [(0, (i64 s)), (2, (Value.pointer none)), (3, (i64 0)), (4, (Value.pointer (some ⟨b3, 0, none⟩))), (5, (i64 0)), (16, (Value.bool true)), (32, (Value.pointer (some ⟨b3, 0, none⟩))), (35, (Value.pointer (some ⟨b3, 2, none⟩)))] (j := 4) (by kernel_rfl) (by kernel_rfl) ?_
    refine Ops.go (v := (Value.slice none 0 0)) (by kernel_rfl) (Runs.load (t := 45) (a := ⟨b3, 2, none⟩) (by kernel_rfl) (H39.loads (by kernel_rfl))) (d := (some 36)) (by kernel_rfl) rfl ?_
    refine Ops.new (o := rowL [(i64 0)] 2) (V := fun b => (Value.slice (some ⟨b, 0, none⟩) 1 1)) (by kernel_rfl) (d := (some 37)) (by kernel_rfl) (fun b => rfl) (fun b44 w45 hb46 H47 K48 hs49 => ?_)
    have lb44b3 : b3 < b44 := by have := H39.lt; omega
    have lb44g23 : g23 < b44 := by have := H42.lt; omega
    have nb44 : w.heap.size ≤ b44 := by have := K43.size; omega
    have H50 := H39.keep K48 (fun h => h)
    clear H39
    have H51 := H42.keep K48 (fun h => h)
    clear H42
    have K52 := K43.trans K48 (U := none_) (fun i h1 h2 => h2) (fun i h1 h2 => by exact h2)
    clear K43
    clear K48 hs49
    obtain ⟨g53, cap54, rest55, w56, hr57, H58, fl59, fn60, fm61, K62, hg63⟩ := app_row0 (ty := 45) ty45 (Rd.lit H47 (n := 1) rfl (by decide)) (m := 1) rfl (by omega) (by omega) (by decide)
    have H64 : Has w56 g53 (rowL ([(i64 0)] ++ rest55) 2) := H58
    clear H58
    have dg53b3 : g53 ≠ b3 := by have := H50.lt; omega
    have dg53g23 : g53 ≠ g23 := by have := H51.lt; omega
    have dg53b44 : g53 ≠ b44 := by have := H47.lt; omega
    have ng53 : w.heap.size ≤ g53 := by have := K52.size; omega
    refine Ops.go (v := (Value.slice (some ⟨g53, 0, none⟩) 1 cap54)) (by kernel_rfl) (Runs.append (ts := #[45, 45]) (ty := 45) (vs := [(Value.slice none 0 0), (Value.slice (some ⟨b44, 0, none⟩) 1 1)]) (by kernel_rfl) hr57) (d := (some 38)) (by kernel_rfl) rfl ?_
    have H65 := H50.keep K62 (fun h => h)
    clear H50
    have H66 := H51.keep K62 (fun h => h)
    clear H51
    have H67 := H47.keep K62 (fun h => h)
    clear H47
    have K68 := K52.trans K62 (U := none_) (fun i h1 h2 => h2) (fun i h1 h2 => by exact h2)
    clear K52
    clear K62 hr57 hg63
    refine Ops.regs 2 [(0, (i64 s)), (2, (Value.pointer none)), (3, (i64 0)), (4, (Value.pointer (some ⟨b3, 0, none⟩))), (5, (i64 0)), (16, (Value.bool true)), (38, (Value.slice (some ⟨g53, 0, none⟩) 1 cap54)), (40, (Value.pointer (some ⟨b3, 2, none⟩)))] (j := 9) (by kernel_rfl) (by kernel_rfl) ?_
    refine Ops.put (t := 45) (b := b3) (off := 2) (v := (Value.slice (some ⟨g53, 0, none⟩) 1 cap54)) (ys := [(i64 s), (Value.slice (some ⟨g23, 0, none⟩) 1 cap24), (Value.slice (some ⟨g53, 0, none⟩) 1 cap54), (i64 0), (i64 0), (i64 0), (i64 0), (i64 0), (i64 0), (i64 0), (i64 0), (i64 0)]) (by kernel_rfl) (by kernel_rfl) H65 (by kernel_rfl) (d := none) (by kernel_rfl) rfl (fun w69 H70 K71 => ?_)
    clear H65
    have H72 := H66.keep K71 (by intro h; change g23 = b3 at h; omega)
    clear H66
    have H73 := H67.keep K71 (by intro h; change b44 = b3 at h; omega)
    clear H67
    have H74 := H64.keep K71 (by intro h; change g53 = b3 at h; omega)
    clear H64
    have K75 := K68.trans K71 (U := none_) (fun i h1 h2 => h2) (fun i h1 h2 => by have h2 : i = b3 := h2; exfalso; omega)
    clear K68
    clear K71
    refine Ops.done (by kernel_rfl) ?_
    clear H73
    refine q_region (by kernel_rfl) ?_
    refine Ops.regs 3 [(0, (i64 s)), (2, (Value.pointer none)), (3, (i64 0)), (4, (Value.pointer (some ⟨b3, 0, none⟩))), (5, (i64 1)), (16, (Value.bool true))] (j := 3) (by kernel_rfl) (by kernel_rfl) ?_
    refine Ops.keep (R := [(0, (i64 s)), (2, (Value.pointer none)), (3, (i64 0)), (4, (Value.pointer (some ⟨b3, 0, none⟩))), (5, (i64 1))]) (by kernel_rfl) ?_
    refine Ops.done (by kernel_rfl) ?_
    exact ⟨(1, g23, cap24, rest25, g53, cap54, rest55), ⟨rfl, (by omega), (by omega), (by omega), (by omega), (by omega), (by omega), (by omega), (by simpa [ints_length, ownl_length] using fl29), (by omega), fm31, (by simpa [ints_length] using fl59), (by omega), fm61, K75, H70, (show Has _ _ (rowL (ints (ownl s 1) ++ _) 3) from H72), (show Has _ _ (rowL (ints (List.replicate 1 (0 : Int)) ++ _) 2) from H74)⟩, (show 16 - 1 < 16 from by omega)⟩
  · skip
    clear H6 K9
    rintro ⟨k, go, co, ro, ge, ce, re⟩ _ w76 ⟨rfl, hk1, hk, d1, d2, d3, n1, n2, f1, f2, f3, f4, f5, f6, K77, H78, H79, H80⟩
    have hm0 := Int.tmod_nonneg s (show (0 : Int) ≤ (k : Int) by omega)
    have hm1 := Int.tmod_lt_of_pos (k : Int) (show (0 : Int) < s by omega)
    refine q_seq (by kernel_rfl) ?_
    refine q_seq (by kernel_rfl) ?_
    refine q_region (by kernel_rfl) ?_
    refine Ops.regs 2 [(0, (i64 s)), (2, (Value.pointer none)), (3, (i64 0)), (4, (Value.pointer (some ⟨b3, 0, none⟩))), (5, (i64 ((k : Nat) : Int))), (16, (Value.bool (decide (((k : Nat) : Int) < 16))))] (j := 2) (by kernel_rfl) (by kernel_rfl) ?_
    refine Ops.done (by kernel_rfl) ?_
    refine q_cond (o := .tmp 16) (b := (decide (((k : Nat) : Int) < 16))) (by kernel_rfl) rfl (fun h81 => ?_) (fun h81 => ?_)
    · rw [h81]
      have p82 : ((k : Nat) : Int) < 16 := of_decide_eq_true h81
      refine q_skip (by kernel_rfl) ?_
      refine q_seq (by kernel_rfl) ?_
      refine q_block (id := 1) (by kernel_rfl) ?_
      refine q_seq (by kernel_rfl) ?_
      refine q_draw (fun wz => Keeps (fun i => i = b3 ∨ i = go) w76 wz) 14 (by kernel_rfl) (by kernel_rfl) (by kernel_rfl) (fun w83 K84 _ _ => ⟨(K84.mono (fun _ _ h => h.elim)), ?_⟩)
      have H85 := H78.keep K84 (fun h => h)
      clear H78
      have H86 := H79.keep K84 (fun h => h)
      clear H79
      have H87 := H80.keep K84 (fun h => h)
      clear H80
      have K88 := K77.trans K84 (U := none_) (fun i h1 h2 => h2) (fun i h1 h2 => by exact h2)
      clear K77
      refine Dr.strong (S' := (fun wz => Keeps (fun i => i = b3 ∨ i = go) w83 wz)) ((Keeps.refl w83).mono (fun _ _ h => h.elim)) (fun wz hx => K84.trans hx (fun _ _ h => h.elim) (fun _ _ h => h)) ?_
      clear K84
      refine Dr.takes (fuel' := 8) (is' := [6, 5, 3, 2, 1, 0]) [0, 1, 2, 3, 5, 6] [(0, (i64 s)), (2, (Value.pointer none)), (3, (i64 0)), (4, (Value.pointer (some ⟨b3, 0, none⟩))), (5, (i64 ((k : Nat) : Int))), (16, (Value.bool true)), (19, (Value.pointer (some ⟨b3, 0, none⟩))), (22, (Value.pointer (some ⟨b3, 1, none⟩))), (24, (i64 ((k : Nat) : Int))), (25, (i64 s))] (by kernel_rfl) rfl (by kernel_rfl) ?_
      refine Dr.take (i := 7) (v := (i64 ((((k : Nat) : Int) : Int).tmod s))) (by kernel_rfl) (by kernel_rfl) (fun wz hS => Runs.int (op := .rem) (t := 3) (x := ((k : Nat) : Int)) (y := s) (by kernel_rfl) (run_rem (by omega))) (d := (some 26)) (by kernel_rfl) rfl ?_
      refine Dr.takes (fuel' := 6) (is' := [8, 7, 6, 5, 3, 2, 1, 0]) [8] [(0, (i64 s)), (2, (Value.pointer none)), (3, (i64 0)), (4, (Value.pointer (some ⟨b3, 0, none⟩))), (5, (i64 ((k : Nat) : Int))), (16, (Value.bool true)), (19, (Value.pointer (some ⟨b3, 0, none⟩))), (22, (Value.pointer (some ⟨b3, 1, none⟩))), (27, (i64 (IntKind.i64.wrap (1 + ((((k : Nat) : Int) : Int).tmod s)))))] (by kernel_rfl) rfl (by kernel_rfl) ?_
      have e89 : IntKind.i64.wrap (1 + ((((k : Nat) : Int) : Int).tmod s)) = 1 + ((((k : Nat) : Int) : Int).tmod s) := wrap_i64 (by omega) (by omega)
      rw [e89]
      refine Dr.load_new (i := 4) (j := 9) (t := 44) (a := ⟨b3, 1, none⟩) (v := (Value.slice (some ⟨go, 0, none⟩) k co)) (o := rowL [(i64 (1 + ((((k : Nat) : Int) : Int).tmod s)))] 3) (V := fun b => (Value.slice (some ⟨b, 0, none⟩) 1 1)) (R := fun b => [(0, (i64 s)), (2, (Value.pointer none)), (3, (i64 0)), (4, (Value.pointer (some ⟨b3, 0, none⟩))), (5, (i64 ((k : Nat) : Int))), (16, (Value.bool true)), (19, (Value.pointer (some ⟨b3, 0, none⟩))), (23, (Value.slice (some ⟨go, 0, none⟩) k co)), (28, (Value.slice (some ⟨b, 0, none⟩) 1 1))]) (by kernel_rfl) (by kernel_rfl) (by kernel_rfl) (by kernel_rfl) (by kernel_rfl) (by kernel_rfl) (di := (some 23)) (by kernel_rfl) rfl (by kernel_rfl) (dj := (some 28)) (by kernel_rfl) (fun b => ⟨_, rfl, rfl⟩) (by kernel_rfl) (fun b => rfl) (fun b => rfl) (fun b => rfl) (fun b => ⟨_, rfl, rfl⟩) (fun wz hk => ((H85.keep hk (fun h => h)).loads (by kernel_rfl))) ((Keeps.refl _).mono (fun _ _ h => h.elim)) (fun b90 w91 hb92 H93 K94 hs95 => ?_)
      have lb90b3 : b3 < b90 := by have := H85.lt; omega
      have lb90go : go < b90 := by have := H86.lt; omega
      have lb90ge : ge < b90 := by have := H87.lt; omega
      have nb90 : w.heap.size ≤ b90 := by have := K88.size; omega
      have H96 := H85.keep K94 (fun h => h)
      clear H85
      have H97 := H86.keep K94 (fun h => h)
      clear H86
      have H98 := H87.keep K94 (fun h => h)
      clear H87
      have K99 := K88.trans K94 (U := none_) (fun i h1 h2 => h2) (fun i h1 h2 => by exact h2)
      clear K88
      refine ⟨(K94.mono (fun _ _ h => h.elim)), ?_⟩
      refine Dr.strong (S' := (fun wz => Keeps (fun i => i = b3 ∨ i = go) w91 wz)) ((Keeps.refl w91).mono (fun _ _ h => h.elim)) (fun wz hx => K94.trans hx (fun _ _ h => h.elim) (fun _ _ h => h)) ?_
      clear K94 hs95
      obtain ⟨g100, cap101, rest102, w103, hr104, H105, fl106, fn107, fm108, K109, hg110⟩ := app_row (ty := 44) ty44 H97 (n := k) (by rw [ints_length, ownl_length]; omega) f1 f2 f3 (Rd.lit H93 (n := 1) rfl (by decide)) (m := 1) rfl (by omega) rfl (by omega) (by simp only [maxLen]; omega)
      have H111 : Has w103 g100 (rowL (ints (ownl s k ++ [1 + ((((k : Nat) : Int) : Int).tmod s)]) ++ rest102) 3) := (by simpa [ints] using H105)
      clear H105
      have dg100b3 : g100 ≠ b3 := by have := H96.lt; rcases hg110 with h | h <;> omega
      have dg100ge : g100 ≠ ge := by have := H98.lt; rcases hg110 with h | h <;> omega
      have dg100b90 : g100 ≠ b90 := by have := H93.lt; rcases hg110 with h | h <;> omega
      have ng100 : w.heap.size ≤ g100 := by have := K99.size; rcases hg110 with h | h <;> omega
      refine Dr.go (i := 10) (v := (Value.slice (some ⟨g100, 0, none⟩) (k + 1) cap101)) (by kernel_rfl) (by kernel_rfl) (Runs.append (ts := #[44, 44]) (ty := 44) (vs := [(Value.slice (some ⟨go, 0, none⟩) k co), (Value.slice (some ⟨b90, 0, none⟩) 1 1)]) (by kernel_rfl) hr104) (d := (some 29)) (by kernel_rfl) rfl (K109.mono (fun i _ h => by have h : i = go := h; show i = b3 ∨ i = go; omega)) ?_
      clear H97
      have H112 := H96.keep K109 (by intro h; change b3 = go at h; omega)
      clear H96
      have H113 := H98.keep K109 (by intro h; change ge = go at h; omega)
      clear H98
      have H114 := H93.keep K109 (by intro h; change b90 = go at h; omega)
      clear H93
      have K115 := K99.trans K109 (U := none_) (fun i h1 h2 => h2) (fun i h1 h2 => by have h2 : i = go := h2; exfalso; omega)
      clear K99
      refine Dr.strong (S' := (fun wz => Keeps (fun i => i = b3 ∨ i = go) w103 wz)) ((Keeps.refl w103).mono (fun _ _ h => h.elim)) (fun wz hx => K109.trans hx (fun _ _ h => by have h : _ = go := h; show _ = b3 ∨ _ = go; omega) (fun _ _ h => h)) ?_
      clear K109 hr104 hg110
      refine Dr.takes (fuel' := 1) (is' := [12, 11, 10, 9, 4, 8, 7, 6, 5, 3, 2, 1, 0]) [11, 12] [(0, (i64 s)), (2, (Value.pointer none)), (3, (i64 0)), (4, (Value.pointer (some ⟨b3, 0, none⟩))), (5, (i64 ((k : Nat) : Int))), (16, (Value.bool true)), (29, (Value.slice (some ⟨g100, 0, none⟩) (k + 1) cap101)), (31, (Value.pointer (some ⟨b3, 1, none⟩)))] (by kernel_rfl) rfl (by kernel_rfl) ?_
      refine Dr.put (i := 13) (t := 44) (b := b3) (off := 1) (v := (Value.slice (some ⟨g100, 0, none⟩) (k + 1) cap101)) (ys := [(i64 s), (Value.slice (some ⟨g100, 0, none⟩) (k + 1) cap101), (Value.slice (some ⟨ge, 0, none⟩) k ce), (i64 0), (i64 0), (i64 0), (i64 0), (i64 0), (i64 0), (i64 0), (i64 0), (i64 0)]) (by kernel_rfl) (by kernel_rfl) (by kernel_rfl) H112 (by kernel_rfl) (d := none) (by kernel_rfl) rfl (fun w116 H117 K118 => ?_)
      clear H112
      have H119 := H113.keep K118 (by intro h; change ge = b3 at h; omega)
      clear H113
      have H120 := H114.keep K118 (by intro h; change b90 = b3 at h; omega)
      clear H114
      have H121 := H111.keep K118 (by intro h; change g100 = b3 at h; omega)
      clear H111
      have K122 := K115.trans K118 (U := none_) (fun i h1 h2 => h2) (fun i h1 h2 => by have h2 : i = b3 := h2; exfalso; omega)
      clear K115
      refine ⟨(K118.mono (fun i _ h => by have h : i = b3 := h; show i = b3 ∨ i = go; omega)), ?_⟩
      refine Dr.strong (S' := (fun wz => Keeps (fun i => i = b3 ∨ i = go) w116 wz)) ((Keeps.refl w116).mono (fun _ _ h => h.elim)) (fun wz hx => K118.trans hx (fun _ _ h => by have h : _ = b3 := h; show _ = b3 ∨ _ = go; omega) (fun _ _ h => h)) ?_
      clear K118
      refine Dr.done (by kernel_rfl) ?_
      clear H120
      refine q_region (by kernel_rfl) ?_
      refine Ops.regs 4 [(0, (i64 s)), (2, (Value.pointer none)), (3, (i64 0)), (4, (Value.pointer (some ⟨b3, 0, none⟩))), (5, (i64 ((k : Nat) : Int))), (16, (Value.bool true)), (32, (Value.pointer (some ⟨b3, 0, none⟩))), (35, (Value.pointer (some ⟨b3, 2, none⟩)))] (j := 4) (by kernel_rfl) (by kernel_rfl) ?_
      refine Ops.go (v := (Value.slice (some ⟨ge, 0, none⟩) k ce)) (by kernel_rfl) (Runs.load (t := 45) (a := ⟨b3, 2, none⟩) (by kernel_rfl) (H117.loads (by kernel_rfl))) (d := (some 36)) (by kernel_rfl) rfl ?_
      refine Ops.new (o := rowL [(i64 0)] 2) (V := fun b => (Value.slice (some ⟨b, 0, none⟩) 1 1)) (by kernel_rfl) (d := (some 37)) (by kernel_rfl) (fun b => rfl) (fun b123 w124 hb125 H126 K127 hs128 => ?_)
      have lb123b3 : b3 < b123 := by have := H117.lt; omega
      have lb123ge : ge < b123 := by have := H119.lt; omega
      have lb123g100 : g100 < b123 := by have := H121.lt; omega
      have nb123 : w.heap.size ≤ b123 := by have := K122.size; omega
      have H129 := H117.keep K127 (fun h => h)
      clear H117
      have H130 := H119.keep K127 (fun h => h)
      clear H119
      have H131 := H121.keep K127 (fun h => h)
      clear H121
      have K132 := K122.trans K127 (U := none_) (fun i h1 h2 => h2) (fun i h1 h2 => by exact h2)
      clear K122
      clear K127 hs128
      obtain ⟨g133, cap134, rest135, w136, hr137, H138, fl139, fn140, fm141, K142, hg143⟩ := app_row (ty := 45) ty45 H130 (n := k) (by rw [ints_length, zeros_length]; omega) f4 f5 f6 (Rd.lit H126 (n := 1) rfl (by decide)) (m := 1) rfl (by omega) rfl (by omega) (by simp only [maxLen]; omega)
      have H144 : Has w136 g133 (rowL (ints (List.replicate k (0 : Int) ++ [0]) ++ rest135) 2) := (by simpa [ints] using H138)
      clear H138
      have dg133b3 : g133 ≠ b3 := by have := H129.lt; rcases hg143 with h | h <;> omega
      have dg133g100 : g133 ≠ g100 := by have := H131.lt; rcases hg143 with h | h <;> omega
      have dg133b123 : g133 ≠ b123 := by have := H126.lt; rcases hg143 with h | h <;> omega
      have ng133 : w.heap.size ≤ g133 := by have := K132.size; rcases hg143 with h | h <;> omega
      refine Ops.go (v := (Value.slice (some ⟨g133, 0, none⟩) (k + 1) cap134)) (by kernel_rfl) (Runs.append (ts := #[45, 45]) (ty := 45) (vs := [(Value.slice (some ⟨ge, 0, none⟩) k ce), (Value.slice (some ⟨b123, 0, none⟩) 1 1)]) (by kernel_rfl) hr137) (d := (some 38)) (by kernel_rfl) rfl ?_
      clear H130
      have H145 := H129.keep K142 (by intro h; change b3 = ge at h; omega)
      clear H129
      have H146 := H131.keep K142 (by intro h; change g100 = ge at h; omega)
      clear H131
      have H147 := H126.keep K142 (by intro h; change b123 = ge at h; omega)
      clear H126
      have K148 := K132.trans K142 (U := none_) (fun i h1 h2 => h2) (fun i h1 h2 => by have h2 : i = ge := h2; exfalso; omega)
      clear K132
      clear K142 hr137 hg143
      refine Ops.regs 2 [(0, (i64 s)), (2, (Value.pointer none)), (3, (i64 0)), (4, (Value.pointer (some ⟨b3, 0, none⟩))), (5, (i64 ((k : Nat) : Int))), (16, (Value.bool true)), (38, (Value.slice (some ⟨g133, 0, none⟩) (k + 1) cap134)), (40, (Value.pointer (some ⟨b3, 2, none⟩)))] (j := 9) (by kernel_rfl) (by kernel_rfl) ?_
      refine Ops.put (t := 45) (b := b3) (off := 2) (v := (Value.slice (some ⟨g133, 0, none⟩) (k + 1) cap134)) (ys := [(i64 s), (Value.slice (some ⟨g100, 0, none⟩) (k + 1) cap101), (Value.slice (some ⟨g133, 0, none⟩) (k + 1) cap134), (i64 0), (i64 0), (i64 0), (i64 0), (i64 0), (i64 0), (i64 0), (i64 0), (i64 0)]) (by kernel_rfl) (by kernel_rfl) H145 (by kernel_rfl) (d := none) (by kernel_rfl) rfl (fun w149 H150 K151 => ?_)
      clear H145
      have H152 := H146.keep K151 (by intro h; change g100 = b3 at h; omega)
      clear H146
      have H153 := H147.keep K151 (by intro h; change b123 = b3 at h; omega)
      clear H147
      have H154 := H144.keep K151 (by intro h; change g133 = b3 at h; omega)
      clear H144
      have K155 := K148.trans K151 (U := none_) (fun i h1 h2 => h2) (fun i h1 h2 => by have h2 : i = b3 := h2; exfalso; omega)
      clear K148
      clear K151
      refine Ops.done (by kernel_rfl) ?_
      clear H153
      refine q_region (by kernel_rfl) ?_
      refine Ops.regs 2 [(0, (i64 s)), (2, (Value.pointer none)), (3, (i64 0)), (4, (Value.pointer (some ⟨b3, 0, none⟩))), (5, (i64 ((k : Nat) : Int))), (16, (Value.bool true)), (18, (i64 (IntKind.i64.wrap (((k : Nat) : Int) + 1))))] (j := 2) (by kernel_rfl) (by kernel_rfl) ?_
      have e156 : IntKind.i64.wrap (((k : Nat) : Int) + 1) = ((k : Nat) : Int) + 1 := wrap_i64 (by omega) (by omega)
      rw [e156]
      refine Ops.regs 1 [(0, (i64 s)), (2, (Value.pointer none)), (3, (i64 0)), (4, (Value.pointer (some ⟨b3, 0, none⟩))), (5, (i64 (((k : Nat) : Int) + 1))), (16, (Value.bool true))] (j := 3) (by kernel_rfl) (by kernel_rfl) ?_
      refine Ops.keep (R := [(0, (i64 s)), (2, (Value.pointer none)), (3, (i64 0)), (4, (Value.pointer (some ⟨b3, 0, none⟩))), (5, (i64 ((k + 1 : Nat) : Int)))]) (by kernel_rfl) ?_
      refine Ops.done (by kernel_rfl) ?_
      exact ⟨(k + 1, g100, cap101, rest102, g133, cap134, rest135), ⟨rfl, (by omega), (by omega), (by omega), (by omega), (by omega), (by omega), (by omega), (by simpa [ints_length, ownl_length] using fl106), (by omega), fm108, (by simpa [ints_length] using fl139), (by omega), fm141, K155, H150, (ownl_succ s k ▸ H152), (zeros_succ k ▸ H154)⟩, (show 16 - (k + 1) < 16 - k from by omega)⟩
    · rw [h81]
      have p157 : ¬ (((k : Nat) : Int) < 16) := of_decide_eq_false h81
      refine q_exit (id := 0) (by kernel_rfl) ?_
      refine q_seq (by kernel_rfl) ?_
      refine q_region (by kernel_rfl) ?_
      refine Ops.regs 3 [(2, (Value.pointer (some ⟨b3, 0, none⟩))), (3, (i64 0))] (j := 3) (by kernel_rfl) (by kernel_rfl) ?_
      refine Ops.done (by kernel_rfl) ?_
      refine q_ret (by kernel_rfl) ?_
      refine ⟨(Value.tuple #[(Value.pointer (some ⟨b3, 0, none⟩)), (i64 0)]), retv_tmp2 rfl rfl rfl, ?_⟩
      have hk16 : k = 16 := by omega
      subst hk16
      exact ⟨b3, go, co, ro, ge, ce, re, rfl, K77, by omega, by omega, by omega, by omega, by omega, by omega, H78, (ownl_new s ▸ H79), H80⟩
end Go.Proofs.Ytoljbckhoigibaa
