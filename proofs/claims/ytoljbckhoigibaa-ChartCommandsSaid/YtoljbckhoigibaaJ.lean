/- chart: copies; what spoils bytes -/
import Derived.Test.YtoljbckhoigibaaProg
import Derived.Test.YtoljbckhoigibaaChart8
import Derived.Test.YtoljbckhoigibaaI
set_option linter.unusedVariables false
namespace Go.Proofs.Ytoljbckhoigibaa
open Go.Q Go.RowKit

theorem Copy_calls (w : World) (b : Nat) (c : Ch) (h : c.Inv) (H0 : Has w b (rowL (chL c) 118)) : Calls Try.prog 23 ⟨[(Value.pointer (some ⟨b, 0, none⟩))]⟩ w (fun e w' => ∃ b2, e = .returned (.pointer (some ⟨b2, 0, none⟩)) ∧ w.heap.size ≤ b2 ∧ Keeps none_ w w' ∧ Has w' b2 (rowL (chL c) 118)) := by
  have K0 : Keeps none_ w w := Keeps.refl w
  refine q_calls Try.func23 (by kernel_rfl) (by kernel_rfl) ?_
  refine q_seq (by kernel_rfl) ?_
  refine q_region (by kernel_rfl) ?_
  refine Ops.regs 1 [(0, (Value.pointer (some ⟨b, 0, none⟩))), (2, (Value.pointer none))] (j := 1) (by kernel_rfl) (by kernel_rfl) ?_
  refine Ops.done (by kernel_rfl) ?_
  refine q_seq (by kernel_rfl) ?_
  refine q_seq (by kernel_rfl) ?_
  refine q_region (by kernel_rfl) ?_
  refine Ops.regs 2 [(0, (Value.pointer (some ⟨b, 0, none⟩))), (2, (Value.pointer none)), (5, (Value.bool false))] (j := 2) (by kernel_rfl) (by kernel_rfl) ?_
  refine Ops.done (by kernel_rfl) ?_
  refine q_else (o := .tmp 5) (by kernel_rfl) rfl ?_
  refine q_skip (by kernel_rfl) ?_
  refine q_seq (by kernel_rfl) ?_
  refine q_region (by kernel_rfl) ?_
  refine Ops.regs 2 [(2, (Value.pointer none)), (7, (Value.pointer (some ⟨b, 0, none⟩)))] (j := 2) (by kernel_rfl) (by kernel_rfl) ?_
  refine Ops.go (v := (agg (chL c))) (by kernel_rfl) (Runs.load (t := 118) (a := ⟨b, 0, none⟩) (by kernel_rfl) (H0.loads (loadCN (vs := (chL c)) (by kernel_rfl) (by rw [chL_length h.ok]; kernel_rfl) (by simp) (by simp)))) (d := (some 8)) (by kernel_rfl) rfl ?_
  refine Ops.new (o := rowL [(i64 0), (i64 0), (i64 0), (i64 0), (i64 0), (i64 0), (i64 0), (i64 0), (i64 0), (i64 0), (i64 0), (i64 0), (i64 0), (i64 0), (i64 0), (i64 0), (i64 0), (i64 0), (i64 0), (i64 0), (i64 0), (i64 0), (i64 0), (i64 0), (i64 0), (i64 0), (i64 0), (i64 0), (i64 0), (i64 0), (i64 0), (i64 0), (i64 0), (i64 0), (i64 0), (i64 0), (i64 0), (i64 0), (i64 0), (i64 0), (i64 0), (i64 0)] 118) (V := fun b => (Value.pointer (some ⟨b, 0, none⟩))) (by kernel_rfl) (d := (some 3)) (by kernel_rfl) (fun b => rfl) (fun b1 w2 hb3 H4 K5 hs6 => ?_)
  have lb1 : b < b1 := by have := H0.lt; omega
  have nb1 : w.heap.size ≤ b1 := by have := K0.size; omega
  have H7 := H0.keep K5 (fun h => h)
  clear H0
  have K8 := K0.trans K5 (U := none_) (fun i h1 h2 => h2) (fun i h1 h2 => by exact h2)
  clear K0
  clear K5 hs6
  refine Ops.put (t := 118) (b := b1) (off := 0) (v := (agg (chL c))) (ys := (chL c)) (by kernel_rfl) (by kernel_rfl) H4 (storeCN (vs := (chL c)) (by rw [chL_length h.ok]; kernel_rfl) (chL_one _) (by rw [chL_length h.ok]; exact Nat.le_of_ble_eq_true rfl) (by rw [chL_length h.ok]; exact List.append_nil _)) (d := none) (by kernel_rfl) rfl (fun w9 H10 K11 => ?_)
  clear H4
  have H12 := H7.keep K11 (by intro h; change b = b1 at h; omega)
  clear H7
  have K13 := K8.trans K11 (U := none_) (fun i h1 h2 => h2) (fun i h1 h2 => by have h2 : i = b1 := h2; exfalso; omega)
  clear K8
  clear K11
  refine Ops.done (by kernel_rfl) ?_
  refine q_seq (by kernel_rfl) ?_
  refine q_region (by kernel_rfl) ?_
  refine Ops.regs 1 [(2, (Value.pointer (some ⟨b1, 0, none⟩)))] (j := 1) (by kernel_rfl) (by kernel_rfl) ?_
  refine Ops.done (by kernel_rfl) ?_
  refine q_ret (by kernel_rfl) ?_
  refine ⟨(Value.pointer (some ⟨b1, 0, none⟩)), retv_tmp rfl rfl, ?_⟩
  exact ⟨b1, rfl, nb1, K13, H10⟩

theorem Spoil_row (w : World) (g n cap : Nat) (cs : List Value) (H0 : Has w g (rowL cs 5)) (hcs : cs.length = cap) (hnc : n ≤ cap) (hcm : cap ≤ maxLen) (hn : n ≤ 1099511627776) : Calls Try.prog 57 ⟨[(Value.slice (some ⟨g, 0, none⟩) n cap)]⟩ w (fun e w' => e = .returned (.tuple #[]) ∧ Keeps (fun i => i = g) w w') := by
  have K0 : Keeps (fun i => i = g) w w := (Keeps.refl w).mono (fun _ _ h => h.elim)
  have Hg := H0.lt
  refine q_calls Try.func57 (by kernel_rfl) (by kernel_rfl) ?_
  refine q_seq (by kernel_rfl) ?_
  refine q_seq (by kernel_rfl) ?_
  refine q_region (by kernel_rfl) ?_
  refine Ops.regs 1 [(0, (Value.slice (some ⟨g, 0, none⟩) n cap)), (2, (i64 0))] (j := 1) (by kernel_rfl) (by kernel_rfl) ?_
  refine Ops.done (by kernel_rfl) ?_
  refine q_block (id := 0) (by kernel_rfl) ?_
  refine q_keep (R := [(0, (Value.slice (some ⟨g, 0, none⟩) n cap)), (2, (i64 0))]) (by kernel_rfl) ?_
  refine q_loop (fun (gs : Nat × (List Value)) L (wx : World) => match gs with | (k, cs) => L = [(0, (Value.slice (some ⟨g, 0, none⟩) n cap)), (2, (i64 ((k : Nat) : Int)))] ∧ cs.length = cap ∧ k ≤ n ∧ Keeps (fun i => i = g) w wx ∧ Has wx g (rowL cs 5)) (fun (gs : Nat × (List Value)) => match gs with | (k, cs) => n - k) (0, cs) (by kernel_rfl) ⟨rfl, hcs, Nat.zero_le _, K0, H0⟩ ?_
  clear H0 K0
  rintro ⟨k, cs⟩ _ w1 ⟨rfl, hcs, hk, K2, H3⟩
  refine q_seq (by kernel_rfl) ?_
  refine q_seq (by kernel_rfl) ?_
  refine q_region (by kernel_rfl) ?_
  refine Ops.regs 4 [(0, (Value.slice (some ⟨g, 0, none⟩) n cap)), (2, (i64 ((k : Nat) : Int))), (6, (Value.bool (decide (((k : Nat) : Int) < ((n : Nat) : Int)))))] (j := 4) (by kernel_rfl) (by kernel_rfl) ?_
  refine Ops.done (by kernel_rfl) ?_
  refine q_cond (o := .tmp 6) (b := (decide (((k : Nat) : Int) < ((n : Nat) : Int)))) (by kernel_rfl) rfl (fun h4 => ?_) (fun h4 => ?_)
  · rw [h4]
    have p5 : ((k : Nat) : Int) < ((n : Nat) : Int) := of_decide_eq_true h4
    refine q_skip (by kernel_rfl) ?_
    refine q_seq (by kernel_rfl) ?_
    refine q_block (id := 1) (by kernel_rfl) ?_
    refine q_region (by kernel_rfl) ?_
    refine Ops.regs 2 [(0, (Value.slice (some ⟨g, 0, none⟩) n cap)), (2, (i64 ((k : Nat) : Int))), (6, (Value.bool true)), (9, (Value.slice (some ⟨g, 0, none⟩) n cap)), (10, (i64 ((k : Nat) : Int)))] (j := 2) (by kernel_rfl) (by kernel_rfl) ?_
    refine Ops.go (by kernel_rfl) (Runs.ixSlice (k := IntKind.i64) (t := 59) (b := g) (off := 0) (len := n) (cap := cap) (s := 1) (off' := k) (i := ((k : Nat) : Int)) (by kernel_rfl) (by kernel_rfl) (by omega) (by omega) (by omega)) (d := (some 11)) (by kernel_rfl) rfl ?_
    refine Ops.put (t := 5) (b := g) (off := k) (v := (Value.int IntKind.u8 90)) (ys := (cs.set k (Value.int IntKind.u8 90))) (by kernel_rfl) (by kernel_rfl) H3 (storeC1 (by kernel_rfl) rfl (by rw [hcs]; omega) rfl) (d := none) (by kernel_rfl) rfl (fun w6 H7 K8 => ?_)
    clear H3
    have K9 := K2.trans K8 (U := (fun i => i = g)) (fun i h1 h2 => h2) (fun i h1 h2 => by have h2 : i = g := h2; show i = g; omega)
    clear K2
    clear K8
    refine Ops.done (by kernel_rfl) ?_
    refine q_region (by kernel_rfl) ?_
    refine Ops.regs 2 [(0, (Value.slice (some ⟨g, 0, none⟩) n cap)), (2, (i64 ((k : Nat) : Int))), (6, (Value.bool true)), (8, (i64 (IntKind.i64.wrap (((k : Nat) : Int) + 1))))] (j := 2) (by kernel_rfl) (by kernel_rfl) ?_
    have e10 : IntKind.i64.wrap (((k : Nat) : Int) + 1) = ((k : Nat) : Int) + 1 := wrap_i64 (by omega) (by omega)
    rw [e10]
    refine Ops.regs 1 [(0, (Value.slice (some ⟨g, 0, none⟩) n cap)), (2, (i64 (((k : Nat) : Int) + 1))), (6, (Value.bool true))] (j := 3) (by kernel_rfl) (by kernel_rfl) ?_
    refine Ops.keep (R := [(0, (Value.slice (some ⟨g, 0, none⟩) n cap)), (2, (i64 ((k + 1 : Nat) : Int)))]) (by kernel_rfl) ?_
    refine Ops.done (by kernel_rfl) ?_
    exact ⟨(k + 1, cs.set k (Value.int IntKind.u8 90)), ⟨rfl, (show (cs.set k (Value.int IntKind.u8 90)).length = cap from by simp [hcs]), (by omega), K9, H7⟩, (show n - (k + 1) < n - k from by omega)⟩
  · rw [h4]
    have p11 : ¬ (((k : Nat) : Int) < ((n : Nat) : Int)) := of_decide_eq_false h4
    refine q_exit (id := 0) (by kernel_rfl) ?_
    refine q_seq (by kernel_rfl) ?_
    refine q_region (by kernel_rfl) ?_
    refine Ops.regs 1 [(0, (Value.slice (some ⟨g, 0, none⟩) n cap)), (12, (Value.slice (some ⟨g, 0, none⟩) n cap))] (j := 1) (by kernel_rfl) (by kernel_rfl) ?_
    refine Ops.new (o := rowL [(Value.int IntKind.u8 91)] 5) (V := fun b => (Value.slice (some ⟨b, 0, none⟩) 1 1)) (by kernel_rfl) (d := (some 13)) (by kernel_rfl) (fun b => rfl) (fun b12 w13 hb14 H15 K16 hs17 => ?_)
    have lb12 : g < b12 := by have := H3.lt; omega
    have nb12 : w.heap.size ≤ b12 := by have := K2.size; omega
    have H18 := H3.keep K16 (fun h => h)
    clear H3
    have K19 := K2.trans K16 (U := (fun i => i = g)) (fun i h1 h2 => h2) (fun i h1 h2 => by exact h2.elim)
    clear K2
    clear K16 hs17
    obtain ⟨g20, cap21, rest22, w23, hr24, H25, fl26, fn27, fm28, K29, hg30⟩ := app_any (ty := 59) tyB H18 hcs (n := n) (by omega) (by omega) (Rd.lit H15 (n := 1) rfl (by decide)) (m := 1) rfl (by omega) rfl (by omega) (by simp only [maxLen] at *; omega)
    have H31 : Has w23 g20 (rowL rest22 5) := H25
    clear H25
    have dg20b12 : g20 ≠ b12 := by have := H15.lt; rcases hg30 with h | h <;> omega
    have ng20 : g20 = g ∨ w.heap.size ≤ g20 := by have := K19.size; rcases hg30 with h | h <;> omega
    refine Ops.go (v := (Value.slice (some ⟨g20, 0, none⟩) (n + 1) cap21)) (by kernel_rfl) (Runs.append (ts := #[59, 59]) (ty := 59) (vs := [(Value.slice (some ⟨g, 0, none⟩) n cap), (Value.slice (some ⟨b12, 0, none⟩) 1 1)]) (by kernel_rfl) hr24) (d := (some 14)) (by kernel_rfl) rfl ?_
    clear H18
    have H32 := H15.keep K29 (by intro h; change b12 = g at h; omega)
    clear H15
    have K33 := K19.trans K29 (U := (fun i => i = g)) (fun i h1 h2 => h2) (fun i h1 h2 => by have h2 : i = g := h2; show i = g; omega)
    clear K19
    clear K29 hr24 hg30
    refine Ops.regs 1 [(0, (Value.slice (some ⟨g20, 0, none⟩) (n + 1) cap21))] (j := 4) (by kernel_rfl) (by kernel_rfl) ?_
    refine Ops.done (by kernel_rfl) ?_
    clear H32
    refine q_region (by kernel_rfl) ?_
    refine Ops.regs 4 [(15, (Value.slice (some ⟨g20, 0, none⟩) (n + 1) cap21)), (18, (i64 (IntKind.i64.wrap (((n + 1 : Nat) : Int) - 1))))] (j := 4) (by kernel_rfl) (by kernel_rfl) ?_
    have e34 : IntKind.i64.wrap (((n + 1 : Nat) : Int) - 1) = ((n + 1 : Nat) : Int) - 1 := wrap_i64 (by omega) (by omega)
    rw [e34]
    refine Ops.go (by kernel_rfl) (Runs.ixSlice (k := IntKind.i64) (t := 59) (b := g20) (off := 0) (len := (n + 1)) (cap := cap21) (s := 1) (off' := ((((n + 1 : Nat) : Int) - 1).toNat)) (i := ((n + 1 : Nat) : Int) - 1) (by kernel_rfl) (by kernel_rfl) (by omega) (by omega) (by omega)) (d := (some 19)) (by kernel_rfl) rfl ?_
    refine Ops.put (t := 5) (b := g20) (off := ((((n + 1 : Nat) : Int) - 1).toNat)) (v := (Value.int IntKind.u8 92)) (ys := (rest22.set ((((n + 1 : Nat) : Int) - 1).toNat) (Value.int IntKind.u8 92))) (by kernel_rfl) (by kernel_rfl) H31 (storeC1 (by kernel_rfl) rfl (by rw [fl26]; omega) rfl) (d := none) (by kernel_rfl) rfl (fun w35 H36 K37 => ?_)
    clear H31
    have K38 := K33.trans K37 (U := (fun i => i = g)) (fun i h1 h2 => h2) (fun i h1 h2 => by have h2 : i = g20 := h2; show i = g; omega)
    clear K33
    clear K37
    refine Ops.done (by kernel_rfl) ?_
    refine ⟨(Value.tuple #[]), retv_none rfl, ?_⟩
    exact ⟨rfl, K38⟩

theorem Spoil_calls (w : World) (v : Value) (xs : List UInt8) (base : Nat) (hO : OwnB w base 5 v xs) (h0 : 0 < xs.length) (hn : xs.length ≤ 1099511627776) : Calls Try.prog 57 ⟨[v]⟩ w (fun e w' => e = .returned (.tuple #[]) ∧ Keeps (fun i => base ≤ i) w w') := by
  obtain ⟨g, cap, cs, rfl, hb, H, h1, h2, h3⟩ := own_pos hO h0
  refine (Spoil_row w g _ cap cs H h3 h1 h2 hn).mono fun e w' ⟨he, hk⟩ => ⟨he, hk.mono fun i hi hg => ?_⟩
  have hg : i = g := hg
  omega
end Go.Proofs.Ytoljbckhoigibaa
