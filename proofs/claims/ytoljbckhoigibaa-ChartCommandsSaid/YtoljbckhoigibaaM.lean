/- chart: play -/
import Derived.Test.YtoljbckhoigibaaProg
import Derived.Test.YtoljbckhoigibaaL
import Derived.Test.YtoljbckhoigibaaChart6
set_option linter.unusedVariables false
namespace Go.Proofs.Ytoljbckhoigibaa
open Go.Q Go.RowKit

theorem play_calls (w : World) (W : World) (A : Option Addr) (n cap : Nat) (l : List Cmd) (b rb go co ge ce : Nat) (ro re : List Value) (c : Ch) (h : c.Inv) (H0 : Has w b (rowL (chL c) 118)) (H1 : Has w rb (rowL (rchL c go co ge ce) 54)) (H2 : Has w go (rowL (ints c.owner ++ ro) 3)) (H3 : Has w ge (rowL (ints c.epoch ++ re) 2)) (hd : go ≠ rb ∧ ge ≠ rb ∧ go ≠ ge ∧ b ≠ rb ∧ b ≠ go ∧ b ≠ ge) (hW : ∀ w', Keeps (fun i => i = b ∨ i = rb ∨ i = go ∨ i = ge) w w' → Keeps none_ W w') (hL : Elems W A n 5 (l.map Cmd.v)) (hn : l.length = n) (hm : n ≤ 9223372036854775807) : Calls Try.prog 22 ⟨[(Value.pointer (some ⟨b, 0, none⟩)), (Value.pointer (some ⟨rb, 0, none⟩)), (Value.slice A n cap)]⟩ w (fun e w' => ∃ c' : Ch, e = .returned (.bool true) ∧ c'.Inv ∧ Keeps (fun i => i = b ∨ i = rb ∨ i = go ∨ i = ge) w w' ∧ Has w' b (rowL (chL c') 118) ∧ Has w' rb (rowL (rchL c' go co ge ce) 54) ∧ Has w' go (rowL (ints c'.owner ++ ro) 3) ∧ Has w' ge (rowL (ints c'.epoch ++ re) 2)) := by
  have hd0 := hd
  have hd : go ≠ rb ∧ ge ≠ rb ∧ go ≠ ge := ⟨hd0.1, hd0.2.1, hd0.2.2.1⟩
  have K0 : Keeps (fun i => i = b ∨ i = rb ∨ i = go ∨ i = ge) w w := (Keeps.refl w).mono (fun _ _ h => h.elim)
  have Hb := H0.lt
  have Hr := H1.lt
  have Hgo := H2.lt
  have Hge := H3.lt
  refine q_calls Try.func22 (by kernel_rfl) (by kernel_rfl) ?_
  refine q_seq (by kernel_rfl) ?_
  refine q_region (by kernel_rfl) ?_
  refine Ops.regs 1 [(0, (Value.pointer (some ⟨b, 0, none⟩))), (1, (Value.pointer (some ⟨rb, 0, none⟩))), (2, (Value.slice A n cap)), (6, (Value.bool false))] (j := 1) (by kernel_rfl) (by kernel_rfl) ?_
  refine Ops.done (by kernel_rfl) ?_
  refine q_seq (by kernel_rfl) ?_
  refine q_seq (by kernel_rfl) ?_
  refine q_region (by kernel_rfl) ?_
  refine Ops.regs 1 [(0, (Value.pointer (some ⟨b, 0, none⟩))), (1, (Value.pointer (some ⟨rb, 0, none⟩))), (2, (Value.slice A n cap)), (6, (Value.bool false)), (7, (i64 0))] (j := 1) (by kernel_rfl) (by kernel_rfl) ?_
  refine Ops.done (by kernel_rfl) ?_
  refine q_block (id := 0) (by kernel_rfl) ?_
  refine q_keep (R := [(0, (Value.pointer (some ⟨b, 0, none⟩))), (1, (Value.pointer (some ⟨rb, 0, none⟩))), (2, (Value.slice A n cap)), (7, (i64 0))]) (by kernel_rfl) ?_
  refine q_loop (fun (gs : Nat × Ch) L (wx : World) => match gs with | (k, c) => L = [(0, (Value.pointer (some ⟨b, 0, none⟩))), (1, (Value.pointer (some ⟨rb, 0, none⟩))), (2, (Value.slice A n cap)), (7, (i64 ((k : Nat) : Int)))] ∧ k ≤ n ∧ k ≤ 100 ∧ c.Inv ∧ Keeps (fun i => i = b ∨ i = rb ∨ i = go ∨ i = ge) w wx ∧ Has wx b (rowL (chL c) 118) ∧ Has wx rb (rowL (rchL c go co ge ce) 54) ∧ Has wx go (rowL (ints c.owner ++ ro) 3) ∧ Has wx ge (rowL (ints c.epoch ++ re) 2)) (fun (gs : Nat × Ch) => match gs with | (k, c) => 100 - k) (0, c) (by kernel_rfl) ⟨rfl, Nat.zero_le _, Nat.zero_le _, h, K0, H0, H1, H2, H3⟩ ?_
  clear H0 H1 H2 H3 K0
  rintro ⟨k, c⟩ _ w1 ⟨rfl, hk, hk2, hc, K2, H3, H4, H5, H6⟩
  refine q_seq (by kernel_rfl) ?_
  refine q_seq (by kernel_rfl) ?_
  refine q_region (by kernel_rfl) ?_
  refine Ops.regs 5 [(0, (Value.pointer (some ⟨b, 0, none⟩))), (1, (Value.pointer (some ⟨rb, 0, none⟩))), (2, (Value.slice A n cap)), (7, (i64 ((k : Nat) : Int))), (12, (Value.bool (decide (((k : Nat) : Int) < ((n : Nat) : Int)))))] (j := 5) (by kernel_rfl) (by kernel_rfl) ?_
  refine Ops.split (decide (((k : Nat) : Int) < ((n : Nat) : Int))) (fun h7 => ?_) (fun h7 => ?_)
  · rw [h7]
    have p8 : ((k : Nat) : Int) < ((n : Nat) : Int) := of_decide_eq_true h7
    refine Ops.regs 3 [(0, (Value.pointer (some ⟨b, 0, none⟩))), (1, (Value.pointer (some ⟨rb, 0, none⟩))), (2, (Value.slice A n cap)), (7, (i64 ((k : Nat) : Int))), (15, (Value.bool (decide (((k : Nat) : Int) < 100))))] (j := 8) (by kernel_rfl) (by kernel_rfl) ?_
    refine Ops.done (by kernel_rfl) ?_
    refine q_cond (o := .tmp 15) (b := (decide (((k : Nat) : Int) < 100))) (by kernel_rfl) rfl (fun h9 => ?_) (fun h9 => ?_)
    · rw [h9]
      have p10 : ((k : Nat) : Int) < 100 := of_decide_eq_true h9
      obtain ⟨x11, lb12, lo13, hx14, hA15, hLd16⟩ := Elems.at (P := Try.prog) (t := 40) hL (k := k) (by omega) Cmd.l (fun _ => rfl) (by kernel_rfl) (fun _ => by kernel_rfl)
      refine q_skip (by kernel_rfl) ?_
      refine q_seq (by kernel_rfl) ?_
      refine q_block (id := 1) (by kernel_rfl) ?_
      refine q_seq (by kernel_rfl) ?_
      refine q_draw (fun wz => Keeps (fun i => i = b ∨ i = ge ∨ i = go ∨ i = rb) w1 wz) 21 (by kernel_rfl) (by kernel_rfl) (by kernel_rfl) (fun w17 K18 _ _ => ⟨(K18.mono (fun _ _ h => h.elim)), ?_⟩)
      have H19 := H3.keep K18 (fun h => h)
      clear H3
      have H20 := H4.keep K18 (fun h => h)
      clear H4
      have H21 := H5.keep K18 (fun h => h)
      clear H5
      have H22 := H6.keep K18 (fun h => h)
      clear H6
      have K23 := K2.trans K18 (U := (fun i => i = b ∨ i = rb ∨ i = go ∨ i = ge)) (fun i h1 h2 => h2) (fun i h1 h2 => by exact h2.elim)
      clear K2
      refine Dr.strong (S' := (fun wz => Keeps (fun i => i = b ∨ i = ge ∨ i = go ∨ i = rb) w17 wz)) ((Keeps.refl w17).mono (fun _ _ h => h.elim)) (fun wz hx => K18.trans hx (fun _ _ h => h.elim) (fun _ _ h => h)) ?_
      clear K18
      refine Dr.takes (fuel' := 18) (is' := [2, 1, 0]) [0, 1, 2] [(0, (Value.pointer (some ⟨b, 0, none⟩))), (1, (Value.pointer (some ⟨rb, 0, none⟩))), (2, (Value.slice A n cap)), (7, (i64 ((k : Nat) : Int))), (15, (Value.bool true)), (18, (Value.pointer (some ⟨b, 0, none⟩))), (19, (Value.slice A n cap)), (20, (i64 ((k : Nat) : Int)))] (by kernel_rfl) rfl (by kernel_rfl) ?_
      refine Dr.take (i := 3) (v := (Value.pointer (some ⟨lb12, lo13 + k * 5, none⟩))) (by kernel_rfl) (by kernel_rfl) (fun wz hS => Runs.ixSliceE (k := IntKind.i64) (t := 38) (len := n) (cap := cap) (s := 5) (off' := lo13 + k * 5) (i := ((k : Nat) : Int)) hA15 (by kernel_rfl) (by kernel_rfl) (by omega) (by omega) (by omega)) (d := (some 21)) (by kernel_rfl) rfl ?_
      refine Dr.take (i := 4) (v := (agg [(i64 x11.kind), (i64 x11.slot), (i64 x11.shard), (i64 x11.n), (i64 x11.phase)])) (by kernel_rfl) (by kernel_rfl) (fun wz hS => Runs.load (t := 40) (a := ⟨lb12, lo13 + k * 5, none⟩) (by kernel_rfl) (hLd16 _ (hW _ (K23.trans hS (fun _ _ h => h) (fun i h1 h2 => by have h2 : i = b ∨ i = ge ∨ i = go ∨ i = rb := h2; show i = b ∨ i = rb ∨ i = go ∨ i = ge; omega))))) (d := (some 22)) (by kernel_rfl) rfl ?_
      refine Dr.takes (fuel' := 13) (is' := [10, 9, 8, 4, 3, 2, 1, 0]) [8, 9, 10] [(0, (Value.pointer (some ⟨b, 0, none⟩))), (1, (Value.pointer (some ⟨rb, 0, none⟩))), (2, (Value.slice A n cap)), (7, (i64 ((k : Nat) : Int))), (15, (Value.bool true)), (18, (Value.pointer (some ⟨b, 0, none⟩))), (22, (agg [(i64 x11.kind), (i64 x11.slot), (i64 x11.shard), (i64 x11.n), (i64 x11.phase)])), (26, (Value.pointer (some ⟨rb, 0, none⟩))), (27, (Value.slice A n cap)), (28, (i64 ((k : Nat) : Int)))] (by kernel_rfl) rfl (by kernel_rfl) ?_
      refine Dr.take (i := 11) (v := (Value.pointer (some ⟨lb12, lo13 + k * 5, none⟩))) (by kernel_rfl) (by kernel_rfl) (fun wz hS => Runs.ixSliceE (k := IntKind.i64) (t := 38) (len := n) (cap := cap) (s := 5) (off' := lo13 + k * 5) (i := ((k : Nat) : Int)) hA15 (by kernel_rfl) (by kernel_rfl) (by omega) (by omega) (by omega)) (d := (some 29)) (by kernel_rfl) rfl ?_
      refine Dr.take (i := 12) (v := (agg [(i64 x11.kind), (i64 x11.slot), (i64 x11.shard), (i64 x11.n), (i64 x11.phase)])) (by kernel_rfl) (by kernel_rfl) (fun wz hS => Runs.load (t := 40) (a := ⟨lb12, lo13 + k * 5, none⟩) (by kernel_rfl) (hLd16 _ (hW _ (K23.trans hS (fun _ _ h => h) (fun i h1 h2 => by have h2 : i = b ∨ i = ge ∨ i = go ∨ i = rb := h2; show i = b ∨ i = rb ∨ i = go ∨ i = ge; omega))))) (d := (some 30)) (by kernel_rfl) rfl ?_
      refine Dr.call (i := 5) (by kernel_rfl) (by kernel_rfl) (d := (some 23)) (by kernel_rfl) (fun _ => given_calls _ ⟨x11.kind, x11.slot, x11.shard, x11.n, x11.phase⟩) ?_
      rintro _ w24 ⟨rfl, K25⟩
      have H26 := H19.keep K25 (fun h => h)
      clear H19
      have H27 := H20.keep K25 (fun h => h)
      clear H20
      have H28 := H21.keep K25 (fun h => h)
      clear H21
      have H29 := H22.keep K25 (fun h => h)
      clear H22
      have K30 := K23.trans K25 (U := (fun i => i = b ∨ i = rb ∨ i = go ∨ i = ge)) (fun i h1 h2 => h2) (fun i h1 h2 => by exact h2.elim)
      clear K23
      refine ⟨_, _, rfl, rfl, (K25.mono (fun _ _ h => h.elim)), ?_⟩
      refine Dr.strong (S' := (fun wz => Keeps (fun i => i = b ∨ i = ge ∨ i = go ∨ i = rb) w24 wz)) ((Keeps.refl w24).mono (fun _ _ h => h.elim)) (fun wz hx => K25.trans hx (fun _ _ h => h.elim) (fun _ _ h => h)) ?_
      clear K25
      refine Dr.call (i := 6) (by kernel_rfl) (by kernel_rfl) (d := (some 24)) (by kernel_rfl) (fun _ => Do_calls _ b c ⟨x11.kind, x11.slot, x11.shard, x11.n, x11.phase⟩ hc H26) ?_
      rintro _ w31 ⟨rfl, K32, H33⟩
      have H34 := H27.keep K32 (by intro h; change rb = b at h; omega)
      clear H27
      have H35 := H28.keep K32 (by intro h; change go = b at h; omega)
      clear H28
      have H36 := H29.keep K32 (by intro h; change ge = b at h; omega)
      clear H29
      have K37 := K30.trans K32 (U := (fun i => i = b ∨ i = rb ∨ i = go ∨ i = ge)) (fun i h1 h2 => h2) (fun i h1 h2 => by have h2 : i = b := h2; show i = b ∨ i = rb ∨ i = go ∨ i = ge; omega)
      clear K30
      refine ⟨_, _, rfl, rfl, (K32.mono (fun i _ h => by have h : i = b := h; show i = b ∨ i = ge ∨ i = go ∨ i = rb; omega)), ?_⟩
      refine Dr.strong (S' := (fun wz => Keeps (fun i => i = b ∨ i = ge ∨ i = go ∨ i = rb) w31 wz)) ((Keeps.refl w31).mono (fun _ _ h => h.elim)) (fun wz hx => K32.trans hx (fun _ _ h => by have h : _ = b := h; show _ = b ∨ _ = ge ∨ _ = go ∨ _ = rb; omega) (fun _ _ h => h)) ?_
      clear K32
      refine Dr.call (i := 7) (by kernel_rfl) (by kernel_rfl) (d := (some 25)) (by kernel_rfl) (fun _ => taken_calls _ ((c.do_ ⟨x11.kind, x11.slot, x11.shard, x11.n, x11.phase⟩).1.why) ((c.do_ ⟨x11.kind, x11.slot, x11.shard, x11.n, x11.phase⟩).1.wait) ((c.do_ ⟨x11.kind, x11.slot, x11.shard, x11.n, x11.phase⟩).1.n)) ?_
      rintro _ w38 ⟨rfl, K39⟩
      have H40 := H33.keep K39 (fun h => h)
      clear H33
      have H41 := H34.keep K39 (fun h => h)
      clear H34
      have H42 := H35.keep K39 (fun h => h)
      clear H35
      have H43 := H36.keep K39 (fun h => h)
      clear H36
      have K44 := K37.trans K39 (U := (fun i => i = b ∨ i = rb ∨ i = go ∨ i = ge)) (fun i h1 h2 => h2) (fun i h1 h2 => by exact h2.elim)
      clear K37
      refine ⟨_, _, rfl, rfl, (K39.mono (fun _ _ h => h.elim)), ?_⟩
      refine Dr.strong (S' := (fun wz => Keeps (fun i => i = b ∨ i = ge ∨ i = go ∨ i = rb) w38 wz)) ((Keeps.refl w38).mono (fun _ _ h => h.elim)) (fun wz hx => K39.trans hx (fun _ _ h => h.elim) (fun _ _ h => h)) ?_
      clear K39
      refine Dr.call (i := 13) (by kernel_rfl) (by kernel_rfl) (d := (some 31)) (by kernel_rfl) (fun _ => RDo_calls _ rb go co ge ce ro re c ⟨x11.kind, x11.slot, x11.shard, x11.n, x11.phase⟩ hc H41 H42 H43 hd) ?_
      rintro _ w45 ⟨rfl, K46, H47, H48, H49⟩
      have H50 := H40.keep K46 (by intro h; change b = rb ∨ b = go ∨ b = ge at h; omega)
      clear H40
      have K51 := K44.trans K46 (U := (fun i => i = b ∨ i = rb ∨ i = go ∨ i = ge)) (fun i h1 h2 => h2) (fun i h1 h2 => by have h2 : i = rb ∨ i = go ∨ i = ge := h2; show i = b ∨ i = rb ∨ i = go ∨ i = ge; omega)
      clear K44
      refine ⟨_, _, rfl, rfl, (K46.mono (fun i _ h => by have h : i = rb ∨ i = go ∨ i = ge := h; show i = b ∨ i = ge ∨ i = go ∨ i = rb; omega)), ?_⟩
      refine Dr.strong (S' := (fun wz => Keeps (fun i => i = b ∨ i = ge ∨ i = go ∨ i = rb) w45 wz)) ((Keeps.refl w45).mono (fun _ _ h => h.elim)) (fun wz hx => K46.trans hx (fun _ _ h => by have h : _ = rb ∨ _ = go ∨ _ = ge := h; show _ = b ∨ _ = ge ∨ _ = go ∨ _ = rb; omega) (fun _ _ h => h)) ?_
      clear K46
      refine Dr.take (i := 14) (v := (Value.bool (!(aggB [(i64 ((c.do_ ⟨x11.kind, x11.slot, x11.shard, x11.n, x11.phase⟩).1.why)), (Value.bool ((c.do_ ⟨x11.kind, x11.slot, x11.shard, x11.n, x11.phase⟩).1.wait)), (i64 ((c.do_ ⟨x11.kind, x11.slot, x11.shard, x11.n, x11.phase⟩).1.n))] [(i64 ((c.do_ ⟨x11.kind, x11.slot, x11.shard, x11.n, x11.phase⟩).1.why)), (Value.bool ((c.do_ ⟨x11.kind, x11.slot, x11.shard, x11.n, x11.phase⟩).1.wait)), (i64 ((c.do_ ⟨x11.kind, x11.slot, x11.shard, x11.n, x11.phase⟩).1.n))])))) (by kernel_rfl) (by kernel_rfl) (fun wz hS => Runs.aggne (t := 55) (by kernel_rfl) (by kernel_rfl)) (d := (some 32)) (by kernel_rfl) rfl ?_
      refine Dr.takes (fuel' := 5) (is' := [15, 14, 13, 7, 6, 5, 12, 11, 10, 9, 8, 4, 3, 2, 1, 0]) [15] [(0, (Value.pointer (some ⟨b, 0, none⟩))), (1, (Value.pointer (some ⟨rb, 0, none⟩))), (2, (Value.slice A n cap)), (7, (i64 ((k : Nat) : Int))), (15, (Value.bool true)), (33, (Value.bool (!(aggB [(i64 ((c.do_ ⟨x11.kind, x11.slot, x11.shard, x11.n, x11.phase⟩).1.why)), (Value.bool ((c.do_ ⟨x11.kind, x11.slot, x11.shard, x11.n, x11.phase⟩).1.wait)), (i64 ((c.do_ ⟨x11.kind, x11.slot, x11.shard, x11.n, x11.phase⟩).1.n))] [(i64 ((c.do_ ⟨x11.kind, x11.slot, x11.shard, x11.n, x11.phase⟩).1.why)), (Value.bool ((c.do_ ⟨x11.kind, x11.slot, x11.shard, x11.n, x11.phase⟩).1.wait)), (i64 ((c.do_ ⟨x11.kind, x11.slot, x11.shard, x11.n, x11.phase⟩).1.n))]))))] (by kernel_rfl) rfl (by kernel_rfl) ?_
      have h52 : (!(aggB [(i64 ((c.do_ ⟨x11.kind, x11.slot, x11.shard, x11.n, x11.phase⟩).1.why)), (Value.bool ((c.do_ ⟨x11.kind, x11.slot, x11.shard, x11.n, x11.phase⟩).1.wait)), (i64 ((c.do_ ⟨x11.kind, x11.slot, x11.shard, x11.n, x11.phase⟩).1.n))] [(i64 ((c.do_ ⟨x11.kind, x11.slot, x11.shard, x11.n, x11.phase⟩).1.why)), (Value.bool ((c.do_ ⟨x11.kind, x11.slot, x11.shard, x11.n, x11.phase⟩).1.wait)), (i64 ((c.do_ ⟨x11.kind, x11.slot, x11.shard, x11.n, x11.phase⟩).1.n))])) = false := by simp [aggB, cellB]
      rw [h52]
      refine Dr.takes (fuel' := 3) (is' := [17, 16, 15, 14, 13, 7, 6, 5, 12, 11, 10, 9, 8, 4, 3, 2, 1, 0]) [16, 17] [(0, (Value.pointer (some ⟨b, 0, none⟩))), (1, (Value.pointer (some ⟨rb, 0, none⟩))), (2, (Value.slice A n cap)), (7, (i64 ((k : Nat) : Int))), (15, (Value.bool true)), (33, (Value.bool false)), (34, (Value.pointer (some ⟨b, 0, none⟩))), (35, (Value.pointer (some ⟨rb, 0, none⟩)))] (by kernel_rfl) rfl (by kernel_rfl) ?_
      refine Dr.call (i := 18) (by kernel_rfl) (by kernel_rfl) (d := (some 36)) (by kernel_rfl) (fun _ => alike_calls _ b rb go co ge ce ro re ((c.do_ ⟨x11.kind, x11.slot, x11.shard, x11.n, x11.phase⟩).2) (Ch.Inv.do_ hc ⟨x11.kind, x11.slot, x11.shard, x11.n, x11.phase⟩) H50 H47 H48 H49 hd) ?_
      rintro _ w53 ⟨rfl, K54⟩
      have H55 := H50.keep K54 (fun h => h)
      clear H50
      have H56 := H47.keep K54 (fun h => h)
      clear H47
      have H57 := H48.keep K54 (fun h => h)
      clear H48
      have H58 := H49.keep K54 (fun h => h)
      clear H49
      have K59 := K51.trans K54 (U := (fun i => i = b ∨ i = rb ∨ i = go ∨ i = ge)) (fun i h1 h2 => h2) (fun i h1 h2 => by exact h2.elim)
      clear K51
      refine ⟨_, _, rfl, rfl, (K54.mono (fun _ _ h => h.elim)), ?_⟩
      refine Dr.strong (S' := (fun wz => Keeps (fun i => i = b ∨ i = ge ∨ i = go ∨ i = rb) w53 wz)) ((Keeps.refl w53).mono (fun _ _ h => h.elim)) (fun wz hx => K54.trans hx (fun _ _ h => h.elim) (fun _ _ h => h)) ?_
      clear K54
      refine Dr.takes (fuel' := 0) (is' := [20, 19, 18, 17, 16, 15, 14, 13, 7, 6, 5, 12, 11, 10, 9, 8, 4, 3, 2, 1, 0]) [19, 20] [(0, (Value.pointer (some ⟨b, 0, none⟩))), (1, (Value.pointer (some ⟨rb, 0, none⟩))), (2, (Value.slice A n cap)), (7, (i64 ((k : Nat) : Int))), (15, (Value.bool true)), (38, (Value.bool false))] (by kernel_rfl) rfl (by kernel_rfl) ?_
      refine Dr.done (by kernel_rfl) ?_
      refine q_else (o := .tmp 38) (by kernel_rfl) rfl ?_
      refine q_skip (by kernel_rfl) ?_
      refine q_region (by kernel_rfl) ?_
      refine Ops.regs 2 [(0, (Value.pointer (some ⟨b, 0, none⟩))), (1, (Value.pointer (some ⟨rb, 0, none⟩))), (2, (Value.slice A n cap)), (7, (i64 ((k : Nat) : Int))), (15, (Value.bool true)), (17, (i64 (IntKind.i64.wrap (((k : Nat) : Int) + 1)))), (38, (Value.bool false))] (j := 2) (by kernel_rfl) (by kernel_rfl) ?_
      have e60 : IntKind.i64.wrap (((k : Nat) : Int) + 1) = ((k : Nat) : Int) + 1 := wrap_i64 (by omega) (by omega)
      rw [e60]
      refine Ops.regs 1 [(0, (Value.pointer (some ⟨b, 0, none⟩))), (1, (Value.pointer (some ⟨rb, 0, none⟩))), (2, (Value.slice A n cap)), (7, (i64 (((k : Nat) : Int) + 1))), (15, (Value.bool true)), (38, (Value.bool false))] (j := 3) (by kernel_rfl) (by kernel_rfl) ?_
      refine Ops.keep (R := [(0, (Value.pointer (some ⟨b, 0, none⟩))), (1, (Value.pointer (some ⟨rb, 0, none⟩))), (2, (Value.slice A n cap)), (7, (i64 ((k + 1 : Nat) : Int)))]) (by kernel_rfl) ?_
      refine Ops.done (by kernel_rfl) ?_
      exact ⟨(k + 1, (c.do_ ⟨x11.kind, x11.slot, x11.shard, x11.n, x11.phase⟩).2), ⟨rfl, by omega, by omega, Ch.Inv.do_ hc ⟨x11.kind, x11.slot, x11.shard, x11.n, x11.phase⟩, K59, H55, H56, H57, H58⟩, (show 100 - (k + 1) < 100 - k from by omega)⟩
    · rw [h9]
      have p61 : ¬ (((k : Nat) : Int) < 100) := of_decide_eq_false h9
      refine q_exit (id := 0) (by kernel_rfl) ?_
      refine q_seq (by kernel_rfl) ?_
      refine q_region (by kernel_rfl) ?_
      refine Ops.regs 1 [(6, (Value.bool true))] (j := 1) (by kernel_rfl) (by kernel_rfl) ?_
      refine Ops.done (by kernel_rfl) ?_
      refine q_ret (by kernel_rfl) ?_
      refine ⟨(Value.bool true), retv_tmp rfl rfl, ?_⟩
      exact ⟨c, rfl, hc, K2, H3, H4, H5, H6⟩
  · rw [h7]
    have p62 : ¬ (((k : Nat) : Int) < ((n : Nat) : Int)) := of_decide_eq_false h7
    refine Ops.regs 3 [(0, (Value.pointer (some ⟨b, 0, none⟩))), (1, (Value.pointer (some ⟨rb, 0, none⟩))), (2, (Value.slice A n cap)), (7, (i64 ((k : Nat) : Int))), (15, (Value.bool false))] (j := 8) (by kernel_rfl) (by kernel_rfl) ?_
    refine Ops.done (by kernel_rfl) ?_
    refine q_else (o := .tmp 15) (by kernel_rfl) rfl ?_
    refine q_exit (id := 0) (by kernel_rfl) ?_
    refine q_seq (by kernel_rfl) ?_
    refine q_region (by kernel_rfl) ?_
    refine Ops.regs 1 [(6, (Value.bool true))] (j := 1) (by kernel_rfl) (by kernel_rfl) ?_
    refine Ops.done (by kernel_rfl) ?_
    refine q_ret (by kernel_rfl) ?_
    refine ⟨(Value.bool true), retv_tmp rfl rfl, ?_⟩
    exact ⟨c, rfl, hc, K2, H3, H4, H5, H6⟩
end Go.Proofs.Ytoljbckhoigibaa
