/- what spoils and lends bytes -/
import Derived.Test.YtnepjfnkaigakaaProg
import Derived.Test.YtnepjfnkaigakaaLibSpoil
import Derived.Test.YtnepjfnkaigakaaK16
set_option linter.unusedVariables false
namespace Go.Proofs.Ytnepjfnkaigakaa
open Go.Q Go.RowKit

theorem Spoil_row (w : World) (g n cap : Nat) (cs : List Value) (H0 : Has w g (rowL cs 5)) (hcs : cs.length = cap) (hnc : n ≤ cap) (hcm : cap ≤ maxLen) (hn : n ≤ 140737488351232) : Calls Try.prog 36 ⟨[(Value.slice (some ⟨g, 0, none⟩) n cap)]⟩ w (fun e w' => e = .returned (.tuple #[]) ∧ Keeps (fun i => i = g) w w') := by
  have K0 : Keeps (fun i => i = g) w w := (Keeps.refl w).mono (fun _ _ h => h.elim)
  have Hg := H0.lt
  refine q_calls Try.func36 (by kernel_rfl) (by kernel_rfl) ?_
  refine q_seq (by kernel_rfl) ?_
  refine q_seq (by kernel_rfl) ?_
  refine q_region (by kernel_rfl) ?_
  refine Ops.regs 1 [(0, (Value.slice (some ⟨g, 0, none⟩) n cap)), (2, (i64 0))] (j := 1) (by kernel_rfl) (by kernel_rfl) ?_
  refine Ops.done (by kernel_rfl) ?_
  refine q_block (id := 0) (by kernel_rfl) ?_
  refine q_keep (R := [(0, (Value.slice (some ⟨g, 0, none⟩) n cap)), (2, (i64 0))]) (by kernel_rfl) ?_
  refine q_loop (fun (gs : Nat × (List Value)) L (wx : World) => match gs with | (k, cs) => L = [(0, (Value.slice (some ⟨g, 0, none⟩) n cap)), (2, (i64 ((k : Nat) : Int)))] ∧ cs.length = cap ∧ k ≤ n ∧ Keeps (fun i => i = g) w wx ∧ Has wx g (rowL cs 5)) (fun (gs : Nat × (List Value)) => match gs with | (k, cs) => n - k) (0, cs) (by kernel_rfl) ⟨rfl, hcs, Nat.zero_le _, K0, H0⟩ ?_
  clear H0 K0
  rintro ⟨k, cs⟩ _ w1 ⟨rfl, hcs, hk, K2, H3⟩
  refine q_seq (by kernel_rfl) ?_
  refine q_seq (by kernel_rfl) ?_
  refine q_region (by kernel_rfl) ?_
  refine Ops.regs 4 [(0, (Value.slice (some ⟨g, 0, none⟩) n cap)), (2, (i64 ((k : Nat) : Int))), (6, (Value.bool (decide (((k : Nat) : Int) < ((n : Nat) : Int)))))] (j := 4) (by kernel_rfl) (by kernel_rfl) ?_
  refine Ops.done (by kernel_rfl) ?_
  refine q_cond (o := .tmp 6) (b := (decide (((k : Nat) : Int) < ((n : Nat) : Int)))) (by kernel_rfl) rfl (fun h4 => ?_) (fun h4 => ?_)
  · rw [h4]
    have p5 : ((k : Nat) : Int) < ((n : Nat) : Int) := of_decide_eq_true h4
    refine q_skip (by kernel_rfl) ?_
    refine q_seq (by kernel_rfl) ?_
    refine q_block (id := 1) (by kernel_rfl) ?_
    refine q_region (by kernel_rfl) ?_
    refine Ops.regs 2 [(0, (Value.slice (some ⟨g, 0, none⟩) n cap)), (2, (i64 ((k : Nat) : Int))), (6, (Value.bool true)), (9, (Value.slice (some ⟨g, 0, none⟩) n cap)), (10, (i64 ((k : Nat) : Int)))] (j := 2) (by kernel_rfl) (by kernel_rfl) ?_
    refine Ops.go (by kernel_rfl) (Runs.ixSlice (k := IntKind.i64) (t := 23) (b := g) (off := 0) (len := n) (cap := cap) (s := 1) (off' := k) (i := ((k : Nat) : Int)) (by kernel_rfl) (by kernel_rfl) (by omega) (by omega) (by omega)) (d := (some 11)) (by kernel_rfl) rfl ?_
    refine Ops.put (t := 5) (b := g) (off := k) (v := (Value.int IntKind.u8 90)) (ys := (cs.set k (Value.int IntKind.u8 90))) (by kernel_rfl) (by kernel_rfl) H3 (storeC1 (by kernel_rfl) rfl (by rw [hcs]; omega) rfl) (d := none) (by kernel_rfl) rfl (fun w6 H7 K8 => ?_)
    clear H3
    have K9 := K2.trans K8 (U := (fun i => i = g)) (fun i h1 h2 => h2) (fun i h1 h2 => by have h2 : i = g := h2; show i = g; omega)
    clear K2
    clear K8
    refine Ops.done (by kernel_rfl) ?_
    refine q_region (by kernel_rfl) ?_
    refine Ops.regs 2 [(0, (Value.slice (some ⟨g, 0, none⟩) n cap)), (2, (i64 ((k : Nat) : Int))), (6, (Value.bool true)), (8, (i64 (IntKind.i64.wrap (((k : Nat) : Int) + 1))))] (j := 2) (by kernel_rfl) (by kernel_rfl) ?_
    have e10 : IntKind.i64.wrap (((k : Nat) : Int) + 1) = ((k + 1 : Nat) : Int) := by rw [wrap_i64 (by omega) (by omega)]; omega
    rw [e10]
    clear e10
    refine Ops.regs 1 [(0, (Value.slice (some ⟨g, 0, none⟩) n cap)), (2, (i64 ((k + 1 : Nat) : Int))), (6, (Value.bool true))] (j := 3) (by kernel_rfl) (by kernel_rfl) ?_
    refine Ops.keep (R := [(0, (Value.slice (some ⟨g, 0, none⟩) n cap)), (2, (i64 ((k + 1 : Nat) : Int)))]) (by kernel_rfl) ?_
    refine Ops.done (by kernel_rfl) ?_
    exact ⟨(k + 1, cs.set k (Value.int IntKind.u8 90)), ⟨rfl, (show (cs.set k (Value.int IntKind.u8 90)).length = cap from by simp [hcs]), (by omega), K9, H7⟩, (show n - (k + 1) < n - k from by omega)⟩
  · rw [h4]
    have p11 : ¬ (((k : Nat) : Int) < ((n : Nat) : Int)) := of_decide_eq_false h4
    refine q_exit (id := 0) (by kernel_rfl) ?_
    refine q_seq (by kernel_rfl) ?_
    refine q_region (by kernel_rfl) ?_
    refine Ops.regs 1 [(0, (Value.slice (some ⟨g, 0, none⟩) n cap)), (12, (Value.slice (some ⟨g, 0, none⟩) n cap))] (j := 1) (by kernel_rfl) (by kernel_rfl) ?_
    refine Ops.new (o := rowL [(Value.int IntKind.u8 91)] 5) (V := fun b => (Value.slice (some ⟨b, 0, none⟩) 1 1)) (by kernel_rfl) (d := (some 13)) (by kernel_rfl) (fun b => rfl) (fun b12 w13 hb14 H15 K16 hs17 => ?_)
    have lb12 : g < b12 := by have := H3.lt; omega
    have nb12 : w.heap.size ≤ b12 := by have := K2.size; omega
    have K18 := K2.trans K16 (U := (fun i => i = g)) (fun i h1 h2 => h2) (fun i h1 h2 => by exact h2.elim)
    clear K2
    have H19 := H3.keep K16 (fun h => h)
    clear H3
    clear K16 hs17
    obtain ⟨g20, cap21, rest22, w23, hr24, H25, fl26, fn27, fm28, K29, hg30⟩ := app_any (ty := 23) tyB H19 hcs (n := n) (by omega) (by omega) (Rd.lit H15 (n := 1) rfl (by decide)) (m := 1) rfl (by omega) rfl (by omega) (by simp only [maxLen] at *; omega)
    have H31 : Has w23 g20 (rowL rest22 5) := H25
    clear H25
    have dg20b12 : g20 ≠ b12 := by have := H15.lt; rcases hg30 with h | h <;> omega
    have ng20 : g20 = g ∨ w.heap.size ≤ g20 := by have := K18.size; rcases hg30 with h | h <;> omega
    refine Ops.go (v := (Value.slice (some ⟨g20, 0, none⟩) (n + 1) cap21)) (by kernel_rfl) (Runs.append (ts := #[23, 23]) (ty := 23) (vs := [(Value.slice (some ⟨g, 0, none⟩) n cap), (Value.slice (some ⟨b12, 0, none⟩) 1 1)]) (by kernel_rfl) hr24) (d := (some 14)) (by kernel_rfl) rfl ?_
    clear H19
    have K32 := K18.trans K29 (U := (fun i => i = g)) (fun i h1 h2 => h2) (fun i h1 h2 => by have h2 : i = g := h2; show i = g; omega)
    clear K18
    have H33 := H15.keep K29 (by intro h; change b12 = g at h; omega)
    clear H15
    clear K29 hr24 hg30
    refine Ops.regs 1 [(0, (Value.slice (some ⟨g20, 0, none⟩) (n + 1) cap21))] (j := 4) (by kernel_rfl) (by kernel_rfl) ?_
    refine Ops.done (by kernel_rfl) ?_
    clear H33
    refine q_region (by kernel_rfl) ?_
    refine Ops.regs 4 [(15, (Value.slice (some ⟨g20, 0, none⟩) (n + 1) cap21)), (18, (i64 (IntKind.i64.wrap (((n + 1 : Nat) : Int) - 1))))] (j := 4) (by kernel_rfl) (by kernel_rfl) ?_
    have e34 : IntKind.i64.wrap (((n + 1 : Nat) : Int) - 1) = ((n + 1 : Nat) : Int) - 1 := wrap_i64 (by omega) (by omega)
    rw [e34]
    refine Ops.go (by kernel_rfl) (Runs.ixSlice (k := IntKind.i64) (t := 23) (b := g20) (off := 0) (len := (n + 1)) (cap := cap21) (s := 1) (off' := ((((n + 1 : Nat) : Int) - 1).toNat)) (i := ((n + 1 : Nat) : Int) - 1) (by kernel_rfl) (by kernel_rfl) (by omega) (by omega) (by omega)) (d := (some 19)) (by kernel_rfl) rfl ?_
    refine Ops.put (t := 5) (b := g20) (off := ((((n + 1 : Nat) : Int) - 1).toNat)) (v := (Value.int IntKind.u8 92)) (ys := (rest22.set ((((n + 1 : Nat) : Int) - 1).toNat) (Value.int IntKind.u8 92))) (by kernel_rfl) (by kernel_rfl) H31 (storeC1 (by kernel_rfl) rfl (by rw [fl26]; omega) rfl) (d := none) (by kernel_rfl) rfl (fun w35 H36 K37 => ?_)
    clear H31
    have K38 := K32.trans K37 (U := (fun i => i = g)) (fun i h1 h2 => h2) (fun i h1 h2 => by have h2 : i = g20 := h2; show i = g; omega)
    clear K32
    clear K37
    refine Ops.done (by kernel_rfl) ?_
    refine ⟨(Value.tuple #[]), retv_none rfl, ?_⟩
    exact ⟨rfl, K38⟩

theorem Spoil_nil (w : World)   : Calls Try.prog 36 ⟨[(Value.slice none 0 0)]⟩ w (fun e w' => e = .returned (.tuple #[]) ∧ Keeps none_ w w') := by
  have K0 : Keeps none_ w w := Keeps.refl w
  refine q_calls Try.func36 (by kernel_rfl) (by kernel_rfl) ?_
  refine q_seq (by kernel_rfl) ?_
  refine q_seq (by kernel_rfl) ?_
  refine q_region (by kernel_rfl) ?_
  refine Ops.regs 1 [(0, (Value.slice none 0 0)), (2, (i64 0))] (j := 1) (by kernel_rfl) (by kernel_rfl) ?_
  refine Ops.done (by kernel_rfl) ?_
  refine q_block (id := 0) (by kernel_rfl) ?_
  refine q_keep (R := [(0, (Value.slice none 0 0)), (2, (i64 0))]) (by kernel_rfl) ?_
  refine q_loop (fun (k : Nat) L (wx : World) => L = [(0, (Value.slice none 0 0)), (2, (i64 ((k : Nat) : Int)))] ∧ k = 0 ∧ Keeps none_ w wx) (fun (k : Nat) => 0 - k) 0 (by kernel_rfl) ⟨rfl, rfl, K0⟩ ?_
  clear K0
  rintro k _ w1 ⟨rfl, hk, K2⟩
  refine q_seq (by kernel_rfl) ?_
  refine q_seq (by kernel_rfl) ?_
  refine q_region (by kernel_rfl) ?_
  refine Ops.regs 4 [(0, (Value.slice none 0 0)), (2, (i64 ((k : Nat) : Int))), (6, (Value.bool (decide (((k : Nat) : Int) < 0))))] (j := 4) (by kernel_rfl) (by kernel_rfl) ?_
  refine Ops.done (by kernel_rfl) ?_
  have h3 : (decide (((k : Nat) : Int) < 0)) = false := decide_eq_false (by omega)
  rw [h3]
  refine q_else (o := .tmp 6) (by kernel_rfl) rfl ?_
  refine q_exit (id := 0) (by kernel_rfl) ?_
  refine q_seq (by kernel_rfl) ?_
  refine q_region (by kernel_rfl) ?_
  refine Ops.regs 1 [(0, (Value.slice none 0 0)), (12, (Value.slice none 0 0))] (j := 1) (by kernel_rfl) (by kernel_rfl) ?_
  refine Ops.new (o := rowL [(Value.int IntKind.u8 91)] 5) (V := fun b => (Value.slice (some ⟨b, 0, none⟩) 1 1)) (by kernel_rfl) (d := (some 13)) (by kernel_rfl) (fun b => rfl) (fun b4 w5 hb6 H7 K8 hs9 => ?_)
  have nb4 : w.heap.size ≤ b4 := by have := K2.size; omega
  have K10 := K2.trans K8 (U := none_) (fun i h1 h2 => h2) (fun i h1 h2 => by exact h2)
  clear K2
  clear K8 hs9
  obtain ⟨g11, cap12, rest13, w14, hr15, H16, fl17, fn18, fm19, K20, hg21⟩ := app_row0 (ty := 23) tyB (Rd.lit H7 (n := 1) rfl (by decide)) (m := 1) rfl (by omega) (by omega) (by decide)
  have H22 : Has w14 g11 (rowL ([(Value.int IntKind.u8 91)] ++ rest13) 5) := H16
  clear H16
  have dg11b4 : g11 ≠ b4 := by have := H7.lt; omega
  have ng11 : w.heap.size ≤ g11 := by have := K10.size; omega
  refine Ops.go (v := (Value.slice (some ⟨g11, 0, none⟩) 1 cap12)) (by kernel_rfl) (Runs.append (ts := #[23, 23]) (ty := 23) (vs := [(Value.slice none 0 0), (Value.slice (some ⟨b4, 0, none⟩) 1 1)]) (by kernel_rfl) hr15) (d := (some 14)) (by kernel_rfl) rfl ?_
  have K23 := K10.trans K20 (U := none_) (fun i h1 h2 => h2) (fun i h1 h2 => by exact h2)
  clear K10
  have H24 := H7.keep K20 (fun h => h)
  clear H7
  clear K20 hr15 hg21
  refine Ops.regs 1 [(0, (Value.slice (some ⟨g11, 0, none⟩) 1 cap12))] (j := 4) (by kernel_rfl) (by kernel_rfl) ?_
  refine Ops.done (by kernel_rfl) ?_
  refine q_region (by kernel_rfl) ?_
  refine Ops.regs 5 [(19, (Value.pointer (some ⟨g11, 0, none⟩)))] (j := 5) (by kernel_rfl) (by kernel_rfl) ?_
  refine Ops.put (t := 5) (b := g11) (off := 0) (v := (Value.int IntKind.u8 92)) (ys := ([(Value.int IntKind.u8 92)] ++ rest13)) (by kernel_rfl) (by kernel_rfl) H22 (by kernel_rfl) (d := none) (by kernel_rfl) rfl (fun w25 H26 K27 => ?_)
  clear H22
  have K28 := K23.trans K27 (U := none_) (fun i h1 h2 => h2) (fun i h1 h2 => by have h2 : i = g11 := h2; exfalso; omega)
  clear K23
  have H29 := H24.keep K27 (by intro h; change b4 = g11 at h; omega)
  clear H24
  clear K27
  refine Ops.done (by kernel_rfl) ?_
  refine ⟨(Value.tuple #[]), retv_none rfl, ?_⟩
  exact ⟨rfl, K28⟩

theorem Spoil_calls (w : World) (v : Value) (xs : List UInt8) (base : Nat) (hO : OwnB w base 5 v xs) (hn : xs.length ≤ 140737488351232) : Calls Try.prog 36 ⟨[v]⟩ w (fun e w' => e = .returned (.tuple #[]) ∧ Keeps (fun i => v.ownBlock = some i) w w') := by
  rcases own_cases hO with rfl | ⟨g, cap, cs, rfl, hb, H, h1, h2, h3⟩
  · exact (Spoil_nil w).mono fun e w' ⟨he, hk⟩ => ⟨he, hk.mono fun _ _ h => h.elim⟩
  · exact (Spoil_row w g _ cap cs H h3 h1 h2 hn).mono fun e w' ⟨he, hk⟩ => ⟨he, hk.mono fun i hi hg => by have hg : i = g := hg; subst hg; rfl⟩

theorem Lent_calls (w : World) (B : Option Addr) (bc : Nat) (bs : List UInt8) (hB : RdB w (.slice B bs.length bc) bs) (hbl : bs.length ≤ 140737488351232) : Calls Try.prog 21 ⟨[(Value.slice B bs.length bc)]⟩ w (fun e w' => ∃ A c, e = .returned (.slice A bs.length c) ∧ Keeps none_ w w' ∧ OwnB w' w.heap.size 5 (.slice A (bs ++ [byte 167]).length c) (bs ++ [byte 167])) := by
  have hnil : OwnB w w.heap.size 5 (.slice none 0 0) [] := World.ownsRow_nil _ _ _ _
  have K0 : Keeps none_ w w := Keeps.refl w
  refine q_calls Try.func21 (by kernel_rfl) (by kernel_rfl) ?_
  refine q_seq (by kernel_rfl) ?_
  refine q_region (by kernel_rfl) ?_
  refine Ops.regs 1 [(0, (Value.slice B bs.length bc)), (2, (Value.slice none 0 0))] (j := 1) (by kernel_rfl) (by kernel_rfl) ?_
  refine Ops.done (by kernel_rfl) ?_
  refine q_seq (by kernel_rfl) ?_
  refine q_region (by kernel_rfl) ?_
  refine Ops.regs 1 [(0, (Value.slice B bs.length bc)), (2, (Value.slice none 0 0)), (3, (Value.slice none 0 0))] (j := 1) (by kernel_rfl) (by kernel_rfl) ?_
  refine Ops.done (by kernel_rfl) ?_
  refine q_seq (by kernel_rfl) ?_
  refine q_region (by kernel_rfl) ?_
  refine Ops.regs 2 [(0, (Value.slice B bs.length bc)), (2, (Value.slice none 0 0)), (3, (Value.slice none 0 0)), (4, (Value.slice none 0 0)), (5, (Value.slice B bs.length bc))] (j := 2) (by kernel_rfl) (by kernel_rfl) ?_
  obtain ⟨v1, w2, hr3, hO4, K5⟩ := OwnB.app (ty := 23) tyB hnil (hB.keep0 (by omega) K0) (by (try simp only at *); (try simp only [List.length_append] at *); (try simp only [List.length_cons] at *); (try simp only [List.length_nil] at *); omega) K0.size
  refine Ops.go (v := v1) (by kernel_rfl) (Runs.append (ts := #[23, 23]) (ty := 23) (vs := [(Value.slice none 0 0), (Value.slice B bs.length bc)]) (by kernel_rfl) hr3) (d := (some 6)) (by kernel_rfl) rfl ?_
  have K6 := Keeps.own2 K0 K5
  clear hnil K0 hr3 K5
  refine Ops.regs 1 [(0, (Value.slice B bs.length bc)), (2, (Value.slice none 0 0)), (3, v1)] (j := 4) (by kernel_rfl) (by kernel_rfl) ?_
  refine Ops.done (by kernel_rfl) ?_
  refine q_seq (by kernel_rfl) ?_
  refine q_region (by kernel_rfl) ?_
  refine Ops.regs 1 [(0, (Value.slice B bs.length bc)), (2, (Value.slice none 0 0)), (3, v1), (7, v1)] (j := 1) (by kernel_rfl) (by kernel_rfl) ?_
  refine Ops.new (o := rowL [(Value.int IntKind.u8 167)] 5) (V := fun b => (Value.slice (some ⟨b, 0, none⟩) 1 1)) (by kernel_rfl) (d := (some 8)) (by kernel_rfl) (fun b => rfl) (fun b7 w8 hb9 H10 K11 hs12 => ?_)
  have nb7 : w.heap.size ≤ b7 := by have := K6.size; omega
  have ob13 : ∀ i, (v1).ownBlock = some i → i < b7 := fun i hi => by have := (World.ownsRow.lt hO4 i hi).2; omega
  have K14 := K6.trans K11 (U := none_) (fun i h1 h2 => h2) (fun i h1 h2 => by exact h2)
  clear K6
  have F15 := own_keep0 hO4 K11
  clear hO4
  clear K11 hs12
  obtain ⟨v16, w17, hr18, hO19, K20⟩ := OwnB.app (ty := 23) tyB F15 (lit1 (m := 167) (by decide) H10) (by (try simp only at *); (try simp only [List.length_append] at *); (try simp only [List.length_cons] at *); (try simp only [List.length_nil] at *); omega) K14.size
  refine Ops.go (v := v16) (by kernel_rfl) (Runs.append (ts := #[23, 23]) (ty := 23) (vs := [v1, (Value.slice (some ⟨b7, 0, none⟩) 1 1)]) (by kernel_rfl) hr18) (d := (some 9)) (by kernel_rfl) rfl ?_
  have K21 := Keeps.own2 K14 K20
  clear H10 F15 K14 hr18 K20
  refine Ops.regs 1 [(0, (Value.slice B bs.length bc)), (2, (Value.slice none 0 0)), (3, v16)] (j := 4) (by kernel_rfl) (by kernel_rfl) ?_
  refine Ops.done (by kernel_rfl) ?_
  refine q_seq (by kernel_rfl) ?_
  refine q_region (by kernel_rfl) ?_
  refine Ops.regs 3 [(2, (Value.slice none 0 0)), (10, v16), (12, (i64 ((bs.length : Nat) : Int)))] (j := 3) (by kernel_rfl) (by kernel_rfl) ?_
  have hE : [] ++ bs ++ [byte 167] = bs ++ [byte 167] := by simp
  rw [hE] at hO19
  obtain ⟨A22, c23, hf⟩ := RdB.form (OwnB.rd hO19)
  subst hf
  have hsl := (OwnB.rd hO19).slice
  rw [List.length_append] at hsl
  simp only [List.length_cons, List.length_nil] at hsl
  have hcut := run_cut (sz := 1) (P := Try.prog) (w := w17) (t := 23) (A := A22) (n := (bs ++ [byte 167]).length) (c := c23) 0 bs.length c23 (lo := none) (hi := some (i64 ((bs.length : Nat) : Int))) (mx := none) tyB.slice (by kernel_rfl) (.inl ⟨rfl, rfl⟩) (.inr ⟨_, rfl⟩) (.inl ⟨rfl, rfl⟩) (by omega) (by omega) (by omega)
  have hA0 : (if c23 = 0 then A22 else Option.map (fun q => Addr.add q (0 * 1)) A22) = A22 := by cases A22 <;> simp [Addr.add]
  rw [hA0, Nat.sub_zero, Nat.sub_zero] at hcut
  refine Ops.go (v := (Value.slice A22 bs.length c23)) (by kernel_rfl) (Runs.slice (by kernel_rfl) hcut) (d := (some 13)) (by kernel_rfl) rfl ?_
  clear hcut hA0
  refine Ops.regs 1 [(2, (Value.slice A22 bs.length c23))] (j := 5) (by kernel_rfl) (by kernel_rfl) ?_
  refine Ops.done (by kernel_rfl) ?_
  refine q_ret (by kernel_rfl) ?_
  refine ⟨(Value.slice A22 bs.length c23), retv_tmp rfl rfl, ?_⟩
  exact ⟨_, _, rfl, K21, hO19⟩
end Go.Proofs.Ytnepjfnkaigakaa
