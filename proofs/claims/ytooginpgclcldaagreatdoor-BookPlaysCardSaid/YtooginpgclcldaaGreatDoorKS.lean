/- what spoils and lends bytes -/
import Derived.Test.YtooginpgclcldaaGreatDoorProg
import Derived.Test.YtooginpgclcldaaGreatDoorLC
import Derived.Test.YtooginpgclcldaaGreatDoorKR
import Derived.Test.YtooginpgclcldaaGreatDoorLX
set_option linter.unusedVariables false
namespace Go.Proofs.YtooginpgclcldaaGreatDoor
open Go.Q Go.RowKit

theorem Spoil_row (w : World) (g n cap : Nat) (cs : List Value) (H0 : Has w g (rowL cs 5)) (hcs : cs.length = cap) (hnc : n ≤ cap) (hcm : cap ≤ maxLen) (hn : n ≤ 140737488351232) : Calls Tryz.prog 9 ⟨[(Value.slice (some ⟨g, 0, none⟩) n cap)]⟩ w (fun e w' => e = .returned (.tuple #[]) ∧ Keeps (fun i => i = g) w w') := by
 have K0 : Keeps (fun i => i = g) w w := (Keeps.refl w).mono (fun _ _ h => h.elim)
 have Hg := H0.lt
 refine q_calls Tryz.func9 (by kernel_rfl) (by kernel_rfl) ?_
 refine qs ?_
 refine qs ?_
 refine qg ?_
 refine og 1 [(0, (Value.slice (some ⟨g, 0, none⟩) n cap)), (2, (i64 0))] 1 ?_
 refine od ?_
 refine q_block (id := 0) (by kernel_rfl) ?_
 refine q_keep (R := [(0, (Value.slice (some ⟨g, 0, none⟩) n cap)), (2, (i64 0))]) (by kernel_rfl) ?_
 refine q_loop (fun (gs : Nat × (List Value)) L (wx : World) => match gs with | (k, cs) => L = [(0, (Value.slice (some ⟨g, 0, none⟩) n cap)), (2, (i64 ((k : Nat) : Int)))] ∧ cs.length = cap ∧ k ≤ n ∧ Keeps (fun i => i = g) w wx ∧ Has wx g (rowL cs 5)) (fun (gs : Nat × (List Value)) => match gs with | (k, cs) => n - k) (0, cs) (by kernel_rfl) ⟨rfl, hcs, Nat.zero_le _, K0, H0⟩ ?_
 clear H0 K0
 rintro ⟨k, cs⟩ _ w1 ⟨rfl, hcs, hk, K2, H3⟩
 refine qs ?_
 refine qs ?_
 refine qg ?_
 refine og 4 [(0, (Value.slice (some ⟨g, 0, none⟩) n cap)), (2, (i64 ((k : Nat) : Int))), (6, (Value.bool (decide (((k : Nat) : Int) < ((n : Nat) : Int)))))] 4 ?_
 refine od ?_
 refine q_cond (o := .tmp 6) (b := (decide (((k : Nat) : Int) < ((n : Nat) : Int)))) (by kernel_rfl) rfl (fun h4 => ?_) (fun h4 => ?_)
 ·rw [h4]
  have p5 : ((k : Nat) : Int) < ((n : Nat) : Int) := of_decide_eq_true h4
  refine q_skip (by kernel_rfl) ?_
  refine qs ?_
  refine q_block (id := 1) (by kernel_rfl) ?_
  refine qg ?_
  refine og 2 [(0, (Value.slice (some ⟨g, 0, none⟩) n cap)), (2, (i64 ((k : Nat) : Int))), (6, (Value.bool true)), (9, (Value.slice (some ⟨g, 0, none⟩) n cap)), (10, (i64 ((k : Nat) : Int)))] 2 ?_
  refine Ops.go (by kernel_rfl) (Runs.ixSlice (k := IntKind.i64) (t := 22) (b := g) (off := 0) (len := n) (cap := cap) (s := 1) (off' := k) (i := ((k : Nat) : Int)) (by kernel_rfl) (by kernel_rfl) (by omega) (by omega) (by omega)) (d := (some 11)) (by kernel_rfl) rfl ?_
  refine Ops.put (t := 5) (b := g) (off := k) (v := (Value.int IntKind.u8 90)) (ys := (cs.set k (Value.int IntKind.u8 90))) (by kernel_rfl) (by kernel_rfl) H3 (storeC1 (by kernel_rfl) rfl (by rw [hcs]; omega) rfl) (d := none) (by kernel_rfl) rfl (fun w6 H7 K8 => ?_)
  clear H3
  replace K2 := K2.trans K8 (U := (fun i => i = g)) (fun i h1 h2 => h2) (fun i h1 h2 => by have h2 : i = g := h2; show i = g; omega)
  clear K8
  refine od ?_
  refine qg ?_
  refine og 2 [(0, (Value.slice (some ⟨g, 0, none⟩) n cap)), (2, (i64 ((k : Nat) : Int))), (6, (Value.bool true)), (8, (i64 (IntKind.i64.wrap (((k : Nat) : Int) + 1))))] 2 ?_
  have e9 : IntKind.i64.wrap (((k : Nat) : Int) + 1) = ((k + 1 : Nat) : Int) := by rw [wrap_i64 (by omega) (by omega)]; omega
  rw [e9]
  clear e9
  refine og 1 [(0, (Value.slice (some ⟨g, 0, none⟩) n cap)), (2, (i64 ((k + 1 : Nat) : Int))), (6, (Value.bool true))] 3 ?_
  refine Ops.keep (R := [(0, (Value.slice (some ⟨g, 0, none⟩) n cap)), (2, (i64 ((k + 1 : Nat) : Int)))]) (by kernel_rfl) ?_
  refine od ?_
  exact ⟨(k + 1, cs.set k (Value.int IntKind.u8 90)), ⟨rfl, (show (cs.set k (Value.int IntKind.u8 90)).length = cap from by simp [hcs]), (by omega), K2, H7⟩, (show n - (k + 1) < n - k from by omega)⟩
 ·rw [h4]
  have p10 : ¬ (((k : Nat) : Int) < ((n : Nat) : Int)) := of_decide_eq_false h4
  refine q_exit (id := 0) (by kernel_rfl) ?_
  refine qs ?_
  refine qg ?_
  refine og 1 [(0, (Value.slice (some ⟨g, 0, none⟩) n cap)), (12, (Value.slice (some ⟨g, 0, none⟩) n cap))] 1 ?_
  refine Ops.new (o := rowL [(Value.int IntKind.u8 91)] 5) (V := fun b => (Value.slice (some ⟨b, 0, none⟩) 1 1)) (by kernel_rfl) (d := (some 13)) (by kernel_rfl) (fun b => rfl) (fun b11 w12 hb13 H14 K15 hs16 => ?_)
  have lb11 : g < b11 := by have := H3.lt; omega
  have nb11 : w.heap.size ≤ b11 := by have := K2.size; omega
  replace K2 := K2.trans K15 (U := (fun i => i = g)) (fun i h1 h2 => h2) (fun i h1 h2 => by exact h2.elim)
  replace H3 := H3.keep K15 (fun h => h)
  clear K15 hs16
  obtain ⟨g17, cap18, rest19, w20, hr21, H22, fl23, fn24, fm25, K26, hg27⟩ := app_any (ty := 22) tyB H3 hcs (n := n) (by omega) (by omega) (Rd.lit H14 (n := 1) rfl (by decide)) (m := 1) rfl (by omega) rfl (by omega) (by simp only [maxLen] at *; omega)
  have H28 : Has w20 g17 (rowL rest19 5) := H22
  clear H22
  have dg17b11 : g17 ≠ b11 := by have := H14.lt; rcases hg27 with h | h <;> omega
  have ng17 : g17 = g ∨ w.heap.size ≤ g17 := by have := K2.size; rcases hg27 with h | h <;> omega
  refine Ops.go (v := (Value.slice (some ⟨g17, 0, none⟩) (n + 1) cap18)) (by kernel_rfl) (Runs.append (ts := #[22, 22]) (ty := 22) (vs := [(Value.slice (some ⟨g, 0, none⟩) n cap), (Value.slice (some ⟨b11, 0, none⟩) 1 1)]) (by kernel_rfl) hr21) (d := (some 14)) (by kernel_rfl) rfl ?_
  clear H3
  replace K2 := K2.trans K26 (U := (fun i => i = g)) (fun i h1 h2 => h2) (fun i h1 h2 => by have h2 : i = g := h2; show i = g; omega)
  replace H14 := H14.keep K26 (by intro h; change b11 = g at h; omega)
  clear K26 hr21 hg27
  refine og 1 [(0, (Value.slice (some ⟨g17, 0, none⟩) (n + 1) cap18))] 4 ?_
  refine od ?_
  clear H14
  refine qg ?_
  refine og 4 [(15, (Value.slice (some ⟨g17, 0, none⟩) (n + 1) cap18)), (18, (i64 (IntKind.i64.wrap (((n + 1 : Nat) : Int) - 1))))] 4 ?_
  have e29 : IntKind.i64.wrap (((n + 1 : Nat) : Int) - 1) = ((n + 1 : Nat) : Int) - 1 := wrap_i64 (by omega) (by omega)
  rw [e29]
  refine Ops.go (by kernel_rfl) (Runs.ixSlice (k := IntKind.i64) (t := 22) (b := g17) (off := 0) (len := (n + 1)) (cap := cap18) (s := 1) (off' := ((((n + 1 : Nat) : Int) - 1).toNat)) (i := ((n + 1 : Nat) : Int) - 1) (by kernel_rfl) (by kernel_rfl) (by omega) (by omega) (by omega)) (d := (some 19)) (by kernel_rfl) rfl ?_
  refine Ops.put (t := 5) (b := g17) (off := ((((n + 1 : Nat) : Int) - 1).toNat)) (v := (Value.int IntKind.u8 92)) (ys := (rest19.set ((((n + 1 : Nat) : Int) - 1).toNat) (Value.int IntKind.u8 92))) (by kernel_rfl) (by kernel_rfl) H28 (storeC1 (by kernel_rfl) rfl (by rw [fl23]; omega) rfl) (d := none) (by kernel_rfl) rfl (fun w30 H31 K32 => ?_)
  clear H28
  replace K2 := K2.trans K32 (U := (fun i => i = g)) (fun i h1 h2 => h2) (fun i h1 h2 => by have h2 : i = g17 := h2; show i = g; omega)
  clear K32
  refine od ?_
  refine ⟨(Value.tuple #[]), retv_none rfl, ?_⟩
  exact ⟨rfl, K2⟩

theorem Spoil_nil (w : World)   : Calls Tryz.prog 9 ⟨[(Value.slice none 0 0)]⟩ w (fun e w' => e = .returned (.tuple #[]) ∧ Keeps none_ w w') := by
 have K0 : Keeps none_ w w := Keeps.refl w
 refine q_calls Tryz.func9 (by kernel_rfl) (by kernel_rfl) ?_
 refine qs ?_
 refine qs ?_
 refine qg ?_
 refine og 1 [(0, (Value.slice none 0 0)), (2, (i64 0))] 1 ?_
 refine od ?_
 refine q_block (id := 0) (by kernel_rfl) ?_
 refine q_keep (R := [(0, (Value.slice none 0 0)), (2, (i64 0))]) (by kernel_rfl) ?_
 refine q_loop (fun (k : Nat) L (wx : World) => L = [(0, (Value.slice none 0 0)), (2, (i64 ((k : Nat) : Int)))] ∧ k = 0 ∧ Keeps none_ w wx) (fun (k : Nat) => 0 - k) 0 (by kernel_rfl) ⟨rfl, rfl, K0⟩ ?_
 clear K0
 rintro k _ w1 ⟨rfl, hk, K2⟩
 refine qs ?_
 refine qs ?_
 refine qg ?_
 refine og 4 [(0, (Value.slice none 0 0)), (2, (i64 ((k : Nat) : Int))), (6, (Value.bool (decide (((k : Nat) : Int) < 0))))] 4 ?_
 refine od ?_
 have h3 : (decide (((k : Nat) : Int) < 0)) = false := decide_eq_false (by omega)
 rw [h3]
 refine q_else (o := .tmp 6) (by kernel_rfl) rfl ?_
 refine q_exit (id := 0) (by kernel_rfl) ?_
 refine qs ?_
 refine qg ?_
 refine og 1 [(0, (Value.slice none 0 0)), (12, (Value.slice none 0 0))] 1 ?_
 refine Ops.new (o := rowL [(Value.int IntKind.u8 91)] 5) (V := fun b => (Value.slice (some ⟨b, 0, none⟩) 1 1)) (by kernel_rfl) (d := (some 13)) (by kernel_rfl) (fun b => rfl) (fun b4 w5 hb6 H7 K8 hs9 => ?_)
 have nb4 : w.heap.size ≤ b4 := by have := K2.size; omega
 replace K2 := K2.trans K8 (U := none_) (fun i h1 h2 => h2) (fun i h1 h2 => by exact h2)
 clear K8 hs9
 obtain ⟨g10, cap11, rest12, w13, hr14, H15, fl16, fn17, fm18, K19, hg20⟩ := app_row0 (ty := 22) tyB (Rd.lit H7 (n := 1) rfl (by decide)) (m := 1) rfl (by omega) (by omega) (by decide)
 have H21 : Has w13 g10 (rowL ([(Value.int IntKind.u8 91)] ++ rest12) 5) := H15
 clear H15
 have dg10b4 : g10 ≠ b4 := by have := H7.lt; omega
 have ng10 : w.heap.size ≤ g10 := by have := K2.size; omega
 refine Ops.go (v := (Value.slice (some ⟨g10, 0, none⟩) 1 cap11)) (by kernel_rfl) (Runs.append (ts := #[22, 22]) (ty := 22) (vs := [(Value.slice none 0 0), (Value.slice (some ⟨b4, 0, none⟩) 1 1)]) (by kernel_rfl) hr14) (d := (some 14)) (by kernel_rfl) rfl ?_
 replace K2 := K2.trans K19 (U := none_) (fun i h1 h2 => h2) (fun i h1 h2 => by exact h2)
 replace H7 := H7.keep K19 (fun h => h)
 clear K19 hr14 hg20
 refine og 1 [(0, (Value.slice (some ⟨g10, 0, none⟩) 1 cap11))] 4 ?_
 refine od ?_
 refine qg ?_
 refine og 5 [(19, (ptr g10))] 5 ?_
 refine Ops.put (t := 5) (b := g10) (off := 0) (v := (Value.int IntKind.u8 92)) (ys := ([(Value.int IntKind.u8 92)] ++ rest12)) (by kernel_rfl) (by kernel_rfl) H21 (by kernel_rfl) (d := none) (by kernel_rfl) rfl (fun w22 H23 K24 => ?_)
 clear H21
 replace K2 := K2.trans K24 (U := none_) (fun i h1 h2 => h2) (fun i h1 h2 => by have h2 : i = g10 := h2; exfalso; omega)
 replace H7 := H7.keep K24 (by intro h; change b4 = g10 at h; omega)
 clear K24
 refine od ?_
 refine ⟨(Value.tuple #[]), retv_none rfl, ?_⟩
 exact ⟨rfl, K2⟩

theorem Spoil_calls (w : World) (v : Value) (xs : List UInt8) (base : Nat) (hO : OwnB w base 5 v xs) (hn : xs.length ≤ 140737488351232) : Calls Tryz.prog 9 ⟨[v]⟩ w (fun e w' => e = .returned (.tuple #[]) ∧ Keeps (fun i => v.ownBlock = some i) w w') := by
 rcases own_cases hO with rfl | ⟨g, cap, cs, rfl, hb, H, h1, h2, h3⟩
 ·exact (Spoil_nil w).mono fun e w' ⟨he, hk⟩ => ⟨he, hk.mono fun _ _ h => h.elim⟩
 ·exact (Spoil_row w g _ cap cs H h3 h1 h2 hn).mono fun e w' ⟨he, hk⟩ => ⟨he, hk.mono fun i hi hg => by have hg : i = g := hg; subst hg; rfl⟩

theorem Lent_calls (w : World) (B : Option Addr) (bc : Nat) (bs : List UInt8) (hB : RdB w (.slice B bs.length bc) bs) (hbl : bs.length ≤ 140737488351232) : Calls Tryz.prog 5 ⟨[(Value.slice B bs.length bc)]⟩ w (fun e w' => ∃ A c, e = .returned (.slice A bs.length c) ∧ Keeps none_ w w' ∧ OwnB w' w.heap.size 5 (.slice A (bs ++ [byte 167]).length c) (bs ++ [byte 167])) := by
 have hnil : OwnB w w.heap.size 5 (.slice none 0 0) [] := World.ownsRow_nil _ _ _ _
 have K0 : Keeps none_ w w := Keeps.refl w
 refine q_calls Tryz.func5 (by kernel_rfl) (by kernel_rfl) ?_
 refine qs ?_
 refine qg ?_
 refine og 1 [(0, (Value.slice B bs.length bc)), (2, (Value.slice none 0 0))] 1 ?_
 refine od ?_
 refine qs ?_
 refine qg ?_
 refine og 1 [(0, (Value.slice B bs.length bc)), (2, (Value.slice none 0 0)), (3, (Value.slice none 0 0))] 1 ?_
 refine od ?_
 refine qs ?_
 refine qg ?_
 refine og 2 [(0, (Value.slice B bs.length bc)), (2, (Value.slice none 0 0)), (3, (Value.slice none 0 0)), (4, (Value.slice none 0 0)), (5, (Value.slice B bs.length bc))] 2 ?_
 obtain ⟨v1, w2, hr3, hO4, K5⟩ := OwnB.app (ty := 22) tyB hnil (hB.keep0 (by omega) K0) (by (try simp only at *); (try simp only [List.length_append] at *); (try simp only [List.length_cons] at *); (try simp only [List.length_nil] at *); omega) K0.size
 refine Ops.go (v := v1) (by kernel_rfl) (Runs.append (ts := #[22, 22]) (ty := 22) (vs := [(Value.slice none 0 0), (Value.slice B bs.length bc)]) (by kernel_rfl) hr3) (d := (some 6)) (by kernel_rfl) rfl ?_
 have K6 := Keeps.own2 K0 K5
 clear hnil K0 hr3 K5
 refine og 1 [(0, (Value.slice B bs.length bc)), (2, (Value.slice none 0 0)), (3, v1)] 4 ?_
 refine od ?_
 refine qs ?_
 refine qg ?_
 refine og 1 [(0, (Value.slice B bs.length bc)), (2, (Value.slice none 0 0)), (3, v1), (7, v1)] 1 ?_
 refine Ops.new (o := rowL [(Value.int IntKind.u8 167)] 5) (V := fun b => (Value.slice (some ⟨b, 0, none⟩) 1 1)) (by kernel_rfl) (d := (some 8)) (by kernel_rfl) (fun b => rfl) (fun b7 w8 hb9 H10 K11 hs12 => ?_)
 have nb7 : w.heap.size ≤ b7 := by have := K6.size; omega
 have ob13 : ∀ i, (v1).ownBlock = some i → i < b7 := fun i hi => by have := (World.ownsRow.lt hO4 i hi).2; omega
 replace K6 := K6.trans K11 (U := none_) (fun i h1 h2 => h2) (fun i h1 h2 => by exact h2)
 replace hO4 := own_keep0 hO4 K11
 clear K11 hs12
 obtain ⟨v14, w15, hr16, hO17, K18⟩ := OwnB.app (ty := 22) tyB hO4 (lit1 (m := 167) (by decide) H10) (by (try simp only at *); (try simp only [List.length_append] at *); (try simp only [List.length_cons] at *); (try simp only [List.length_nil] at *); omega) K6.size
 refine Ops.go (v := v14) (by kernel_rfl) (Runs.append (ts := #[22, 22]) (ty := 22) (vs := [v1, (Value.slice (some ⟨b7, 0, none⟩) 1 1)]) (by kernel_rfl) hr16) (d := (some 9)) (by kernel_rfl) rfl ?_
 have K19 := Keeps.own2 K6 K18
 clear H10 hO4 K6 hr16 K18
 refine og 1 [(0, (Value.slice B bs.length bc)), (2, (Value.slice none 0 0)), (3, v14)] 4 ?_
 refine od ?_
 refine qs ?_
 refine qg ?_
 refine og 3 [(2, (Value.slice none 0 0)), (10, v14), (12, (i64 ((bs.length : Nat) : Int)))] 3 ?_
 have hE : [] ++ bs ++ [byte 167] = bs ++ [byte 167] := by simp
 rw [hE] at hO17
 obtain ⟨A20, c21, hf⟩ := RdB.form (OwnB.rd hO17)
 subst hf
 have hsl := (OwnB.rd hO17).slice
 rw [List.length_append] at hsl
 simp only [List.length_cons, List.length_nil] at hsl
 have hcut := run_cut (sz := 1) (P := Tryz.prog) (w := w15) (t := 22) (A := A20) (n := (bs ++ [byte 167]).length) (c := c21) 0 bs.length c21 (lo := none) (hi := some (i64 ((bs.length : Nat) : Int))) (mx := none) tyB.slice (by kernel_rfl) (.inl ⟨rfl, rfl⟩) (.inr ⟨_, rfl⟩) (.inl ⟨rfl, rfl⟩) (by omega) (by omega) (by omega)
 have hA0 : (if c21 = 0 then A20 else Option.map (fun q => Addr.add q (0 * 1)) A20) = A20 := by cases A20 <;> simp [Addr.add]
 rw [hA0, Nat.sub_zero, Nat.sub_zero] at hcut
 refine Ops.go (v := (Value.slice A20 bs.length c21)) (by kernel_rfl) (Runs.slice (by kernel_rfl) hcut) (d := (some 13)) (by kernel_rfl) rfl ?_
 clear hcut hA0
 refine og 1 [(2, (Value.slice A20 bs.length c21))] 5 ?_
 refine od ?_
 refine q_ret (by kernel_rfl) ?_
 refine ⟨(Value.slice A20 bs.length c21), retv_tmp rfl rfl, ?_⟩
 exact ⟨_, _, rfl, K19, hO17⟩
end Go.Proofs.YtooginpgclcldaaGreatDoor
