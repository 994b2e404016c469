/- books are copied, and held one against the other -/
import Derived.Test.YtooginpgclcldaaGreatDoorProg
import Derived.Test.YtooginpgclcldaaGreatDoorOM
import Derived.Test.YtooginpgclcldaaGreatDoorSH
import Derived.Test.YtooginpgclcldaaGreatDoorKE
import Derived.Test.YtooginpgclcldaaGreatDoorLX
set_option linter.unusedVariables false
namespace Go.Proofs.YtooginpgclcldaaGreatDoor
open Go.Q Go.RowKit

theorem MClone_calls (w : World) (mb : Nat) (m : List (List UInt8 × AccV)) (Hm : HasMap w mb kstr accv m) : Calls Tryz.prog 56 ⟨[.map (some mb)]⟩ w (fun e w' => ∃ m2, e = .returned (.map (some m2)) ∧ Keeps none_ w w' ∧ HasMap w' m2 kstr accv m ∧ m2 = w.heap.size) := by
 obtain ⟨es, clock, hb, hs, he⟩ := Hm
 refine (Go.Proofs.AnyW.maps_Clone Go.Proofs.Tryz.clone56 mb es clock w hb).mono ?_
 rintro e w' ⟨rfl, rfl⟩
 exact ⟨_, rfl, Keeps.alloc _ _, ⟨es, clock, heap_alloc_new _ _, hs, he⟩, rfl⟩

theorem Copy_calls (w : World) (b mb : Nat) (m : List (List UInt8 × AccV)) (S : List AccM) (Hb : Has w b (rowL [.map (some mb)] 66)) (Hm : HasMap w mb kstr accv m) (hne : b ≠ mb) (hB : Book m S) : Calls Tryz.prog 16 ⟨[(ptr b)]⟩ w (fun e w' => ∃ b2 mb2, e = .returned (ptr b2) ∧ Keeps none_ w w' ∧ Has w' b2 (rowL [.map (some mb2)] 66) ∧ HasMap w' mb2 kstr accv m ∧ w.heap.size ≤ b2 ∧ w.heap.size ≤ mb2 ∧ b2 ≠ mb2) := by
 have Hbl := Hb.lt
 have Hml := Hm.lt
 have hlen := hB.len
 have K0 : Keeps none_ w w := Keeps.refl w
 refine q_calls Tryz.func16 (by kernel_rfl) (by kernel_rfl) ?_
 refine qs ?_
 refine qg ?_
 refine og 1 [(0, (ptr b)), (2, (Value.pointer none))] 1 ?_
 refine od ?_
 refine qs ?_
 refine qs ?_
 refine qg ?_
 refine og 2 [(0, (ptr b)), (2, (Value.pointer none)), (4, (Value.bool false))] 2 ?_
 refine od ?_
 refine q_else (o := .tmp 4) (by kernel_rfl) rfl ?_
 refine q_skip (by kernel_rfl) ?_
 refine qs ?_
 refine qg ?_
 refine og 3 [(2, (Value.pointer none)), (7, (ptr b))] 3 ?_
 refine Ops.go (v := (Value.map (some mb))) (by kernel_rfl) (Runs.load (t := 64) (a := ⟨b, 0, none⟩) (by kernel_rfl) (Hb.loads (by kernel_rfl))) (d := (some 8)) (by kernel_rfl) rfl ?_
 refine Ops.call (by kernel_rfl) (d := (some 9)) (by kernel_rfl) (MClone_calls _ mb m Hm) ?_
 rintro _ w2 ⟨mb1, rfl, K3, H4, hq5⟩
 have lmb1b : b < mb1 := by have := Hb.lt; omega
 have lmb1mb : mb < mb1 := by have := Hm.lt; omega
 have nmb1 : w.heap.size ≤ mb1 := by have := K0.size; omega
 refine ⟨_, _, rfl, rfl, ?_⟩
 replace K0 := K0.t0 K3
 replace Hb := Hb.keep K3 (fun h => h)
 replace Hm := Hm.keep K3 (fun h => h)
 clear K3
 refine og 1 [(2, (Value.pointer none)), (10, (agg [(Value.map (some mb1))]))] 6 ?_
 refine Ops.new (o := rowL [(Value.map (some mb1))] 66) (V := fun b => (ptr b)) (by kernel_rfl) (d := (some 11)) (by kernel_rfl) (fun b => rfl) (fun b6 w7 hb8 H9 K10 hs11 => ?_)
 have lb6b : b < b6 := by have := Hb.lt; omega
 have lb6mb : mb < b6 := by have := Hm.lt; omega
 have lb6mb1 : mb1 < b6 := by have := H4.lt; omega
 have nb6 : w.heap.size ≤ b6 := by have := K0.size; omega
 replace K0 := K0.t0 K10
 replace Hb := Hb.keep K10 (fun h => h)
 replace Hm := Hm.keep K10 (fun h => h)
 replace H4 := H4.keep K10 (fun h => h)
 clear K10 hs11
 refine og 1 [(2, (ptr b6))] 8 ?_
 refine od ?_
 refine q_ret (by kernel_rfl) ?_
 refine ⟨(ptr b6), retv_tmp rfl rfl, ?_⟩
 exact ⟨b6, mb1, rfl, K0, H9, H4, nb6, nmb1, by omega⟩

theorem Equal_calls (w : World) (m1 m2 : Nat) (M1 M2 : List (List UInt8 × AccV)) (S1 S2 : List AccM) (H1 : HasMap w m1 kstr accv M1) (H2 : HasMap w m2 kstr accv M2) (hB1 : Book M1 S1) (hB2 : Book M2 S2) : Calls Tryz.prog 46 ⟨[(Value.map (some m1)), (Value.map (some m2))]⟩ w (fun e w' => ∃ t, e = .returned (.bool t) ∧ (t = true ↔ S1 = S2) ∧ Keeps none_ w w') := by
 have H1l := H1.lt
 have H2l := H2.lt
 have hl1 := hB1.len
 have hl2 := hB2.len
 have K0 : Keeps none_ w w := Keeps.refl w
 refine q_calls Tryz.func46 (by kernel_rfl) (by kernel_rfl) ?_
 refine qs ?_
 refine qg ?_
 refine og 1 [(0, (Value.map (some m1))), (1, (Value.map (some m2))), (4, (Value.bool false))] 1 ?_
 refine od ?_
 refine qs ?_
 refine qs ?_
 refine qg ?_
 refine og 1 [(0, (Value.map (some m1))), (1, (Value.map (some m2))), (4, (Value.bool false)), (9, (Value.map (some m1)))] 1 ?_
 refine Ops.go (v := (i64 ((M1.length : Nat) : Int))) (by kernel_rfl) (Runs.maplen (ts := #[64]) (t0 := 64) (ty := 3) rfl Tryz.underlying64 H1 (by kernel_rfl)) (d := (some 10)) (by kernel_rfl) rfl ?_
 refine og 1 [(0, (Value.map (some m1))), (1, (Value.map (some m2))), (4, (Value.bool false)), (10, (i64 ((M1.length : Nat) : Int))), (11, (Value.map (some m2)))] 3 ?_
 refine Ops.go (v := (i64 ((M2.length : Nat) : Int))) (by kernel_rfl) (Runs.maplen (ts := #[64]) (t0 := 64) (ty := 3) rfl Tryz.underlying64 H2 (by kernel_rfl)) (d := (some 12)) (by kernel_rfl) rfl ?_
 refine og 1 [(0, (Value.map (some m1))), (1, (Value.map (some m2))), (4, (Value.bool false)), (13, (Value.bool (((M1.length : Nat) : Int) != ((M2.length : Nat) : Int))))] 5 ?_
 refine od ?_
 refine q_cond (o := .tmp 13) (b := (((M1.length : Nat) : Int) != ((M2.length : Nat) : Int))) (by kernel_rfl) rfl (fun h1 => ?_) (fun h1 => ?_)
 ·rw [h1]
  have p2 : ¬ (((M1.length : Nat) : Int) = ((M2.length : Nat) : Int)) := of_bne_t h1
  refine qs ?_
  refine qg ?_
  refine og 1 [(0, (Value.map (some m1))), (1, (Value.map (some m2))), (4, (Value.bool false))] 1 ?_
  refine od ?_
  refine q_ret (by kernel_rfl) ?_
  refine ⟨(Value.bool false), retv_tmp rfl rfl, ?_⟩
  exact ⟨false, rfl, ⟨fun h => (by cases h), fun h => absurd h fun h => (by subst h; omega)⟩, K0⟩
 ·rw [h1]
  have p3 : ((M1.length : Nat) : Int) = ((M2.length : Nat) : Int) := of_bne_f h1
  refine q_skip (by kernel_rfl) ?_
  refine qs ?_
  refine qs ?_
  refine qg ?_
  refine og 1 [(1, (Value.map (some m2))), (4, (Value.bool false)), (14, (Value.map (some m1)))] 1 ?_
  obtain ⟨it4, w5, hr6, K7, hq8, H9⟩ := HasMap.range (P := Tryz.prog) (t := 64) Tryz.underlying64 H1
  refine Ops.go (v := (ptr it4)) (by kernel_rfl) (Runs.of_range (by kernel_rfl) hr6) (d := (some 15)) (by kernel_rfl) rfl ?_
  have lit4m1 : m1 < it4 := by have := H1.lt; omega
  have lit4m2 : m2 < it4 := by have := H2.lt; omega
  have nit4 : w.heap.size ≤ it4 := by have := K0.size; omega
  replace K0 := K0.t0 K7
  replace H1 := H1.keep K7 (fun h => h)
  replace H2 := H2.keep K7 (fun h => h)
  clear K7 hr6
  refine od ?_
  refine q_block (id := 0) (by kernel_rfl) ?_
  refine q_keep (R := [(1, (Value.map (some m2))), (15, (ptr it4))]) (by kernel_rfl) ?_
  refine q_loop (fun (gs : (List (List UInt8 × AccV)) × (List (List UInt8 × AccV)) × (Option (List UInt8 × AccV))) L (wx : World) => match gs with | (came, rest, last) => L = [(1, (Value.map (some m2))), (15, (ptr it4))] ∧ (came ++ rest).Perm M1 ∧ (∀ y ∈ came, getM M2 y.1 = some y.2) ∧ Keeps none_ w wx ∧ HasMap wx m1 kstr accv M1 ∧ HasMap wx m2 kstr accv M2 ∧ IterM wx it4 m1 kstr accv M1 rest last) (fun (gs : (List (List UInt8 × AccV)) × (List (List UInt8 × AccV)) × (Option (List UInt8 × AccV))) => match gs with | (came, rest, last) => rest.length) ([], M1, none) (by kernel_rfl) ⟨rfl, (List.Perm.refl _), (fun y hy => by cases hy), K0, H1, H2, H9⟩ ?_
  clear H1 H2 H9 K0
  rintro ⟨came, rest, last⟩ _ w10 ⟨rfl, hp, hall, K11, H12, H13, H14⟩
  refine qs ?_
  refine qg ?_
  rcases IterM.next (P := Tryz.prog) H14 0 with ⟨hn24, hr21⟩ | ⟨x15, a16, p17, q18, w19, hs20, hr21, K22, H23⟩
  ·skip
   refine Ops.go (v := (Value.tuple #[(Value.bool false)])) (by kernel_rfl) (Runs.of_next (by kernel_rfl) hr21) (d := (some 16)) (by kernel_rfl) rfl ?_
   clear hr21
   refine og 1 [(1, (Value.map (some m2))), (15, (ptr it4)), (17, (Value.bool false))] 2 ?_
   refine od ?_
   refine qs ?_
   refine q_else (o := .tmp 17) (by kernel_rfl) rfl ?_
   refine q_exit (id := 0) (by kernel_rfl) ?_
   refine qs ?_
   refine qg ?_
   refine og 1 [(4, (Value.bool true))] 1 ?_
   refine od ?_
   refine q_ret (by kernel_rfl) ?_
   refine ⟨(Value.bool true), retv_tmp rfl rfl, ?_⟩
   exact ⟨true, rfl, ⟨fun _ => book_eq hB1 hB2 (by omega) (by rw [hn24, List.append_nil] at hp; exact hp) hall, fun _ => rfl⟩, K11⟩
  ·skip
   refine Ops.go (v := (Value.tuple #[(Value.bool true), (Value.string (str x15)), (agg [(i64 a16.1), (Value.string (str a16.2))])])) (by kernel_rfl) (Runs.of_next (by kernel_rfl) hr21) (d := (some 16)) (by kernel_rfl) rfl ?_
   replace H23 := H23 (by omega)
   clear H14
   replace K11 := K11.trans K22 (U := none_) (fun i h1 h2 => h2) (fun i h1 h2 => by have h2 : i = it4 := h2; exfalso; omega)
   replace H12 := H12.keep K22 (by intro h; change m1 = it4 at h; omega)
   replace H13 := H13.keep K22 (by intro h; change m2 = it4 at h; omega)
   clear K22 hr21
   have hmem : (x15, a16) ∈ M1 := hp.mem_iff.1 (by rw [hs20]; simp)
   have hsm : S1 = S2 → getM M2 x15 = some a16 := fun h => book_same hB1 (h ▸ hB2) hmem
   have hln := congrArg List.length hs20
   rw [List.length_append, List.length_cons] at hln
   rcases hg25 : getM M2 x15 with _ | v26
   ·skip
    refine og 1 [(1, (Value.map (some m2))), (15, (ptr it4)), (17, (Value.bool true))] 2 ?_
    refine od ?_
    refine qs ?_
    refine q_then (o := .tmp 17) (by kernel_rfl) rfl ?_
    refine q_skip (by kernel_rfl) ?_
    refine q_block (id := 1) (by kernel_rfl) ?_
    refine qs ?_
    refine qg ?_
    refine Ops.go (v := (Value.tuple #[(Value.string (str x15)), (agg [(i64 a16.1), (Value.string (str a16.2))])])) (by kernel_rfl) (Runs.of_entry (by kernel_rfl) (IterM.entry (kf := kstr) (vf := accv) (x := x15) (a := a16) H23)) (d := (some 18)) (by kernel_rfl) rfl ?_
    refine og 2 [(1, (Value.map (some m2))), (15, (ptr it4)), (17, (Value.bool true)), (19, (Value.string (str x15))), (20, (agg [(i64 a16.1), (Value.string (str a16.2))]))] 3 ?_
    refine Ops.new (o := rowL [(i64 0), (Value.string ByteArray.empty)] 70) (V := fun b => (ptr b)) (by kernel_rfl) (d := (some 6)) (by kernel_rfl) (fun b => rfl) (fun b27 w28 hb29 H30 K31 hs32 => ?_)
    have lb27m1 : m1 < b27 := by have := H12.lt; omega
    have lb27m2 : m2 < b27 := by have := H13.lt; omega
    have lb27it4 : it4 < b27 := by have := H23.lt; omega
    have nb27 : w.heap.size ≤ b27 := by have := K11.size; omega
    replace K11 := K11.trans K31 (U := none_) (fun i h1 h2 => h2) (fun i h1 h2 => by exact h2)
    replace H12 := H12.keep K31 (fun h => h)
    replace H13 := H13.keep K31 (fun h => h)
    replace H23 := H23.keep K31 (fun h => h) (fun h => h)
    clear K31 hs32
    refine og 1 [(1, (Value.map (some m2))), (5, (Value.string (str x15))), (6, (ptr b27)), (15, (ptr it4)), (17, (Value.bool true)), (20, (agg [(i64 a16.1), (Value.string (str a16.2))]))] 5 ?_
    refine Ops.put (t := 70) (b := b27) (off := 0) (v := (agg [(i64 a16.1), (Value.string (str a16.2))])) (ys := [(i64 a16.1), (Value.string (str a16.2))]) (by kernel_rfl) (by kernel_rfl) H30 (by kernel_rfl) (d := none) (by kernel_rfl) rfl (fun w33 H34 K35 => ?_)
    clear H30
    replace K11 := K11.trans K35 (U := none_) (fun i h1 h2 => h2) (fun i h1 h2 => by have h2 : i = b27 := h2; exfalso; omega)
    replace H12 := H12.keep K35 (by intro h; change m1 = b27 at h; omega)
    replace H13 := H13.keep K35 (by intro h; change m2 = b27 at h; omega)
    replace H23 := H23.keep K35 (by intro h; change it4 = b27 at h; omega) (by intro h; change m1 = b27 at h; omega)
    clear K35
    refine od ?_
    refine qs ?_
    refine qg ?_
    refine og 2 [(1, (Value.map (some m2))), (5, (Value.string (str x15))), (6, (ptr b27)), (15, (ptr it4)), (17, (Value.bool true)), (22, (Value.map (some m2))), (23, (Value.string (str x15)))] 2 ?_
    refine Ops.go (v := (Value.tuple #[(agg [(i64 0), (Value.string ByteArray.empty)]), (Value.bool false)])) (by kernel_rfl) (Runs.lookup_none (ok := true) (z := (agg [(i64 0), (Value.string ByteArray.empty)])) KT Tryz.underlying64 (by kernel_rfl) H13 hg25 (by kernel_rfl)) (d := (some 24)) (by kernel_rfl) rfl ?_
    refine og 3 [(1, (Value.map (some m2))), (5, (Value.string (str x15))), (6, (ptr b27)), (15, (ptr it4)), (17, (Value.bool true)), (25, (agg [(i64 0), (Value.string ByteArray.empty)])), (26, (Value.bool false))] 6 ?_
    refine Ops.new (o := rowL [(i64 0), (Value.string ByteArray.empty)] 70) (V := fun b => (ptr b)) (by kernel_rfl) (d := (some 7)) (by kernel_rfl) (fun b => rfl) (fun b36 w37 hb38 H39 K40 hs41 => ?_)
    have lb36m1 : m1 < b36 := by have := H12.lt; omega
    have lb36m2 : m2 < b36 := by have := H13.lt; omega
    have lb36it4 : it4 < b36 := by have := H23.lt; omega
    have lb36b27 : b27 < b36 := by have := H34.lt; omega
    have nb36 : w.heap.size ≤ b36 := by have := K11.size; omega
    replace K11 := K11.trans K40 (U := none_) (fun i h1 h2 => h2) (fun i h1 h2 => by exact h2)
    replace H12 := H12.keep K40 (fun h => h)
    replace H13 := H13.keep K40 (fun h => h)
    replace H23 := H23.keep K40 (fun h => h) (fun h => h)
    replace H34 := H34.keep K40 (fun h => h)
    clear K40 hs41
    refine Ops.put (t := 70) (b := b36) (off := 0) (v := (agg [(i64 0), (Value.string ByteArray.empty)])) (ys := [(i64 0), (Value.string ByteArray.empty)]) (by kernel_rfl) (by kernel_rfl) H39 (by kernel_rfl) (d := none) (by kernel_rfl) rfl (fun w42 H43 K44 => ?_)
    clear H39
    replace K11 := K11.trans K44 (U := none_) (fun i h1 h2 => h2) (fun i h1 h2 => by have h2 : i = b36 := h2; exfalso; omega)
    replace H12 := H12.keep K44 (by intro h; change m1 = b36 at h; omega)
    replace H13 := H13.keep K44 (by intro h; change m2 = b36 at h; omega)
    replace H23 := H23.keep K44 (by intro h; change it4 = b36 at h; omega) (by intro h; change m1 = b36 at h; omega)
    replace H34 := H34.keep K44 (by intro h; change b27 = b36 at h; omega)
    clear K44
    refine og 1 [(1, (Value.map (some m2))), (5, (Value.string (str x15))), (6, (ptr b27)), (7, (ptr b36)), (8, (Value.bool false)), (15, (ptr it4)), (17, (Value.bool true))] 9 ?_
    refine od ?_
    refine qs ?_
    refine qg ?_
    refine og 7 [(1, (Value.map (some m2))), (5, (Value.string (str x15))), (6, (ptr b27)), (7, (ptr b36)), (8, (Value.bool false)), (15, (ptr it4)), (17, (Value.bool true)), (33, (Value.bool true))] 7 ?_
    refine od ?_
    refine q_then (o := .tmp 33) (by kernel_rfl) rfl ?_
    refine qs ?_
    refine qg ?_
    refine og 1 [(1, (Value.map (some m2))), (4, (Value.bool false)), (5, (Value.string (str x15))), (6, (ptr b27)), (7, (ptr b36)), (8, (Value.bool false)), (15, (ptr it4)), (17, (Value.bool true)), (33, (Value.bool true))] 1 ?_
    refine od ?_
    refine q_ret (by kernel_rfl) ?_
    refine ⟨(Value.bool false), retv_tmp rfl rfl, ?_⟩
    exact ⟨false, rfl, ⟨fun h => (by cases h), fun h => absurd h fun h => (by have q := hsm h; rw [hg25] at q; cases q)⟩, K11⟩
   ·skip
    refine og 1 [(1, (Value.map (some m2))), (15, (ptr it4)), (17, (Value.bool true))] 2 ?_
    refine od ?_
    refine qs ?_
    refine q_then (o := .tmp 17) (by kernel_rfl) rfl ?_
    refine q_skip (by kernel_rfl) ?_
    refine q_block (id := 1) (by kernel_rfl) ?_
    refine qs ?_
    refine qg ?_
    refine Ops.go (v := (Value.tuple #[(Value.string (str x15)), (agg [(i64 a16.1), (Value.string (str a16.2))])])) (by kernel_rfl) (Runs.of_entry (by kernel_rfl) (IterM.entry (kf := kstr) (vf := accv) (x := x15) (a := a16) H23)) (d := (some 18)) (by kernel_rfl) rfl ?_
    refine og 2 [(1, (Value.map (some m2))), (15, (ptr it4)), (17, (Value.bool true)), (19, (Value.string (str x15))), (20, (agg [(i64 a16.1), (Value.string (str a16.2))]))] 3 ?_
    refine Ops.new (o := rowL [(i64 0), (Value.string ByteArray.empty)] 70) (V := fun b => (ptr b)) (by kernel_rfl) (d := (some 6)) (by kernel_rfl) (fun b => rfl) (fun b45 w46 hb47 H48 K49 hs50 => ?_)
    have lb45m1 : m1 < b45 := by have := H12.lt; omega
    have lb45m2 : m2 < b45 := by have := H13.lt; omega
    have lb45it4 : it4 < b45 := by have := H23.lt; omega
    have nb45 : w.heap.size ≤ b45 := by have := K11.size; omega
    replace K11 := K11.trans K49 (U := none_) (fun i h1 h2 => h2) (fun i h1 h2 => by exact h2)
    replace H12 := H12.keep K49 (fun h => h)
    replace H13 := H13.keep K49 (fun h => h)
    replace H23 := H23.keep K49 (fun h => h) (fun h => h)
    clear K49 hs50
    refine og 1 [(1, (Value.map (some m2))), (5, (Value.string (str x15))), (6, (ptr b45)), (15, (ptr it4)), (17, (Value.bool true)), (20, (agg [(i64 a16.1), (Value.string (str a16.2))]))] 5 ?_
    refine Ops.put (t := 70) (b := b45) (off := 0) (v := (agg [(i64 a16.1), (Value.string (str a16.2))])) (ys := [(i64 a16.1), (Value.string (str a16.2))]) (by kernel_rfl) (by kernel_rfl) H48 (by kernel_rfl) (d := none) (by kernel_rfl) rfl (fun w51 H52 K53 => ?_)
    clear H48
    replace K11 := K11.trans K53 (U := none_) (fun i h1 h2 => h2) (fun i h1 h2 => by have h2 : i = b45 := h2; exfalso; omega)
    replace H12 := H12.keep K53 (by intro h; change m1 = b45 at h; omega)
    replace H13 := H13.keep K53 (by intro h; change m2 = b45 at h; omega)
    replace H23 := H23.keep K53 (by intro h; change it4 = b45 at h; omega) (by intro h; change m1 = b45 at h; omega)
    clear K53
    refine od ?_
    refine qs ?_
    refine qg ?_
    refine og 2 [(1, (Value.map (some m2))), (5, (Value.string (str x15))), (6, (ptr b45)), (15, (ptr it4)), (17, (Value.bool true)), (22, (Value.map (some m2))), (23, (Value.string (str x15)))] 2 ?_
    refine Ops.go (v := (Value.tuple #[(agg [(i64 v26.1), (Value.string (str v26.2))]), (Value.bool true)])) (by kernel_rfl) (Runs.lookup_some (ok := true) (vf := accv) (a := (v26.1, v26.2)) KT Tryz.underlying64 H13 hg25 (by kernel_rfl)) (d := (some 24)) (by kernel_rfl) rfl ?_
    refine og 3 [(1, (Value.map (some m2))), (5, (Value.string (str x15))), (6, (ptr b45)), (15, (ptr it4)), (17, (Value.bool true)), (25, (agg [(i64 v26.1), (Value.string (str v26.2))])), (26, (Value.bool true))] 6 ?_
    refine Ops.new (o := rowL [(i64 0), (Value.string ByteArray.empty)] 70) (V := fun b => (ptr b)) (by kernel_rfl) (d := (some 7)) (by kernel_rfl) (fun b => rfl) (fun b54 w55 hb56 H57 K58 hs59 => ?_)
    have lb54m1 : m1 < b54 := by have := H12.lt; omega
    have lb54m2 : m2 < b54 := by have := H13.lt; omega
    have lb54it4 : it4 < b54 := by have := H23.lt; omega
    have lb54b45 : b45 < b54 := by have := H52.lt; omega
    have nb54 : w.heap.size ≤ b54 := by have := K11.size; omega
    replace K11 := K11.trans K58 (U := none_) (fun i h1 h2 => h2) (fun i h1 h2 => by exact h2)
    replace H12 := H12.keep K58 (fun h => h)
    replace H13 := H13.keep K58 (fun h => h)
    replace H23 := H23.keep K58 (fun h => h) (fun h => h)
    replace H52 := H52.keep K58 (fun h => h)
    clear K58 hs59
    refine Ops.put (t := 70) (b := b54) (off := 0) (v := (agg [(i64 v26.1), (Value.string (str v26.2))])) (ys := [(i64 v26.1), (Value.string (str v26.2))]) (by kernel_rfl) (by kernel_rfl) H57 (by kernel_rfl) (d := none) (by kernel_rfl) rfl (fun w60 H61 K62 => ?_)
    clear H57
    replace K11 := K11.trans K62 (U := none_) (fun i h1 h2 => h2) (fun i h1 h2 => by have h2 : i = b54 := h2; exfalso; omega)
    replace H12 := H12.keep K62 (by intro h; change m1 = b54 at h; omega)
    replace H13 := H13.keep K62 (by intro h; change m2 = b54 at h; omega)
    replace H23 := H23.keep K62 (by intro h; change it4 = b54 at h; omega) (by intro h; change m1 = b54 at h; omega)
    replace H52 := H52.keep K62 (by intro h; change b45 = b54 at h; omega)
    clear K62
    refine og 1 [(1, (Value.map (some m2))), (5, (Value.string (str x15))), (6, (ptr b45)), (7, (ptr b54)), (8, (Value.bool true)), (15, (ptr it4)), (17, (Value.bool true))] 9 ?_
    refine od ?_
    refine qs ?_
    refine qg ?_
    refine og 3 [(1, (Value.map (some m2))), (5, (Value.string (str x15))), (6, (ptr b45)), (7, (ptr b54)), (8, (Value.bool true)), (15, (ptr it4)), (17, (Value.bool true)), (29, (Value.bool false))] 3 ?_
    refine Ops.go (v := (agg [(i64 a16.1), (Value.string (str a16.2))])) (by kernel_rfl) (Runs.load (t := 70) (a := ⟨b45, 0, none⟩) (by kernel_rfl) (H52.loads (by kernel_rfl))) (d := (some 30)) (by kernel_rfl) rfl ?_
    refine Ops.go (v := (agg [(i64 v26.1), (Value.string (str v26.2))])) (by kernel_rfl) (Runs.load (t := 70) (a := ⟨b54, 0, none⟩) (by kernel_rfl) (H61.loads (by kernel_rfl))) (d := (some 31)) (by kernel_rfl) rfl ?_
    refine Ops.go (v := (Value.bool (!(aggB [(i64 a16.1), (Value.string (str a16.2))] [(i64 v26.1), (Value.string (str v26.2))])))) (by kernel_rfl) (Runs.aggne (t := 70) (by kernel_rfl) (by kernel_rfl)) (d := (some 32)) (by kernel_rfl) rfl ?_
    refine og 1 [(1, (Value.map (some m2))), (5, (Value.string (str x15))), (6, (ptr b45)), (7, (ptr b54)), (8, (Value.bool true)), (15, (ptr it4)), (17, (Value.bool true)), (33, (Value.bool (!(aggB [(i64 a16.1), (Value.string (str a16.2))] [(i64 v26.1), (Value.string (str v26.2))]))))] 7 ?_
    refine od ?_
    refine q_cond (o := .tmp 33) (b := (!(aggB [(i64 a16.1), (Value.string (str a16.2))] [(i64 v26.1), (Value.string (str v26.2))]))) (by kernel_rfl) rfl (fun h63 => ?_) (fun h63 => ?_)
    ·rw [h63]
     have p64 : (aggB [(i64 a16.1), (Value.string (str a16.2))] [(i64 v26.1), (Value.string (str v26.2))]) = false := (bnot_true h63)
     have hav : a16 ≠ v26 := fun h => by have hq := (bnot_true h63); rw [(aggB_acc a16 v26).2 h] at hq; cases hq
     refine qs ?_
     refine qg ?_
     refine og 1 [(1, (Value.map (some m2))), (4, (Value.bool false)), (5, (Value.string (str x15))), (6, (ptr b45)), (7, (ptr b54)), (8, (Value.bool true)), (15, (ptr it4)), (17, (Value.bool true)), (33, (Value.bool true))] 1 ?_
     refine od ?_
     refine q_ret (by kernel_rfl) ?_
     refine ⟨(Value.bool false), retv_tmp rfl rfl, ?_⟩
     exact ⟨false, rfl, ⟨fun h => (by cases h), fun h => absurd h fun h => (by have q := hsm h; rw [hg25] at q; exact hav (Option.some.inj q).symm)⟩, K11⟩
    ·rw [h63]
     have p65 : (aggB [(i64 a16.1), (Value.string (str a16.2))] [(i64 v26.1), (Value.string (str v26.2))]) = true := (bnot_false h63)
     have hav := (aggB_acc a16 v26).1 (bnot_false h63)
     refine q_keep (R := [(1, (Value.map (some m2))), (15, (ptr it4))]) (by kernel_rfl) ?_
     refine q_skip (by kernel_rfl) ?_
     exact ⟨(came ++ [(x15, a16)], p17 ++ q18, some (x15, a16)), ⟨rfl, (came_perm (by rw [← hs20]; exact hp)), (fun y hy => by rcases List.mem_append.1 hy with hy | hy; (exact hall y hy); (rw [List.mem_singleton.1 hy, hav]; exact hg25)), K11, H12, H13, H23⟩, (show (p17 ++ q18).length < rest.length from by rw [List.length_append]; omega)⟩

theorem Same_calls (w : World) (b mb : Nat) (m : List (List UInt8 × AccV)) (S : List AccM) (b2 mb2 : Nat) (m2 : List (List UInt8 × AccV)) (S2 : List AccM) (Hb : Has w b (rowL [.map (some mb)] 66)) (Hm : HasMap w mb kstr accv m) (hne : b ≠ mb) (hB : Book m S) (Hb2 : Has w b2 (rowL [.map (some mb2)] 66)) (Hm2 : HasMap w mb2 kstr accv m2) (hne2 : b2 ≠ mb2) (hB2 : Book m2 S2) : Calls Tryz.prog 14 ⟨[(ptr b), (ptr b2)]⟩ w (fun e w' => ∃ t, e = .returned (.bool t) ∧ (t = true ↔ S = S2) ∧ Keeps none_ w w') := by
 have Hbl := Hb.lt
 have Hml := Hm.lt
 have hlen := hB.len
 have Hb2l := Hb2.lt
 have Hm2l := Hm2.lt
 have K0 : Keeps none_ w w := Keeps.refl w
 refine q_calls Tryz.func14 (by kernel_rfl) (by kernel_rfl) ?_
 refine qs ?_
 refine qg ?_
 refine og 1 [(0, (ptr b)), (1, (ptr b2)), (4, (Value.bool false))] 1 ?_
 refine od ?_
 refine qs ?_
 refine qs ?_
 refine qg ?_
 refine og 6 [(0, (ptr b)), (1, (ptr b2)), (4, (Value.bool false)), (10, (Value.bool false))] 6 ?_
 refine od ?_
 refine q_else (o := .tmp 10) (by kernel_rfl) rfl ?_
 refine q_skip (by kernel_rfl) ?_
 refine qs ?_
 refine q_draw (fun wz => Keeps none_ w wz) 10 (by kernel_rfl) (by kernel_rfl) (by kernel_rfl) (fun w1 K2 _ _ => ⟨K2, ?_⟩)
 replace K0 := K0.t0 K2
 replace Hb := Hb.keep K2 (fun h => h)
 replace Hm := Hm.keep K2 (fun h => h)
 replace Hb2 := Hb2.keep K2 (fun h => h)
 replace Hm2 := Hm2.keep K2 (fun h => h)
 refine Dr.strong (S' := (fun wz => Keeps none_ w1 wz)) (Keeps.refl w1) (fun wz hx => K2.trans hx (fun i _ h => h) (fun _ _ h => h)) ?_
 clear K2
 refine Dr.takes (fuel' := 7) (is' := [2, 1, 0]) [0, 1, 2] [(1, (ptr b2)), (4, (Value.bool false)), (16, (ptr b))] (by kernel_rfl) rfl (by kernel_rfl) ?_
 refine Dr.take (i := 3) (v := (Value.map (some mb))) (by kernel_rfl) (by kernel_rfl) (fun wz hS => Runs.load (t := 64) (a := ⟨b, 0, none⟩) (by kernel_rfl) ((Hb.keep hS (fun h => h)).loads (by kernel_rfl))) (d := (some 17)) (by kernel_rfl) rfl ?_
 refine Dr.takes (fuel' := 3) (is' := [6, 5, 4, 3, 2, 1, 0]) [4, 5, 6] [(4, (Value.bool false)), (17, (Value.map (some mb))), (20, (ptr b2))] (by kernel_rfl) rfl (by kernel_rfl) ?_
 refine Dr.take (i := 7) (v := (Value.map (some mb2))) (by kernel_rfl) (by kernel_rfl) (fun wz hS => Runs.load (t := 64) (a := ⟨b2, 0, none⟩) (by kernel_rfl) ((Hb2.keep hS (fun h => h)).loads (by kernel_rfl))) (d := (some 21)) (by kernel_rfl) rfl ?_
 refine Dr.call (i := 8) (by kernel_rfl) (by kernel_rfl) (d := (some 22)) (by kernel_rfl) (fun _ => Equal_calls _ mb mb2 m m2 S S2 Hm Hm2 hB hB2) ?_
 rintro _ w6 ⟨t3, rfl, ht4, K5⟩
 replace K0 := K0.t0 K5
 replace Hb := Hb.keep K5 (fun h => h)
 replace Hm := Hm.keep K5 (fun h => h)
 replace Hb2 := Hb2.keep K5 (fun h => h)
 replace Hm2 := Hm2.keep K5 (fun h => h)
 refine ⟨_, _, rfl, rfl, K5, ?_⟩
 refine Dr.strong (S' := (fun wz => Keeps none_ w6 wz)) (Keeps.refl w6) (fun wz hx => K5.trans hx (fun i _ h => h) (fun _ _ h => h)) ?_
 clear K5
 refine Dr.takes (fuel' := 0) (is' := [9, 8, 7, 6, 5, 4, 3, 2, 1, 0]) [9] [(4, (Value.bool t3))] (by kernel_rfl) rfl (by kernel_rfl) ?_
 refine Dr.done (by kernel_rfl) ?_
 refine q_ret (by kernel_rfl) ?_
 refine ⟨(Value.bool t3), retv_tmp rfl rfl, ?_⟩
 exact ⟨_, rfl, ht4, K0⟩

theorem Same_nil2 (w : World) (b mb : Nat) (m : List (List UInt8 × AccV)) (S : List AccM) (Hb : Has w b (rowL [.map (some mb)] 66)) (Hm : HasMap w mb kstr accv m) (hne : b ≠ mb) (hB : Book m S) : Calls Tryz.prog 14 ⟨[(ptr b), (Value.pointer none)]⟩ w (fun e w' => e = .returned (.bool false) ∧ Keeps none_ w w') := by
 have Hbl := Hb.lt
 have Hml := Hm.lt
 have hlen := hB.len
 have K0 : Keeps none_ w w := Keeps.refl w
 refine q_calls Tryz.func14 (by kernel_rfl) (by kernel_rfl) ?_
 refine qs ?_
 refine qg ?_
 refine og 1 [(0, (ptr b)), (1, (Value.pointer none)), (4, (Value.bool false))] 1 ?_
 refine od ?_
 refine qs ?_
 refine qs ?_
 refine qg ?_
 refine og 6 [(0, (ptr b)), (1, (Value.pointer none)), (4, (Value.bool false)), (10, (Value.bool true))] 6 ?_
 refine od ?_
 refine q_then (o := .tmp 10) (by kernel_rfl) rfl ?_
 refine qs ?_
 refine qg ?_
 refine og 4 [(0, (ptr b)), (1, (Value.pointer none)), (4, (Value.bool false))] 4 ?_
 refine od ?_
 refine q_ret (by kernel_rfl) ?_
 refine ⟨(Value.bool false), retv_tmp rfl rfl, ?_⟩
 exact ⟨rfl, K0⟩
end Go.Proofs.YtooginpgclcldaaGreatDoor
