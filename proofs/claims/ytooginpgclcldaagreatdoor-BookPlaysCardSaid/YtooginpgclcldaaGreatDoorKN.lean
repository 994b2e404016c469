/- what a map holds, one by one; how many accounts are held -/
import Derived.Test.YtooginpgclcldaaGreatDoorProg
import Derived.Test.YtooginpgclcldaaGreatDoorOH
import Derived.Test.YtooginpgclcldaaGreatDoorOI
import Derived.Test.YtooginpgclcldaaGreatDoorKE
import Derived.Test.YtooginpgclcldaaGreatDoorLX
set_option linter.unusedVariables false
namespace Go.Proofs.YtooginpgclcldaaGreatDoor
open Go.Q Go.RowKit

theorem Values_calls (w : World) (mb : Nat)  : Calls Tryz.prog 75 ⟨[(Value.map (some mb))]⟩ w (fun e w' => ∃ C : Nat, e = .returned (.func (.func 91) ⟨[]⟩ ⟨[ptr C]⟩) ∧ Keeps none_ w w' ∧ Has w' C (rowL [.map (some mb)] 64) ∧ w.heap.size ≤ C) := by
 have K0 : Keeps none_ w w := Keeps.refl w
 refine q_calls Tryz.func75 (by kernel_rfl) (by kernel_rfl) ?_
 refine qs ?_
 refine qg ?_
 refine Ops.new (o := rowL [(Value.map (some mb))] 64) (V := fun b => (ptr b)) (by kernel_rfl) (d := (some 1)) (by kernel_rfl) (fun b => rfl) (fun b1 w2 hb3 H4 K5 hs6 => ?_)
 have nb1 : w.heap.size ≤ b1 := by have := K0.size; omega
 replace K0 := K0.t0 K5
 clear K5 hs6
 refine og 1 [(1, (ptr b1)), (2, Value.nilFunc)] 2 ?_
 refine od ?_
 refine qs ?_
 refine qg ?_
 refine og 2 [(2, (Value.func (Fn.func 91) ⟨[]⟩ ⟨[(ptr b1)]⟩))] 2 ?_
 refine od ?_
 refine q_ret (by kernel_rfl) ?_
 refine ⟨(Value.func (Fn.func 91) ⟨[]⟩ ⟨[(ptr b1)]⟩), retv_tmp rfl rfl, ?_⟩
 exact ⟨_, rfl, K0, H4, nb1⟩

/-- What maps.Values makes tells what the map holds, in some order. -/
theorem Values1_tells (w0 : World) (m0 : Nat) (C mb : Nat) (m : List (List UInt8 × AccV)) (T : Nat → Prop) (hC : Has w0 C (rowL [.map (some mb)] 64)) (hTC : ¬ T C) (hM : HasMap w0 mb kstr accv m) (hTM : ¬ T mb) :
  TellsM Tryz.prog m0 91 [ptr C] (fun x : List UInt8 × AccV => [accv x.2]) T (fun all => all.Perm m) w0 := by
 intro l J W hW hJ hY h0
 obtain ⟨Y, hYd⟩ : ∃ Y, Y = Value.func (.yield l) #[] #[] := ⟨_, rfl⟩
 rw [← hYd]
 refine qr_calls (m0 + 1) Tryz.func91 (by kernel_rfl) (by kernel_rfl) ?_
 have hCW := hC.keep hW hTC
 have hMW := hM.keep hW hTM
 refine qr_seq (by kernel_rfl) ?_
 refine qr_region Open.wide (by kernel_rfl) (by kernel_rfl) ?_
 refine Ops.go (v := .map (some mb)) (by kernel_rfl) (Runs.load (t := 64) (a := ⟨C, 0, none⟩) (by kernel_rfl) (hCW.loads (by kernel_rfl))) (d := some 5) (by kernel_rfl) rfl ?_
 obtain ⟨r, w1, hrun, k1, hr, hI⟩ := HasMap.range (P := Tryz.prog) (t := 64) Tryz.underlying64 hMW
 refine Ops.go (v := ptr r) (by kernel_rfl) (Runs.of_range (by kernel_rfl) hrun) (d := some 6) (by kernel_rfl) rfl ?_
 refine Ops.keep (R := [(0, Y), (6, ptr r)]) (by kernel_rfl) ?_
 refine od ?_
 refine qr_block (id := 0) (by kernel_rfl) ?_
 refine qr_loop (fun (s : List (List UInt8 × AccV) × List (List UInt8 × AccV)) ds L wx => ds = [] ∧ L = [(0, Y), (6, ptr r)] ∧ J s.1 wx ∧ Keeps T w0 wx ∧ (s.1 ++ s.2).Perm m ∧ ∃ last, IterM wx r mb kstr accv m s.2 last) (fun s => s.2.length) ([], m) (by kernel_rfl)
  ⟨rfl, rfl, hJ _ _ _ h0 (Loose.none k1), hW.trans k1 (fun _ _ h => h) (fun _ _ h => h.elim), List.Perm.refl _, none, hI⟩ ?_
 clear hI hrun k1
 rintro ⟨came, rest⟩ _ _ wx ⟨rfl, rfl, hj, hK, hp, last, hI⟩
 simp only at hj hp hI ⊢
 refine qr_seq (by kernel_rfl) ?_
 refine qr_region Open.wide (by kernel_rfl) (by kernel_rfl) ?_
 have hrW : W.heap.size ≤ r := by omega
 have hrm : r ≠ mb := by have := hMW.lt; omega
 have hWw := hW.size
 rcases IterM.next (P := Tryz.prog) hI 0 with ⟨rfl, hrun⟩ | ⟨x, a, p1, p2, w2, rfl, hrun, k2, hI2⟩
 ·refine Ops.go (v := .tuple #[.bool false]) (by kernel_rfl) (Runs.of_next (by kernel_rfl) hrun) (d := some 7) (by kernel_rfl) rfl ?_
  refine og 1 [(8, .bool false)] 2 ?_
  refine od ?_
  refine qr_seq (by kernel_rfl) ?_
  refine qr_else (o := .tmp 8) (by kernel_rfl) rfl ?_
  refine qr_exit (id := 0) (by kernel_rfl) ?_
  rw [List.append_nil] at hp
  exact retR_norm (retv_none rfl) ⟨⟨_, rfl⟩, came, hp, hj⟩
 ·have hj2 := hJ _ _ _ hj (hI.loose hrW k2)
  have hK2 : Keeps T w0 w2 := hK.trans k2 (fun _ _ h => h) (fun i hi h => by have h : i = r := h; exfalso; omega)
  replace hI2 := hI2 hrm
  clear hI hj hK
  refine Ops.go (v := .tuple #[.bool true, kstr x, accv a]) (by kernel_rfl) (Runs.of_next (by kernel_rfl) hrun) (d := some 7) (by kernel_rfl) rfl ?_
  refine og 1 [(0, Y), (6, ptr r), (8, .bool true)] 2 ?_
  refine od ?_
  refine qr_seq (by kernel_rfl) ?_
  refine qr_then (o := .tmp 8) (by kernel_rfl) rfl ?_
  refine qr_skip (by kernel_rfl) ?_
  refine qr_block (id := 1) (by kernel_rfl) ?_
  refine qr_seq (by kernel_rfl) ?_
  refine qr_region Open.wide (by kernel_rfl) (by kernel_rfl) ?_
  refine Ops.go (v := .tuple #[kstr x, accv a]) (by kernel_rfl) (Runs.of_entry (by kernel_rfl) hI2.entry) (d := some 9) (by kernel_rfl) rfl ?_
  refine og 1 [(0, Y), (6, ptr r), (10, accv a)] 2 ?_
  refine Ops.new (o := rowL [i64 0, .string ByteArray.empty] 70) (V := fun b => ptr b) (by kernel_rfl) (d := some 4) (by kernel_rfl) (fun b => rfl) (fun b w3 hb H3 k3 hs3 => ?_)
  refine Ops.put (t := 70) (b := b) (off := 0) (v := agg [i64 a.1, .string (str a.2)]) (ys := [i64 a.1, .string (str a.2)]) (by kernel_rfl) (by kernel_rfl) H3 (by kernel_rfl) (d := none) (by kernel_rfl) rfl (fun w4 H4 k4 => ?_)
  refine Ops.keep (R := [(0, Y), (4, ptr b), (6, ptr r)]) (by kernel_rfl) ?_
  refine od ?_
  have k24 : Keeps none_ w2 w4 := k3.trans k4 (fun _ _ h => h) (fun i hi h => by have h : i = b := h; omega)
  have hI4 := hI2.keep k24 (fun h => h) (fun h => h)
  have hj4 := hJ _ _ _ hj2 (Loose.none k24)
  have hK4 : Keeps T w0 w4 := hK2.trans k24 (fun _ _ h => h) (fun _ _ h => h.elim)
  clear hI2 hj2 hK2
  refine qr_seq (by kernel_rfl) ?_
  refine qr_opsR (by kernel_rfl) ?_
  refine OpsR.regs Open.wide (by kernel_rfl) 1 [(0, Y), (4, ptr b), (6, ptr r), (11, Y)] (j := 1) (by kernel_rfl) (by kernel_rfl) ?_
  refine OpsR.go Open.wide (by kernel_rfl) (v := accv a) (by kernel_rfl) (Runs.load (t := 70) (a := ⟨b, 0, none⟩) (by kernel_rfl) (H4.loads (by kernel_rfl))) (d := some 12) (by kernel_rfl) rfl ?_
  subst hYd
  refine OpsR.yield Open.wide (by kernel_rfl) (l := l) (args := ⟨[accv a]⟩) (at?_opn (by kernel_rfl)) ?_ (hY came (x, a) w4 hj4 ⟨p1 ++ p2, came_next hp⟩) ?_
  ·kernel_rfl
  rintro _ w5 ⟨rfl, hj5, k5, kF5⟩
  refine ⟨_, _, rfl, rfl, ?_⟩
  refine OpsR.regs Open.wide (by kernel_rfl) 1 [(0, .func (.yield l) #[] #[]), (6, ptr r), (14, .bool false)] (j := 4) (by kernel_rfl) (by kernel_rfl) ?_
  refine OpsR.done (by kernel_rfl) ?_
  refine qr_else (o := .tmp 14) (by kernel_rfl) rfl ?_
  refine qr_keep (R := [(0, .func (.yield l) #[] #[]), (6, ptr r)]) (by kernel_rfl) ?_
  refine qr_skip (by kernel_rfl) ?_
  exact ⟨(came ++ [(x, a)], p1 ++ p2), ⟨rfl, rfl, hj5, hK4.trans k5 (fun _ _ h => h) (fun _ _ h => h), came_perm hp, _, hI4.keepF k5 kF5 hrW hTM⟩, by simp⟩

theorem Held_body (w : World) (ln : Nat) (b3 b4 n : Nat) (A : Int) (O : List UInt8) (H3 : Has w b3 (rowL [(i64 ((n : Nat) : Int))] 3)) (H4 : Has w b4 (rowL [i64 A, .string (str O)] 70)) (hb : b3 ≠ b4) (hn : n ≤ 1000) : wpR (Fence.wide.inRound ln) Tryz.prog 9 Tryz.f40.ntmps (cd Tryz.f40 [1, 0, 1, 0, 1, 0, 1, 1]) (fun _ e _ w' => e = .normal ∧ Keeps (fun q => q = b3) w w' ∧ Has w' b3 (rowL [(i64 ((n + heldB O : Nat) : Int))] 3)) [] [(3, (ptr b3)), (4, (ptr b4))] w := by
 have K0 : Keeps (fun q => q = b3) w w := (Keeps.refl w).mono (fun _ _ h => h.elim)
 refine qr_block (id := 1) (by kernel_rfl) ?_
 refine qr_seq (by kernel_rfl) ?_
 refine qr_region (Open.round ln) (by kernel_rfl) (by kernel_rfl) ?_
 refine Ops.go (v := (agg [(i64 A), (Value.string (str O))])) (by kernel_rfl) (Runs.load (t := 70) (a := ⟨b4, 0, none⟩) (by kernel_rfl) (H4.loads (by kernel_rfl))) (d := (some 13)) (by kernel_rfl) rfl ?_
 refine og 1 [(3, (ptr b3)), (4, (ptr b4)), (13, (agg [(i64 A), (Value.string (str O))])), (14, (ptr b4))] 2 ?_
 refine Ops.go (v := (i64 A)) (by kernel_rfl) (Runs.load (t := 2) (a := ⟨b4, 0, none⟩) (by kernel_rfl) (H4.loads (by kernel_rfl))) (d := (some 15)) (by kernel_rfl) rfl ?_
 refine og 1 [(3, (ptr b3)), (4, (ptr b4)), (13, (agg [(i64 A), (Value.string (str O))])), (16, (agg [(i64 A), (Value.string ByteArray.empty)]))] 4 ?_
 refine Ops.go (v := (Value.bool (!(aggB [(i64 A), (Value.string (str O))] [(i64 A), (Value.string ByteArray.empty)])))) (by kernel_rfl) (Runs.aggne (t := 70) (by kernel_rfl) (by kernel_rfl)) (d := (some 17)) (by kernel_rfl) rfl ?_
 refine od ?_
 refine qr_cond (o := .tmp 17) (b := (!(aggB [(i64 A), (Value.string (str O))] [(i64 A), (Value.string ByteArray.empty)]))) (by kernel_rfl) rfl (fun h1 => ?_) (fun h1 => ?_)
 ·rw [h1]
  have p2 : (aggB [(i64 A), (Value.string (str O))] [(i64 A), (Value.string ByteArray.empty)]) = false := (bnot_true h1)
  refine qr_region (Open.round ln) (by kernel_rfl) (by kernel_rfl) ?_
  refine Ops.go (v := (i64 ((n : Nat) : Int))) (by kernel_rfl) (Runs.load (t := 3) (a := ⟨b3, 0, none⟩) (by kernel_rfl) (H3.loads (by kernel_rfl))) (d := (some 18)) (by kernel_rfl) rfl ?_
  refine og 1 [(3, (ptr b3)), (4, (ptr b4)), (17, (Value.bool true)), (19, (i64 (IntKind.i64.wrap (((n : Nat) : Int) + 1))))] 2 ?_
  have e3 : IntKind.i64.wrap (((n : Nat) : Int) + 1) = ((n + 1 : Nat) : Int) := by rw [wrap_i64 (by omega) (by omega)]; omega
  rw [e3]
  clear e3
  refine Ops.put (t := 3) (b := b3) (off := 0) (v := (i64 ((n + 1 : Nat) : Int))) (ys := [(i64 ((n + 1 : Nat) : Int))]) (by kernel_rfl) (by kernel_rfl) H3 (by kernel_rfl) (d := none) (by kernel_rfl) rfl (fun w4 H5 K6 => ?_)
  clear H3
  replace K0 := K0.trans K6 (U := (fun i => i = b3)) (fun i h1 h2 => h2) (fun i h1 h2 => by have h2 : i = b3 := h2; show i = b3; omega)
  replace H4 := H4.keep K6 (by intro h; change b4 = b3 at h; omega)
  clear K6
  refine od ?_
  have hb0 : aggB [i64 A, .string (str O)] [i64 A, .string ByteArray.empty] = false := by first | exact (bnot_true h1) | (have := (bnot_true h1); simpa using this)
  have e : heldB O = 1 := held_t hb0
  exact ⟨rfl, K0, by rw [e]; exact H5⟩
 ·rw [h1]
  have p7 : (aggB [(i64 A), (Value.string (str O))] [(i64 A), (Value.string ByteArray.empty)]) = true := (bnot_false h1)
  refine qr_skip (by kernel_rfl) ?_
  have hb0 : aggB [i64 A, .string (str O)] [i64 A, .string ByteArray.empty] = true := by first | exact (bnot_false h1) | (have := (bnot_false h1); simpa using this)
  have e : heldB O = 0 := held_f hb0
  exact ⟨rfl, K0, by rw [e]; exact H3⟩

theorem Held_calls (w : World) (b mb : Nat) (m : List (List UInt8 × AccV)) (S : List AccM) (Hb : Has w b (rowL [.map (some mb)] 66)) (Hm : HasMap w mb kstr accv m) (hne : b ≠ mb) (hB : Book m S) : Calls Tryz.prog 40 ⟨[(ptr b)]⟩ w (fun e w' => e = .returned (i64 ((heldN S : Nat) : Int)) ∧ Keeps none_ w w') := by
 have Hbl := Hb.lt
 have Hml := Hm.lt
 have hlen := hB.len
 have K0 : Keeps none_ w w := Keeps.refl w
 refine qr_calls 11 Tryz.func40 (by kernel_rfl) (by kernel_rfl) ?_
 refine qr_seq (by kernel_rfl) ?_
 refine qr_region Open.wide (by kernel_rfl) (by kernel_rfl) ?_
 refine og 1 [(0, (ptr b)), (2, (i64 0))] 1 ?_
 refine od ?_
 refine qr_seq (by kernel_rfl) ?_
 refine qr_region Open.wide (by kernel_rfl) (by kernel_rfl) ?_
 refine Ops.new (o := rowL [(i64 0)] 3) (V := fun b => (ptr b)) (by kernel_rfl) (d := (some 3)) (by kernel_rfl) (fun b => rfl) (fun b1 w2 hb3 H4 K5 hs6 => ?_)
 have lb1b : b < b1 := by have := Hb.lt; omega
 have lb1mb : mb < b1 := by have := Hm.lt; omega
 have nb1 : w.heap.size ≤ b1 := by have := K0.size; omega
 replace K0 := K0.t0 K5
 replace Hb := Hb.keep K5 (fun h => h)
 replace Hm := Hm.keep K5 (fun h => h)
 clear K5 hs6
 refine Ops.put (t := 3) (b := b1) (off := 0) (v := (i64 0)) (ys := [(i64 0)]) (by kernel_rfl) (by kernel_rfl) H4 (by kernel_rfl) (d := none) (by kernel_rfl) rfl (fun w7 H8 K9 => ?_)
 clear H4
 replace K0 := K0.trans K9 (U := none_) (fun i h1 h2 => h2) (fun i h1 h2 => by have h2 : i = b1 := h2; exfalso; omega)
 replace Hb := Hb.keep K9 (by intro h; change b = b1 at h; omega)
 replace Hm := Hm.keep K9 (by intro h; change mb = b1 at h; omega)
 clear K9
 refine od ?_
 refine qr_seq (by kernel_rfl) ?_
 refine qr_seq (by kernel_rfl) ?_
 refine qr_region Open.wide (by kernel_rfl) (by kernel_rfl) ?_
 refine og 2 [(0, (ptr b)), (2, (i64 0)), (3, (ptr b1)), (6, (Value.bool true))] 2 ?_
 refine od ?_
 refine qr_then (o := .tmp 6) (by kernel_rfl) rfl ?_
 refine qr_seq (by kernel_rfl) ?_
 refine qr_region Open.wide (by kernel_rfl) (by kernel_rfl) ?_
 refine og 3 [(2, (i64 0)), (3, (ptr b1)), (9, (ptr b))] 3 ?_
 refine Ops.go (v := (Value.map (some mb))) (by kernel_rfl) (Runs.load (t := 64) (a := ⟨b, 0, none⟩) (by kernel_rfl) (Hb.loads (by kernel_rfl))) (d := (some 10)) (by kernel_rfl) rfl ?_
 refine Ops.call (by kernel_rfl) (d := (some 11)) (by kernel_rfl) (Values_calls _ mb) ?_
 rintro _ w12 ⟨b10, rfl, K11, H13, nb14⟩
 have lb10b : b < b10 := by have := Hb.lt; omega
 have lb10mb : mb < b10 := by have := Hm.lt; omega
 have lb10b1 : b1 < b10 := by have := H8.lt; omega
 have nb10 : w.heap.size ≤ b10 := by have := K0.size; omega
 refine ⟨_, _, rfl, rfl, ?_⟩
 replace K0 := K0.t0 K11
 replace Hb := Hb.keep K11 (fun h => h)
 replace Hm := Hm.keep K11 (fun h => h)
 replace H8 := H8.keep K11 (fun h => h)
 clear K11
 refine od ?_
 refine qr_block (id := 0) (by kernel_rfl) ?_
 have zb := Hb.lt
 have zmb := Hm.lt
 have zb1 := H8.lt
 have zb10 := H13.lt
 refine qr_keep (R := [(2, (i64 0)), (3, (ptr b1)), (11, (Value.func (Fn.func 91) ⟨[]⟩ ⟨[(ptr b10)]⟩))]) (by kernel_rfl) ?_
 refine qr_eachM (g := .tmp 11) (ts := [12]) (m := 11) (enc := fun x : List UInt8 × AccV => [accv x.2]) (S := fun all => all.Perm m) (w0 := w12) (T := fun i => i = b1 ∨ w12.heap.size ≤ i) (by kernel_rfl) (by decide) (gf := 91) (lb := [ptr b10]) rfl (enters Tryz.func91 (by kernel_rfl) (by kernel_rfl))
  (Values1_tells w12 9 b10 mb m _ H13 (by intro h; change b10 = b1 ∨ w12.heap.size ≤ b10 at h; omega) Hm (by intro h; change mb = b1 ∨ w12.heap.size ≤ mb at h; omega))
  (fun i h => .inr h) ((Keeps.refl _).mono (fun _ _ h => h.elim)) (fun pre W => Has W b1 (rowL [(i64 ((heldL pre : Nat) : Int))] 3) ∧ Keeps (fun i => i = b1) w12 W)
  (fun k W1 W2 h lo => ⟨lo.has h.1, h.2.trans lo.keeps (fun _ _ h => h) (fun i hi h => by have h : w12.heap.size ≤ i := h; omega)⟩) ⟨H8, (Keeps.refl _).mono (fun _ _ h => h.elim)⟩
  (fun x => (12, accv x.2) :: [(2, (i64 0)), (3, (ptr b1)), (11, (Value.func (Fn.func 91) ⟨[]⟩ ⟨[(ptr b10)]⟩))]) (fun x => rfl)
  (fun x L W1 => ∃ b4, L = [(3, ptr b1), (4, ptr b4)] ∧ w12.heap.size ≤ b4 ∧ Has W1 b4 (rowL [i64 x.2.1, .string (str x.2.2)] 70)) (fun x L W1 W2 h lo => let ⟨b4, h1, h2, h3⟩ := h; ⟨b4, h1, h2, lo.has h3⟩) ?_ ?_ ?_
 ·rintro ln pre x W1 hlt ⟨h3, hk⟩ hp
  refine qr_region (Open.round ln) (by kernel_rfl) (by kernel_rfl) ?_
  refine Ops.new (o := rowL [i64 0, .string ByteArray.empty] 70) (V := fun b => ptr b) (by kernel_rfl) (d := some 4) (by kernel_rfl) (fun b => rfl) (fun b w3 hb H3 k3 hs3 => ?_)
  refine Ops.put (t := 70) (b := b) (off := 0) (v := agg [i64 x.2.1, .string (str x.2.2)]) (ys := [i64 x.2.1, .string (str x.2.2)]) (by kernel_rfl) (by kernel_rfl) H3 (by kernel_rfl) (d := none) (by kernel_rfl) rfl (fun w4 H4 k4 => ?_)
  refine Ops.keep (R := [(3, ptr b1), (4, ptr b)]) (by kernel_rfl) ?_
  refine od ?_
  exact ⟨rfl, rfl, k3.trans k4 (fun _ _ h => h) (fun i hi h => by have h : i = b := h; omega), b, rfl, by have := hk.size; omega, H4⟩
 ·rintro ln pre x _ W1 ⟨h3, hk⟩ ⟨post, hp⟩ ⟨b4, rfl, hb4, h4⟩
  have hpl := hp.length_eq
  rw [List.length_append, List.length_cons] at hpl
  have hhl := heldL_le pre
  have hml := hB.len
  have hsl := hB.accs.len
  refine qr_mono (Held_body W1 ln b1 b4 (heldL pre) x.2.1 x.2.2 h3 h4 (by omega) (by omega)) ?_
  rintro ds e L W2 ⟨rfl, k2, h2⟩
  exact ⟨rfl, keepsFrom_of k2 (fun i hi hB => by exfalso; have hi : i = b1 := hi; omega), k2.mono (fun i _ h => .inl h), by rw [heldL_next]; exact h2, hk.trans k2 (fun _ _ h => h) (fun i _ h => h)⟩
 ·rintro D all W hDw hall ⟨h3, hk⟩ hD
  rw [heldL_book hB hall] at h3
  have K15 : Keeps none_ w W := K0.trans hk (U := none_) (fun _ _ h => h) (fun i hi h => by have h : i = b1 := h; have := nb1; omega)
  have H16 := Hb.keep hk (by intro h; change b = b1 at h; omega)
  have H17 := Hm.keep hk (by intro h; change mb = b1 at h; omega)
  have H18 := H13.keep hk (by intro h; change b10 = b1 at h; omega)
  clear Hb Hm H8 H13 K0
  have hbD : b < D ∧ mb < D ∧ b1 < D ∧ b10 < D := by omega
  have hwD : w.heap.size ≤ D := by have := K15.size; omega
  have hD1 : Has W D (.deferred (some [])) := hD
  clear hD
  refine qr_seq (by kernel_rfl) ?_
  refine qr_region Open.wide (by kernel_rfl) (by kernel_rfl) ?_
  refine Ops.go (v := (i64 ((heldN S : Nat) : Int))) (by kernel_rfl) (Runs.load (t := 3) (a := ⟨b1, 0, none⟩) (by kernel_rfl) (h3.loads (by kernel_rfl))) (d := (some 20)) (by kernel_rfl) rfl ?_
  refine og 1 [(2, (i64 ((heldN S : Nat) : Int)))] 2 ?_
  refine od ?_
  refine qr_ret (by kernel_rfl) ?_
  refine retR_one (D := D) hD1 (v := (i64 ((heldN S : Nat) : Int))) (retv_tmp rfl rfl) ?_
  exact ⟨rfl, (K15.trans (Loose.put (B := D) (.deferred none) (Nat.le_refl _) hD1 rfl).keeps (fun _ _ h => h) (fun i hi h => by have h : D ≤ i := h; omega))⟩
end Go.Proofs.YtooginpgclcldaaGreatDoor
