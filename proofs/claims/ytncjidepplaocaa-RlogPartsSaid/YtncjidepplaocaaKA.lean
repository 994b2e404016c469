/- entries are copied -/
import Derived.Test.YtncjidepplaocaaProg
import Derived.Test.YtncjidepplaocaaLZ
import Derived.Test.YtncjidepplaocaaLX
set_option linter.unusedVariables false
namespace Go.Proofs.Ytncjidepplaocaa
open Go.Q Go.RowKit
theorem tyB : ElemTy Try.prog 41 5 1 1 := elemTy (by kernel_rfl)

theorem Clone_nil (w : World) (n c : Nat) (bs : List UInt8) (hv : RdB w (.slice none n c) bs) : Calls Try.prog 31 ⟨[(Value.slice none n c)]⟩ w (fun e w' => ∃ v', e = .returned v' ∧ Keeps none_ w w' ∧ OwnB w' w.heap.size 5 v' (bs)) := by
 have K0 : Keeps none_ w w := Keeps.refl w
 have hz : [] = bs := hv.none_nil.symm
 refine q_calls Try.func31 (by kernel_rfl) (by kernel_rfl) ?_
 refine qs ?_
 refine qg ?_
 refine og 1 [(0, (Value.slice none n c)), (2, (Value.slice none 0 0))] 1 ?_
 refine od ?_
 refine qs ?_
 refine qs ?_
 refine qg ?_
 refine og 2 [(0, (Value.slice none n c)), (2, (Value.slice none 0 0)), (4, (Value.bool true))] 2 ?_
 refine od ?_
 refine q_then (o := .tmp 4) (by kernel_rfl) rfl ?_
 refine qs ?_
 refine qg ?_
 refine og 1 [(0, (Value.slice none n c)), (2, (Value.slice none 0 0))] 1 ?_
 refine od ?_
 refine q_ret (by kernel_rfl) ?_
 refine ⟨(Value.slice none 0 0), retv_tmp rfl rfl, ?_⟩
 exact ⟨_, rfl, K0, hz ▸ World.ownsRow_nil _ _ _ _⟩

theorem Clone_some (w : World) (a : Addr) (c : Nat) (bs : List UInt8) (hv : RdB w (.slice (some a) bs.length c) bs) (hl : bs.length ≤ 140737488351232) : Calls Try.prog 31 ⟨[(Value.slice (some a) bs.length c)]⟩ w (fun e w' => ∃ v', e = .returned v' ∧ Keeps none_ w w' ∧ OwnB w' w.heap.size 5 v' (bs)) := by
 have K0 : Keeps none_ w w := Keeps.refl w
 refine q_calls Try.func31 (by kernel_rfl) (by kernel_rfl) ?_
 refine qs ?_
 refine qg ?_
 refine og 1 [(0, (Value.slice (some a) bs.length c)), (2, (Value.slice none 0 0))] 1 ?_
 refine od ?_
 refine qs ?_
 refine qs ?_
 refine qg ?_
 refine og 2 [(0, (Value.slice (some a) bs.length c)), (2, (Value.slice none 0 0)), (4, (Value.bool false))] 2 ?_
 refine od ?_
 refine q_else (o := .tmp 4) (by kernel_rfl) rfl ?_
 refine q_skip (by kernel_rfl) ?_
 refine qs ?_
 refine qg ?_
 refine Ops.new (o := rowL [] 5) (V := fun b => (Value.slice (some ⟨b, 0, none⟩) 0 0)) (by kernel_rfl) (d := (some 5)) (by kernel_rfl) (fun b => rfl) (fun b1 w2 hb3 H4 K5 hs6 => ?_)
 have nb1 : w.heap.size ≤ b1 := by have := K0.size; omega
 replace K0 := K0.t0 K5
 clear K5 hs6
 refine og 1 [(2, (Value.slice none 0 0)), (5, (Value.slice (some ⟨b1, 0, none⟩) 0 0)), (6, (Value.slice (some a) bs.length c))] 2 ?_
 have hE7 : OwnB w2 w.heap.size 5 (Value.slice (some ⟨b1, 0, none⟩) 0 0) [] := own_empty H4 nb1
 obtain ⟨v8, w9, hr10, hO11, K12⟩ := OwnB.app (ty := 41) tyB hE7 (hv.keep0 (by omega) K0) (by (try simp only at *); (try simp only [List.length_append] at *); (try simp only [List.length_cons] at *); (try simp only [List.length_nil] at *); omega) K0.size
 refine Ops.go (v := v8) (by kernel_rfl) (Runs.append (ts := #[41, 41]) (ty := 41) (vs := [(Value.slice (some ⟨b1, 0, none⟩) 0 0), (Value.slice (some a) bs.length c)]) (by kernel_rfl) hr10) (d := (some 7)) (by kernel_rfl) rfl ?_
 have K13 := Keeps.own2 K0 K12
 clear H4 hE7 K0 hr10 K12
 refine og 1 [(2, v8)] 4 ?_
 refine od ?_
 refine q_ret (by kernel_rfl) ?_
 refine ⟨v8, retv_tmp rfl rfl, ?_⟩
 exact ⟨_, rfl, K13, hO11⟩

theorem Clone_calls (w : World) (v : Value) (bs : List UInt8) (hv : RdB w v bs) (hl : bs.length ≤ 140737488351232) : Calls Try.prog 31 ⟨[v]⟩ w (fun e w' => ∃ v', e = .returned v' ∧ Keeps none_ w w' ∧ OwnB w' w.heap.size 5 v' (bs)) := by
 obtain ⟨A, c, rfl⟩ := hv.form
 cases A with
 | none => exact Clone_nil w _ c bs hv
 | some a => exact Clone_some w a c bs hv hl
theorem tyE : ElemTy Try.prog 22 43 2 32 := elemTy (by kernel_rfl)

theorem CloneS_calls (w : World) (v : Value) (bs : List UInt8) (hv : RdB w v bs) (hl : bs.length ≤ 140737488351232) : Calls Try.prog 31 ⟨[v]⟩ w (fun e w' => ∃ A' c', e = .returned (.slice A' bs.length c') ∧ Keeps none_ w w' ∧ OwnB w' w.heap.size 5 (.slice A' bs.length c') bs) := by
 refine (Clone_calls w v bs hv hl).mono ?_
 rintro _ w' ⟨v', rfl, hk, hO⟩
 obtain ⟨A', c', rfl⟩ := RdB.form (OwnB.rd hO)
 exact ⟨A', c', rfl, hk, hO⟩

theorem CloneE_nil (w : World) (n c : Nat)  : Calls Try.prog 28 ⟨[(Value.slice none n c)]⟩ w (fun e w' => e = .returned (.slice none 0 0) ∧ Keeps none_ w w') := by
 have K0 : Keeps none_ w w := Keeps.refl w
 refine q_calls Try.func28 (by kernel_rfl) (by kernel_rfl) ?_
 refine qs ?_
 refine qg ?_
 refine og 1 [(0, (Value.slice none n c)), (2, (Value.slice none 0 0))] 1 ?_
 refine od ?_
 refine qs ?_
 refine qs ?_
 refine qg ?_
 refine og 2 [(0, (Value.slice none n c)), (2, (Value.slice none 0 0)), (4, (Value.bool true))] 2 ?_
 refine od ?_
 refine q_then (o := .tmp 4) (by kernel_rfl) rfl ?_
 refine qs ?_
 refine qg ?_
 refine og 1 [(0, (Value.slice none n c)), (2, (Value.slice none 0 0))] 1 ?_
 refine od ?_
 refine q_ret (by kernel_rfl) ?_
 refine ⟨(Value.slice none 0 0), retv_tmp rfl rfl, ?_⟩
 exact ⟨rfl, K0⟩

theorem CloneE_some (w : World) (a : Addr) (c : Nat) (l : List EntP) (hv : RdE w (.slice (some a) l.length c) l) (hl : l.length * 32 ≤ 140737488351232) : Calls Try.prog 28 ⟨[(Value.slice (some a) l.length c)]⟩ w (fun e w' => ∃ v', e = .returned v' ∧ Keeps none_ w w' ∧ OwnE w' w.heap.size 43 v' ([] ++ l)) := by
 have K0 : Keeps none_ w w := Keeps.refl w
 refine q_calls Try.func28 (by kernel_rfl) (by kernel_rfl) ?_
 refine qs ?_
 refine qg ?_
 refine og 1 [(0, (Value.slice (some a) l.length c)), (2, (Value.slice none 0 0))] 1 ?_
 refine od ?_
 refine qs ?_
 refine qs ?_
 refine qg ?_
 refine og 2 [(0, (Value.slice (some a) l.length c)), (2, (Value.slice none 0 0)), (4, (Value.bool false))] 2 ?_
 refine od ?_
 refine q_else (o := .tmp 4) (by kernel_rfl) rfl ?_
 refine q_skip (by kernel_rfl) ?_
 refine qs ?_
 refine qg ?_
 refine Ops.new (o := rowL [] 43) (V := fun b => (Value.slice (some ⟨b, 0, none⟩) 0 0)) (by kernel_rfl) (d := (some 5)) (by kernel_rfl) (fun b => rfl) (fun b1 w2 hb3 H4 K5 hs6 => ?_)
 have nb1 : w.heap.size ≤ b1 := by have := K0.size; omega
 replace K0 := K0.t0 K5
 clear K5 hs6
 refine og 1 [(2, (Value.slice none 0 0)), (5, (Value.slice (some ⟨b1, 0, none⟩) 0 0)), (6, (Value.slice (some a) l.length c))] 2 ?_
 have hE7 : OwnT w2 w.heap.size 43 2 EntP.cells (Value.slice (some ⟨b1, 0, none⟩) 0 0) [] := own_empty2 H4 nb1
 obtain ⟨v8, w9, hr10, hO11, hK12, hg13⟩ := OwnT.app (ty := 22) EntP.two EntP.one tyE hE7 (Rd.keep0 (by omega) hv K0) (by first | omega | (simp only [List.length_nil]; omega)) (by first | omega | (simp only [List.length_nil]; omega)) K0.size
 obtain ⟨A15, c16, rfl⟩ := RdT.form EntP.two (by decide) (OwnT.rd hO11)
 have K14 := hK12
 refine Ops.go (v := (Value.slice A15 (([] ++ l).length) c16)) (by kernel_rfl) (Runs.append (ts := #[22, 22]) (ty := 22) (vs := [(Value.slice (some ⟨b1, 0, none⟩) 0 0), (Value.slice (some a) l.length c)]) (by kernel_rfl) hr10) (d := (some 7)) (by kernel_rfl) rfl ?_
 replace K0 := K0.trans K14 (U := none_) (fun i h1 h2 => h2) (fun i h1 h2 => by have h2 : ((Value.slice (some ⟨b1, 0, none⟩) 0 0)).ownBlock = some i := h2; exfalso; have := (World.ownsRow.lt hE7 i h2).1; omega)
 clear hE7
 clear K14 hr10 hK12 hg13
 refine og 1 [(2, (Value.slice A15 (([] ++ l).length) c16))] 4 ?_
 refine od ?_
 refine q_ret (by kernel_rfl) ?_
 refine ⟨(Value.slice A15 (([] ++ l).length) c16), retv_tmp rfl rfl, ?_⟩
 exact ⟨_, rfl, K0, hO11⟩

theorem CloneE_calls (w : World) (v : Value) (l : List EntP) (hv : RdE w v l) (hl : l.length * 32 ≤ 140737488351232) : Calls Try.prog 28 ⟨[v]⟩ w (fun e w' => ∃ v', e = .returned v' ∧ Keeps none_ w w' ∧ (v' = .slice none 0 0 ∧ l = [] ∨ ∃ G cap rest, v' = .slice (some ⟨G, 0, none⟩) l.length cap ∧ w.heap.size ≤ G ∧ Has w' G (rowL (l.flatMap EntP.cells ++ rest) 43) ∧ l.length ≤ cap ∧ cap ≤ maxLen ∧ (l.flatMap EntP.cells ++ rest).length = cap * 2)) := by
 obtain ⟨A, c, rfl⟩ := RdT.form EntP.two (by decide) hv
 cases A with
 | none => exact (CloneE_nil w l.length c).mono fun e w' ⟨he, hk⟩ => ⟨_, he, hk, .inl ⟨rfl, by
   have := Rd.none_nil2 hv
   cases l with
   | nil => rfl
   | cons x l => simp [EntP.cells] at this⟩⟩
 | some a => exact (CloneE_some w a c l hv hl).mono fun e w' ⟨v', he, hk, hO⟩ => ⟨v', he, hk, own_casesE (by rw [List.nil_append] at hO; exact hO)⟩

theorem own_calls (w : World) (T : Nat → Prop) (A : Option Addr) (c : Nat) (l0 : List EntP) (hE : Ents w T (.slice A l0.length c) l0) (hBig : ∀ x ∈ l0, x.cmd.length ≤ 140737488351232) (hl : l0.length * 32 ≤ 140737488351232) : Calls Try.prog 25 ⟨[(Value.slice A l0.length c)]⟩ w (fun e w' => ∃ l' A' c', e = .returned (.slice A' l'.length c') ∧ Keeps none_ w w' ∧ Ents w' (fun i => w.heap.size ≤ i ∧ i < w'.heap.size) (.slice A' l'.length c') l' ∧ l'.map EntP.key = l0.map EntP.key) := by
 have hE0 := hE
 have K0 : Keeps none_ w w := Keeps.refl w
 refine q_calls Try.func25 (by kernel_rfl) (by kernel_rfl) ?_
 refine qs ?_
 refine qg ?_
 refine og 1 [(0, (Value.slice A l0.length c)), (2, (Value.slice none 0 0))] 1 ?_
 refine od ?_
 refine qs ?_
 refine qg ?_
 refine og 1 [(0, (Value.slice A l0.length c)), (2, (Value.slice none 0 0)), (4, (Value.slice A l0.length c))] 1 ?_
 refine Ops.call (by kernel_rfl) (d := (some 5)) (by kernel_rfl) (CloneE_calls _ (Value.slice A l0.length c) l0 (Ents.rd hE) (by omega)) ?_
 rintro _ w2 ⟨v1, rfl, K3, (⟨rfl, hl12⟩ | ⟨G4, cap5, rest6, rfl, hG7, H8, hc9, hc10, hc11⟩)⟩
 ·refine ⟨_, _, rfl, rfl, ?_⟩
  replace K0 := K0.t0 K3
  replace hE := Ents.keep0 hE K3
  clear K3
  refine og 1 [(0, (Value.slice none 0 0)), (2, (Value.slice none 0 0))] 3 ?_
  refine od ?_
  refine qs ?_
  refine qs ?_
  refine qg ?_
  refine og 3 [(0, (Value.slice none 0 0)), (2, (Value.slice none 0 0)), (7, (i64 0)), (8, (i64 0))] 3 ?_
  refine od ?_
  refine q_block (id := 0) (by kernel_rfl) ?_
  refine q_keep (R := [(0, (Value.slice none 0 0)), (2, (Value.slice none 0 0)), (7, (i64 0)), (8, (i64 0))]) (by kernel_rfl) ?_
  refine q_loop (fun (i : Nat) L (wx : World) => L = [(0, (Value.slice none 0 0)), (2, (Value.slice none 0 0)), (7, (i64 ((0 : Nat) : Int))), (8, (i64 ((i : Nat) : Int)))] ∧ i = 0 ∧ Keeps none_ w wx) (fun (i : Nat) => 0 - i) 0 (by kernel_rfl) ⟨rfl, rfl, K0⟩ ?_
  clear hE K0
  rintro i _ w13 ⟨rfl, hi, K14⟩
  refine qs ?_
  refine qg ?_
  refine og 1 [(0, (Value.slice none 0 0)), (2, (Value.slice none 0 0)), (7, (i64 ((0 : Nat) : Int))), (8, (i64 ((i : Nat) : Int))), (9, (Value.bool (decide (((i : Nat) : Int) < ((0 : Nat) : Int)))))] 1 ?_
  refine od ?_
  refine qs ?_
  have h15 : (decide (((i : Nat) : Int) < ((0 : Nat) : Int))) = false := decide_eq_false (by omega)
  rw [h15]
  refine q_else (o := .tmp 9) (by kernel_rfl) rfl ?_
  refine q_exit (id := 0) (by kernel_rfl) ?_
  refine qs ?_
  refine qg ?_
  refine og 2 [(2, (Value.slice none 0 0))] 2 ?_
  refine od ?_
  refine q_ret (by kernel_rfl) ?_
  refine ⟨(Value.slice none 0 0), retv_tmp rfl rfl, ?_⟩
  exact ⟨[], none, 0, rfl, K14, (Ents.nil _).mono (fun _ h => h.elim) (fun _ h => h.2), by rw [hl12]⟩
 ·refine ⟨_, _, rfl, rfl, ?_⟩
  have nG4 : w.heap.size ≤ G4 := by have := K0.size; omega
  replace K0 := K0.t0 K3
  replace hE := Ents.keep0 hE K3
  clear K3
  refine og 1 [(0, (Value.slice (some ⟨G4, 0, none⟩) l0.length cap5)), (2, (Value.slice none 0 0))] 3 ?_
  refine od ?_
  refine qs ?_
  refine qs ?_
  refine qg ?_
  refine og 3 [(0, (Value.slice (some ⟨G4, 0, none⟩) l0.length cap5)), (2, (Value.slice none 0 0)), (7, (i64 ((l0.length : Nat) : Int))), (8, (i64 0))] 3 ?_
  refine od ?_
  refine q_block (id := 0) (by kernel_rfl) ?_
  refine q_keep (R := [(0, (Value.slice (some ⟨G4, 0, none⟩) l0.length cap5)), (2, (Value.slice none 0 0)), (7, (i64 ((l0.length : Nat) : Int))), (8, (i64 0))]) (by kernel_rfl) ?_
  refine q_loop (fun (gs : Nat × (List EntP)) L (wx : World) => match gs with | (i, l) => L = [(0, (Value.slice (some ⟨G4, 0, none⟩) l0.length cap5)), (2, (Value.slice none 0 0)), (7, (i64 ((l0.length : Nat) : Int))), (8, (i64 ((i : Nat) : Int)))] ∧ l.length = l0.length ∧ l.map EntP.key = l0.map EntP.key ∧ (l.flatMap EntP.cells ++ rest6).length = cap5 * 2 ∧ EntsMine 5 wx w.heap.size (.slice (some ⟨G4, 0, none⟩) l0.length cap5) (l.take i) ∧ l.drop i = l0.drop i ∧ i ≤ l0.length ∧ Keeps none_ w wx ∧ Has wx G4 (rowL (l.flatMap EntP.cells ++ rest6) 43)) (fun (gs : Nat × (List EntP)) => match gs with | (i, l) => l0.length - i) (0, l0) (by kernel_rfl) ⟨rfl, rfl, rfl, hc11, (EntsMine.nil _ _ _), rfl, Nat.zero_le _, K0, H8⟩ ?_
  clear H8 hE K0
  rintro ⟨i, l⟩ _ w16 ⟨rfl, hln, hK, hR, hM, hD, hi, K17, H18⟩
  refine qs ?_
  refine qg ?_
  refine og 1 [(0, (Value.slice (some ⟨G4, 0, none⟩) l0.length cap5)), (2, (Value.slice none 0 0)), (7, (i64 ((l0.length : Nat) : Int))), (8, (i64 ((i : Nat) : Int))), (9, (Value.bool (decide (((i : Nat) : Int) < ((l0.length : Nat) : Int)))))] 1 ?_
  refine od ?_
  refine qs ?_
  refine q_cond (o := .tmp 9) (b := (decide (((i : Nat) : Int) < ((l0.length : Nat) : Int)))) (by kernel_rfl) rfl (fun h19 => ?_) (fun h19 => ?_)
  ·rw [h19]
   have p20 : ((i : Nat) : Int) < ((l0.length : Nat) : Int) := of_decide_eq_true h19
   refine q_skip (by kernel_rfl) ?_
   refine qs ?_
   refine q_block (id := 1) (by kernel_rfl) ?_
   refine qs ?_
   refine qg ?_
   refine og 2 [(0, (Value.slice (some ⟨G4, 0, none⟩) l0.length cap5)), (2, (Value.slice none 0 0)), (3, (i64 ((i : Nat) : Int))), (7, (i64 ((l0.length : Nat) : Int))), (8, (i64 ((i : Nat) : Int))), (9, (Value.bool true))] 2 ?_
   refine od ?_
   refine qg ?_
   refine og 4 [(0, (Value.slice (some ⟨G4, 0, none⟩) l0.length cap5)), (2, (Value.slice none 0 0)), (3, (i64 ((i : Nat) : Int))), (7, (i64 ((l0.length : Nat) : Int))), (8, (i64 ((i : Nat) : Int))), (9, (Value.bool true)), (11, (Value.slice (some ⟨G4, 0, none⟩) l0.length cap5)), (12, (i64 ((i : Nat) : Int))), (13, (Value.slice (some ⟨G4, 0, none⟩) l0.length cap5)), (14, (i64 ((i : Nat) : Int)))] 4 ?_
   obtain ⟨x, hx⟩ : ∃ y, l[i]? = some y := ⟨_, List.getElem?_eq_getElem (by omega)⟩
   have hx0 : l0[i]? = some x := by have q := congrArg (fun z => z[0]?) hD; simp only [List.getElem?_drop, Nat.add_zero] at q; rw [← q]; exact hx
   have hxB := Ents.ins hE0 x (List.mem_of_getElem? hx0)
   have hxl := hxB.slice
   unfold maxLen at hxl
   have hxb := hBig x (List.mem_of_getElem? hx0)
   refine Ops.go (by kernel_rfl) (Runs.ixSlice (k := IntKind.i64) (t := 22) (b := G4) (off := 0) (len := l0.length) (cap := cap5) (s := 2) (off' := i * 2) (i := ((i : Nat) : Int)) (by kernel_rfl) (by kernel_rfl) (by omega) (by omega) (by omega)) (d := (some 15)) (by kernel_rfl) rfl ?_
   refine og 1 [(0, (Value.slice (some ⟨G4, 0, none⟩) l0.length cap5)), (2, (Value.slice none 0 0)), (3, (i64 ((i : Nat) : Int))), (7, (i64 ((l0.length : Nat) : Int))), (8, (i64 ((i : Nat) : Int))), (9, (Value.bool true)), (11, (Value.slice (some ⟨G4, 0, none⟩) l0.length cap5)), (12, (i64 ((i : Nat) : Int))), (16, (Value.pointer (some ⟨G4, i * 2 + 1, none⟩)))] 6 ?_
   refine Ops.go (v := (Value.slice x.A x.cmd.length x.c)) (by kernel_rfl) (Runs.load (t := 41) (a := ⟨G4, i * 2 + 1, none⟩) (by kernel_rfl) (H18.loads (loadC1 (by kernel_rfl) (flat_at2 hx).2))) (d := (some 17)) (by kernel_rfl) rfl ?_
   refine Ops.call (by kernel_rfl) (d := (some 18)) (by kernel_rfl) (CloneS_calls _ (Value.slice x.A x.cmd.length x.c) x.cmd (hxB.keep0 (by omega) K17) (by omega)) ?_
   rintro _ w23 ⟨A21, c22, rfl, K24, hO25⟩
   have ob27 : ∀ i, ((Value.slice A21 x.cmd.length c22)).ownBlock = some i → i ≠ G4 := fun i hi => by have := (World.ownsRow.lt hO25 i hi).1; have := H18.lt; omega
   have O26 := own_base hO25 K17.size
   refine ⟨_, _, rfl, rfl, ?_⟩
   replace K17 := K17.trans K24 (U := none_) (fun i h1 h2 => h2) (fun i h1 h2 => by exact h2)
   replace H18 := H18.keep K24 (fun h => h)
   replace hM := EntsMine.keep hM K24 (fun _ _ _ h => h)
   clear K24
   refine Ops.go (by kernel_rfl) (Runs.ixSlice (k := IntKind.i64) (t := 22) (b := G4) (off := 0) (len := l0.length) (cap := cap5) (s := 2) (off' := i * 2) (i := ((i : Nat) : Int)) (by kernel_rfl) (by kernel_rfl) (by omega) (by omega) (by omega)) (d := (some 19)) (by kernel_rfl) rfl ?_
   refine og 1 [(0, (Value.slice (some ⟨G4, 0, none⟩) l0.length cap5)), (2, (Value.slice none 0 0)), (3, (i64 ((i : Nat) : Int))), (7, (i64 ((l0.length : Nat) : Int))), (8, (i64 ((i : Nat) : Int))), (9, (Value.bool true)), (18, (Value.slice A21 x.cmd.length c22)), (20, (Value.pointer (some ⟨G4, i * 2 + 1, none⟩)))] 10 ?_
   refine Ops.put (t := 41) (b := G4) (off := i * 2 + 1) (v := (Value.slice A21 x.cmd.length c22)) (ys := ((l.set i ⟨x.term, A21, c22, x.cmd⟩).flatMap EntP.cells ++ rest6)) (by kernel_rfl) (by kernel_rfl) H18 (storeC1 (by kernel_rfl) rfl (by have := (List.getElem?_eq_some_iff.1 (flat_at2 (rest := rest6) hx).2).1; exact this) (flat_set2 A21 c22 hx)) (d := none) (by kernel_rfl) rfl (fun w28 H29 K30 => ?_)
   clear H18
   replace K17 := K17.trans K30 (U := none_) (fun i h1 h2 => h2) (fun i h1 h2 => by have h2 : i = G4 := h2; exfalso; omega)
   replace hM := EntsMine.keep hM K30 (fun i h1 h2 hs => h2 (by have hs : i = G4 := hs; subst hs; rfl))
   replace O26 := own_keep O26 K30 (fun i hi hs => by have hs : i = G4 := hs; have := ob27 i hi; omega)
   clear K30
   refine od ?_
   refine qg ?_
   refine og 1 [(0, (Value.slice (some ⟨G4, 0, none⟩) l0.length cap5)), (2, (Value.slice none 0 0)), (3, (i64 ((i : Nat) : Int))), (7, (i64 ((l0.length : Nat) : Int))), (8, (i64 ((i : Nat) : Int))), (9, (Value.bool true)), (21, (i64 (IntKind.i64.wrap (((i : Nat) : Int) + 1))))] 1 ?_
   have e31 : IntKind.i64.wrap (((i : Nat) : Int) + 1) = ((i + 1 : Nat) : Int) := by rw [wrap_i64 (by omega) (by omega)]; omega
   rw [e31]
   clear e31
   refine og 1 [(0, (Value.slice (some ⟨G4, 0, none⟩) l0.length cap5)), (2, (Value.slice none 0 0)), (3, (i64 ((i : Nat) : Int))), (7, (i64 ((l0.length : Nat) : Int))), (8, (i64 ((i + 1 : Nat) : Int))), (9, (Value.bool true))] 2 ?_
   refine Ops.keep (R := [(0, (Value.slice (some ⟨G4, 0, none⟩) l0.length cap5)), (2, (Value.slice none 0 0)), (7, (i64 ((l0.length : Nat) : Int))), (8, (i64 ((i + 1 : Nat) : Int)))]) (by kernel_rfl) ?_
   refine od ?_
   exact ⟨(i + 1, (l.set i ⟨x.term, A21, c22, x.cmd⟩)), ⟨rfl, (by rw [List.length_set]; exact hln), (by rw [key_set A21 c22 hx]; exact hK), (by rw [List.length_append, flat_len EntP.two, List.length_set, hln]; rw [List.length_append, flat_len EntP.two] at hc11; exact hc11), (by rw [take_set_succ hx]; exact EntsMine.snoc hM O26 fun gg o s hA => by have hA : A21 = some ⟨gg, o, s⟩ := hA; have := World.ownsRow.lt O26 gg (by rw [hA]; rfl); exact ⟨this.1, this.2, fun q => by have := ob27 gg (by rw [hA]; rfl); simp [Value.ownBlock] at q; omega⟩), (by rw [drop_set_succ]; have q := congrArg (List.drop 1) hD; simpa [List.drop_drop] using q), (by omega), K17, H29⟩, (show l0.length - (i + 1) < l0.length - i from by omega)⟩
  ·rw [h19]
   have p32 : ¬ (((i : Nat) : Int) < ((l0.length : Nat) : Int)) := of_decide_eq_false h19
   refine q_exit (id := 0) (by kernel_rfl) ?_
   refine qs ?_
   refine qg ?_
   refine og 2 [(2, (Value.slice (some ⟨G4, 0, none⟩) l0.length cap5))] 2 ?_
   refine od ?_
   refine q_ret (by kernel_rfl) ?_
   refine ⟨(Value.slice (some ⟨G4, 0, none⟩) l0.length cap5), retv_tmp rfl rfl, ?_⟩
   have hMl : EntsMine 5 w16 w.heap.size (.slice (some ⟨G4, 0, none⟩) l.length cap5) l := by rw [List.take_of_length_le (by omega)] at hM; rw [hln]; exact hM
   exact ⟨l, some ⟨G4, 0, none⟩, cap5, by rw [hln], K17, Ents.mine nG4 H18 (by omega) hc10 hR hMl, hK⟩
end Go.Proofs.Ytncjidepplaocaa
