/- What the claim stands on, part 11: rules of the walk, contracts of the functions, plain laws. -/
import Derived.Test.YtlnidnadpdpciaaProg
import Derived.Test.YtlnidnadpdpciaaKDDesk10
import Derived.Test.YtlnidnadpdpciaaKDDesk5
set_option linter.unusedVariables false
namespace Go.Proofs.Ytlnidnadpdpciaa
open Go.Q Go.RowKit

theorem New_calls (w : World)   : Calls Try.prog 19 ⟨[]⟩ w (fun e w' => ∃ d, e = .returned (ptr d) ∧ Keeps none_ w w' ∧ Has w' d (rowL [.slice none 0 0] 84) ∧ w.heap.size ≤ d) := by
 have K0 : Keeps none_ w w := Keeps.refl w
 refine q_calls Try.func19 (by kernel_rfl) (by kernel_rfl) ?_
 refine qs ?_
 refine qg ?_
 refine og 1 [(0, (Value.pointer none))] 1 ?_
 refine od ?_
 refine qs ?_
 refine qg ?_
 refine og 1 [(0, (Value.pointer none)), (1, (agg [(Value.slice none 0 0)]))] 1 ?_
 refine Ops.new (o := rowL [(Value.slice none 0 0)] 84) (V := fun b => (ptr b)) (by kernel_rfl) (d := (some 2)) (by kernel_rfl) (fun b => rfl) (fun b1 w2 hb3 H4 K5 hs6 => ?_)
 have nb1 : w.heap.size ≤ b1 := by have := K0.size; omega
 replace K0 := K0.t0 K5
 clear K5 hs6
 refine og 1 [(0, (ptr b1))] 3 ?_
 refine od ?_
 refine q_ret (by kernel_rfl) ?_
 refine ⟨(ptr b1), retv_tmp rfl rfl, ?_⟩
 exact ⟨_, rfl, K0, H4, nb1⟩

set_option maxHeartbeats 4000000 in
theorem Desk_calls (w : World) (A : Option Addr) (c : Nat) (l : List ActM) (hL : RdT w 12 ActM.cells (.slice A l.length c) l) (hLi : ∀ x ∈ l, x.In w) : Calls Try.prog 5 ⟨[(Value.slice A l.length c)]⟩ w (fun e w' => e = .returned (.bool true) ∧ Keeps none_ w w') := by
 have hcap := (RdT.len ActM.two (by decide) hL).2
 unfold maxLen at hcap
 have K0 : Keeps none_ w w := Keeps.refl w
 refine q_calls Try.func5 (by kernel_rfl) (by kernel_rfl) ?_
 refine qs ?_
 refine qg ?_
 refine og 1 [(0, (Value.slice A l.length c)), (2, (Value.bool false))] 1 ?_
 refine od ?_
 refine qs ?_
 refine qg ?_
 refine Ops.call (by kernel_rfl) (d := (some 10)) (by kernel_rfl) (New_calls _) ?_
 rintro _ w3 ⟨b1, rfl, K2, H4, nb5⟩
 have nb1 : w.heap.size ≤ b1 := by have := K0.size; omega
 refine ⟨_, _, rfl, rfl, ?_⟩
 replace K0 := K0.t0 K2
 clear K2
 refine og 1 [(0, (Value.slice A l.length c)), (2, (Value.bool false)), (3, (ptr b1))] 2 ?_
 refine od ?_
 refine qs ?_
 refine qs ?_
 refine qg ?_
 refine og 2 [(0, (Value.slice A l.length c)), (2, (Value.bool false)), (3, (ptr b1)), (12, (Value.bool false))] 2 ?_
 refine od ?_
 refine q_else (o := .tmp 12) (by kernel_rfl) rfl ?_
 refine q_skip (by kernel_rfl) ?_
 refine qs ?_
 refine qg ?_
 refine og 1 [(0, (Value.slice A l.length c)), (2, (Value.bool false)), (3, (ptr b1)), (13, (agg [(Value.slice none 0 0)]))] 1 ?_
 refine Ops.new (o := rowL [(Value.slice none 0 0)] 55) (V := fun b => (ptr b)) (by kernel_rfl) (d := (some 14)) (by kernel_rfl) (fun b => rfl) (fun b6 w7 hb8 H9 K10 hs11 => ?_)
 have lb6b1 : b1 < b6 := by have := H4.lt; omega
 have nb6 : w.heap.size ≤ b6 := by have := K0.size; omega
 replace K0 := K0.t0 K10
 replace H4 := H4.keep K10 (fun h => h)
 clear K10 hs11
 refine og 1 [(0, (Value.slice A l.length c)), (2, (Value.bool false)), (3, (ptr b1)), (4, (ptr b6))] 3 ?_
 refine od ?_
 refine qs ?_
 refine qs ?_
 refine qg ?_
 refine og 1 [(0, (Value.slice A l.length c)), (2, (Value.bool false)), (3, (ptr b1)), (4, (ptr b6)), (5, (i64 0))] 1 ?_
 refine od ?_
 refine q_block (id := 0) (by kernel_rfl) ?_
 refine q_keep (R := [(0, (Value.slice A l.length c)), (3, (ptr b1)), (4, (ptr b6)), (5, (i64 0))]) (by kernel_rfl) ?_
 refine q_loop (fun (gs : Nat × (Nat → Prop) × (List DM)) L (wx : World) => match gs with | (q1, F, ms) => L = [(0, (Value.slice A l.length c)), (3, (ptr b1)), (4, (ptr b6)), (5, (i64 ((q1 : Nat) : Int)))] ∧ TwoP wx F b1 84 79 b6 55 87 ms ms ∧ (∀ i, F i → w.heap.size ≤ i) ∧ MsOk ms ∧ q1 ≤ l.length ∧ Keeps none_ w wx) (fun (gs : Nat × (Nat → Prop) × (List DM)) => match gs with | (q1, F, ms) => l.length - q1) (0, (fun i => i = b1 ∨ i = b6), []) (by kernel_rfl) ⟨rfl, (TwoP.new H4 H9 (by omega)), (fun i h => by have h : i = b1 ∨ i = b6 := h; omega), (fun m hm => by cases hm), Nat.zero_le _, K0⟩ ?_
 clear K0
 rintro ⟨q1, F, ms⟩ _ w12 ⟨rfl, hT, hlow, hms, hq, K13⟩
 refine qs ?_
 refine qs ?_
 refine qg ?_
 refine og 5 [(0, (Value.slice A l.length c)), (3, (ptr b1)), (4, (ptr b6)), (5, (i64 ((q1 : Nat) : Int))), (19, (Value.bool (decide (((q1 : Nat) : Int) < ((l.length : Nat) : Int)))))] 5 ?_
 refine Ops.split (decide (((q1 : Nat) : Int) < ((l.length : Nat) : Int))) (fun h14 => ?_) (fun h14 => ?_)
 ·rw [h14]
  have p15 : ((q1 : Nat) : Int) < ((l.length : Nat) : Int) := of_decide_eq_true h14
  refine og 3 [(0, (Value.slice A l.length c)), (3, (ptr b1)), (4, (ptr b6)), (5, (i64 ((q1 : Nat) : Int))), (22, (Value.bool (decide (((q1 : Nat) : Int) < 100))))] 8 ?_
  refine od ?_
  refine q_cond (o := .tmp 22) (b := (decide (((q1 : Nat) : Int) < 100))) (by kernel_rfl) rfl (fun h16 => ?_) (fun h16 => ?_)
  ·rw [h16]
   have p17 : ((q1 : Nat) : Int) < 100 := of_decide_eq_true h16
   refine q_skip (by kernel_rfl) ?_
   refine qs ?_
   refine q_block (id := 1) (by kernel_rfl) ?_
   refine qs ?_
   refine qg ?_
   refine og 2 [(0, (Value.slice A l.length c)), (3, (ptr b1)), (4, (ptr b6)), (5, (i64 ((q1 : Nat) : Int))), (25, (Value.slice A l.length c)), (26, (i64 ((q1 : Nat) : Int)))] 2 ?_
   obtain ⟨rb18, ro19, x, hA20, hx21⟩ := RdT.open (Rd.keep0 (by omega) hL K13) rfl (k := q1) (by omega)
   have hx := hLi x (List.mem_of_getElem? hx21)
   have hxr := hx.rlen
   refine Ops.go (by kernel_rfl) (Runs.ixSliceE (k := IntKind.i64) (t := 50) (len := l.length) (cap := c) (s := 12) (off' := ro19 + q1 * 12) (i := ((q1 : Nat) : Int)) hA20 (by kernel_rfl) (by kernel_rfl) (by omega) (by omega) (by omega)) (d := (some 27)) (by kernel_rfl) rfl ?_
   refine Ops.go (v := (agg [(i64 x.kind), (i64 x.n), (i64 x.op.kind), (Value.string (str x.op.frm)), (Value.string (str x.op.to)), (i64 x.op.amount), (Value.string (str x.op.key)), (i64 x.op.slot), (i64 x.op.shard), (i64 x.rep.why), (i64 x.rep.amount), (Value.slice x.V x.rep.rows.length x.c)])) (by kernel_rfl) (Runs.load (t := 57) (a := ⟨rb18, ro19 + q1 * 12, none⟩) (by kernel_rfl) (RdT.ld (f := ActM.cells) (x := x) ActM.two (Rd.keep0 (by omega) hL K13) (by kernel_rfl) (by kernel_rfl) hA20 hx21)) (d := (some 28)) (by kernel_rfl) rfl ?_
   refine Ops.new (o := rowL [(i64 0), (i64 0), (i64 0), (Value.string ByteArray.empty), (Value.string ByteArray.empty), (i64 0), (Value.string ByteArray.empty), (i64 0), (i64 0), (i64 0), (i64 0), (Value.slice none 0 0)] 57) (V := fun b => (ptr b)) (by kernel_rfl) (d := (some 6)) (by kernel_rfl) (fun b => rfl) (fun b22 w23 hb24 H25 K26 hs27 => ?_)
   have nb22 : w.heap.size ≤ b22 := by have := K13.size; omega
   have of28 : ∀ i, F i → i ≠ b22 := fun i hi => by have := TwoP.lt hT i hi; omega
   replace K13 := K13.trans K26 (U := none_) (fun i h1 h2 => h2) (fun i h1 h2 => by exact h2)
   replace hT := TwoP.keep hT K26 (fun _ _ h => h)
   clear K26 hs27
   refine Ops.put (t := 57) (b := b22) (off := 0) (v := (agg [(i64 x.kind), (i64 x.n), (i64 x.op.kind), (Value.string (str x.op.frm)), (Value.string (str x.op.to)), (i64 x.op.amount), (Value.string (str x.op.key)), (i64 x.op.slot), (i64 x.op.shard), (i64 x.rep.why), (i64 x.rep.amount), (Value.slice x.V x.rep.rows.length x.c)])) (ys := [(i64 x.kind), (i64 x.n), (i64 x.op.kind), (Value.string (str x.op.frm)), (Value.string (str x.op.to)), (i64 x.op.amount), (Value.string (str x.op.key)), (i64 x.op.slot), (i64 x.op.shard), (i64 x.rep.why), (i64 x.rep.amount), (Value.slice x.V x.rep.rows.length x.c)]) (by kernel_rfl) (by kernel_rfl) H25 (by kernel_rfl) (d := none) (by kernel_rfl) rfl (fun w29 H30 K31 => ?_)
   clear H25
   replace K13 := K13.trans K31 (U := none_) (fun i h1 h2 => h2) (fun i h1 h2 => by have h2 : i = b22 := h2; exfalso; omega)
   replace hT := TwoP.keep hT K31 (fun i hi hs => by have hs : i = b22 := hs; have := of28 i hi; omega)
   clear K31
   refine od ?_
   refine qs ?_
   refine qs ?_
   refine qg ?_
   refine og 1 [(0, (Value.slice A l.length c)), (3, (ptr b1)), (4, (ptr b6)), (5, (i64 ((q1 : Nat) : Int))), (6, (ptr b22)), (29, (ptr b22))] 1 ?_
   refine Ops.go (v := (i64 x.kind)) (by kernel_rfl) (Runs.load (t := 3) (a := ⟨b22, 0, none⟩) (by kernel_rfl) (H30.loads (by kernel_rfl))) (d := (some 30)) (by kernel_rfl) rfl ?_
   refine od ?_
   refine q_block (id := 2) (by kernel_rfl) ?_
   refine qs ?_
   refine qs ?_
   refine qg ?_
   refine og 2 [(0, (Value.slice A l.length c)), (3, (ptr b1)), (4, (ptr b6)), (5, (i64 ((q1 : Nat) : Int))), (6, (ptr b22)), (30, (i64 x.kind)), (31, (Value.bool (x.kind == 0)))] 2 ?_
   refine od ?_
   refine q_cond (o := .tmp 31) (b := (x.kind == 0)) (by kernel_rfl) rfl (fun h32 => ?_) (fun h32 => ?_)
   ·rw [h32]
    have p33 : x.kind = 0 := of_beq_t h32
    refine q_skip (by kernel_rfl) ?_
    refine q_then (o := .tmp 31) (by kernel_rfl) rfl ?_
    refine qs ?_
    refine q_draw (fun wz => Keeps (fun i => F i) w29 wz) 9 (by kernel_rfl) (by kernel_rfl) (by kernel_rfl) (fun w34 K35 _ _ => ⟨(K35.mono (fun _ _ h => h.elim)), ?_⟩)
    replace K13 := K13.trans K35 (U := none_) (fun i h1 h2 => h2) (fun i h1 h2 => by exact h2)
    replace H30 := H30.keep K35 (fun h => h)
    replace hT := TwoP.keep hT K35 (fun _ _ h => h)
    refine Dr.strong (S' := (fun wz => Keeps (fun i => F i) w34 wz)) ((Keeps.refl w34).mono (fun _ _ h => h.elim)) (fun wz hx => K35.trans hx (fun i _ h => h.elim) (fun _ _ h => h)) ?_
    clear K35
    refine Dr.takes (fuel' := 7) (is' := _) [0, 1] [(0, (Value.slice A l.length c)), (3, (ptr b1)), (4, (ptr b6)), (5, (i64 ((q1 : Nat) : Int))), (6, (ptr b22)), (30, (i64 x.kind)), (31, (Value.bool true)), (34, (ptr b1)), (35, (Value.pointer (some ⟨b22, 2, none⟩)))] (by kernel_rfl) rfl (by kernel_rfl) ?_
    refine Dr.take (i := 2) (v := (agg [(i64 x.op.kind), (Value.string (str x.op.frm)), (Value.string (str x.op.to)), (i64 x.op.amount), (Value.string (str x.op.key)), (i64 x.op.slot), (i64 x.op.shard)])) (by kernel_rfl) (by kernel_rfl) (fun wz hS => Runs.load (t := 23) (a := ⟨b22, 2, none⟩) (by kernel_rfl) ((H30.keep hS (by intro h; change F b22 at h; have := of28 b22 h; omega)).loads (by kernel_rfl))) (d := (some 36)) (by kernel_rfl) rfl ?_
    refine Dr.takes (fuel' := 4) (is' := _) [4, 5] [(0, (Value.slice A l.length c)), (3, (ptr b1)), (4, (ptr b6)), (5, (i64 ((q1 : Nat) : Int))), (6, (ptr b22)), (30, (i64 x.kind)), (31, (Value.bool true)), (34, (ptr b1)), (36, (agg [(i64 x.op.kind), (Value.string (str x.op.frm)), (Value.string (str x.op.to)), (i64 x.op.amount), (Value.string (str x.op.key)), (i64 x.op.slot), (i64 x.op.shard)])), (38, (ptr b6)), (39, (Value.pointer (some ⟨b22, 2, none⟩)))] (by kernel_rfl) rfl (by kernel_rfl) ?_
    refine Dr.take (i := 6) (v := (agg [(i64 x.op.kind), (Value.string (str x.op.frm)), (Value.string (str x.op.to)), (i64 x.op.amount), (Value.string (str x.op.key)), (i64 x.op.slot), (i64 x.op.shard)])) (by kernel_rfl) (by kernel_rfl) (fun wz hS => Runs.load (t := 23) (a := ⟨b22, 2, none⟩) (by kernel_rfl) ((H30.keep hS (by intro h; change F b22 at h; have := of28 b22 h; omega)).loads (by kernel_rfl))) (d := (some 40)) (by kernel_rfl) rfl ?_
    refine Dr.call (i := 3) (by kernel_rfl) (by kernel_rfl) (d := (some 37)) (by kernel_rfl) (fun _ => BeginP_two _ F b1 b6 ms ms x.op hT) ?_
    rintro _ w37 ⟨F36, rfl, K38, hT39, hg40⟩
    have of41 : ∀ i, F36 i → i ≠ b22 := fun i hi => (hg40 i hi).elim (fun h => by have := of28 i h; omega) (fun h => by have := H30.lt; omega)
    have low42 : ∀ i, F36 i → w.heap.size ≤ i := fun i hi => (hg40 i hi).elim (fun h => hlow i h) (fun h => Nat.le_trans K13.size h)
    replace K13 := K13.trans K38 (U := none_) (fun i h1 h2 => h2) (fun i h1 h2 => by have h2 : F i := h2; exfalso; have := hlow i h2; omega)
    replace H30 := H30.keep K38 (by intro h; change F b22 at h; have := of28 b22 h; omega)
    clear hT
    refine ⟨_, _, rfl, rfl, K38, ?_⟩
    refine Dr.strong (S' := (fun wz => Keeps (fun i => F36 i) w37 wz)) ((Keeps.refl w37).mono (fun _ _ h => h.elim)) (fun wz hx => K38.trans hx (U := (fun i => F i)) (fun i _ h => h) (fun i hi h => (hg40 i h).elim (fun h => h) (fun q => by exfalso; omega))) ?_
    clear K38
    refine Dr.call (i := 7) (by kernel_rfl) (by kernel_rfl) (d := (some 41)) (by kernel_rfl) (fun _ => BeginR_two _ F36 b1 b6 ((beginM ms x.op).1) ms x.op hT39) ?_
    rintro _ w44 ⟨F43, rfl, K45, hT46, hg47⟩
    have of48 : ∀ i, F43 i → i ≠ b22 := fun i hi => (hg47 i hi).elim (fun h => by have := of41 i h; omega) (fun h => by have := H30.lt; omega)
    have low49 : ∀ i, F43 i → w.heap.size ≤ i := fun i hi => (hg47 i hi).elim (fun h => low42 i h) (fun h => Nat.le_trans K13.size h)
    replace K13 := K13.trans K45 (U := none_) (fun i h1 h2 => h2) (fun i h1 h2 => by have h2 : F36 i := h2; exfalso; have := low42 i h2; omega)
    replace H30 := H30.keep K45 (by intro h; change F36 b22 at h; have := of41 b22 h; omega)
    clear hT39
    refine ⟨_, _, rfl, rfl, K45, ?_⟩
    refine Dr.strong (S' := (fun wz => Keeps (fun i => F43 i) w44 wz)) ((Keeps.refl w44).mono (fun _ _ h => h.elim)) (fun wz hx => K45.trans hx (U := (fun i => F36 i)) (fun i _ h => h) (fun i hi h => (hg47 i h).elim (fun h => h) (fun q => by exfalso; omega))) ?_
    clear K45
    refine Dr.takes (fuel' := 0) (is' := _) [8] [(0, (Value.slice A l.length c)), (3, (ptr b1)), (4, (ptr b6)), (5, (i64 ((q1 : Nat) : Int))), (6, (ptr b22)), (30, (i64 x.kind)), (31, (Value.bool true)), (42, (Value.bool (((beginM ms x.op).2) != ((beginM ms x.op).2))))] (by kernel_rfl) rfl (by kernel_rfl) ?_
    refine Dr.done (by kernel_rfl) ?_
    have h50 : (((beginM ms x.op).2) != ((beginM ms x.op).2)) = false := by simp
    rw [h50]
    refine q_else (o := .tmp 42) (by kernel_rfl) rfl ?_
    refine q_skip (by kernel_rfl) ?_
    refine qs ?_
    refine qg ?_
    refine og 3 [(0, (Value.slice A l.length c)), (3, (ptr b1)), (4, (ptr b6)), (5, (i64 ((q1 : Nat) : Int))), (31, (Value.bool true)), (90, (ptr b1)), (91, (ptr b6)), (92, (Value.pointer (some ⟨b22, 1, none⟩)))] 3 ?_
    refine Ops.go (v := (i64 x.n)) (by kernel_rfl) (Runs.load (t := 3) (a := ⟨b22, 1, none⟩) (by kernel_rfl) (H30.loads (by kernel_rfl))) (d := (some 93)) (by kernel_rfl) rfl ?_
    have hms53 : MsOk ((beginM ms x.op).1) := (MsOk.begin hms x.op)
    refine Ops.call (by kernel_rfl) (d := (some 94)) (by kernel_rfl) (alike_two _ F43 b1 b6 ((beginM ms x.op).1) x.n hT46 hms53) ?_
    rintro _ w51 ⟨rfl, K52⟩
    refine ⟨_, _, rfl, rfl, ?_⟩
    replace K13 := K13.trans K52 (U := none_) (fun i h1 h2 => h2) (fun i h1 h2 => by exact h2)
    replace H30 := H30.keep K52 (fun h => h)
    replace hT46 := TwoP.keep hT46 K52 (fun _ _ h => h)
    clear K52
    refine og 1 [(0, (Value.slice A l.length c)), (3, (ptr b1)), (4, (ptr b6)), (5, (i64 ((q1 : Nat) : Int))), (31, (Value.bool true)), (95, (Value.bool false))] 6 ?_
    refine od ?_
    refine q_else (o := .tmp 95) (by kernel_rfl) rfl ?_
    refine q_skip (by kernel_rfl) ?_
    refine qg ?_
    refine og 2 [(0, (Value.slice A l.length c)), (3, (ptr b1)), (4, (ptr b6)), (5, (i64 ((q1 : Nat) : Int))), (24, (i64 (IntKind.i64.wrap (((q1 : Nat) : Int) + 1)))), (31, (Value.bool true))] 2 ?_
    have e54 : IntKind.i64.wrap (((q1 : Nat) : Int) + 1) = ((q1 + 1 : Nat) : Int) := by rw [wrap_i64 (by omega) (by omega)]; omega
    rw [e54]
    clear e54
    refine og 1 [(0, (Value.slice A l.length c)), (3, (ptr b1)), (4, (ptr b6)), (5, (i64 ((q1 + 1 : Nat) : Int))), (31, (Value.bool true))] 3 ?_
    refine Ops.keep (R := [(0, (Value.slice A l.length c)), (3, (ptr b1)), (4, (ptr b6)), (5, (i64 ((q1 + 1 : Nat) : Int)))]) (by kernel_rfl) ?_
    refine od ?_
    exact ⟨(q1 + 1, F43, (beginM ms x.op).1), ⟨rfl, hT46, low49, hms53, (by omega), K13⟩, (show l.length - (q1 + 1) < l.length - q1 from by omega)⟩
   ·rw [h32]
    have p55 : ¬ (x.kind = 0) := of_beq_f h32
    refine qg ?_
    refine og 2 [(0, (Value.slice A l.length c)), (3, (ptr b1)), (4, (ptr b6)), (5, (i64 ((q1 : Nat) : Int))), (6, (ptr b22)), (30, (i64 x.kind)), (31, (Value.bool (x.kind == 1)))] 2 ?_
    refine od ?_
    refine q_cond (o := .tmp 31) (b := (x.kind == 1)) (by kernel_rfl) rfl (fun h56 => ?_) (fun h56 => ?_)
    ·rw [h56]
     have p57 : x.kind = 1 := of_beq_t h56
     refine qs ?_
     refine q_draw (fun wz => Keeps (fun i => F i) w29 wz) 9 (by kernel_rfl) (by kernel_rfl) (by kernel_rfl) (fun w58 K59 _ _ => ⟨(K59.mono (fun _ _ h => h.elim)), ?_⟩)
     replace K13 := K13.trans K59 (U := none_) (fun i h1 h2 => h2) (fun i h1 h2 => by exact h2)
     replace H30 := H30.keep K59 (fun h => h)
     replace hT := TwoP.keep hT K59 (fun _ _ h => h)
     refine Dr.strong (S' := (fun wz => Keeps (fun i => F i) w58 wz)) ((Keeps.refl w58).mono (fun _ _ h => h.elim)) (fun wz hx => K59.trans hx (fun i _ h => h.elim) (fun _ _ h => h)) ?_
     clear K59
     refine Dr.takes (fuel' := 7) (is' := _) [0, 1] [(0, (Value.slice A l.length c)), (3, (ptr b1)), (4, (ptr b6)), (5, (i64 ((q1 : Nat) : Int))), (6, (ptr b22)), (30, (i64 x.kind)), (31, (Value.bool true)), (34, (ptr b1)), (35, (Value.pointer (some ⟨b22, 2, none⟩)))] (by kernel_rfl) rfl (by kernel_rfl) ?_
     refine Dr.take (i := 2) (v := (agg [(i64 x.op.kind), (Value.string (str x.op.frm)), (Value.string (str x.op.to)), (i64 x.op.amount), (Value.string (str x.op.key)), (i64 x.op.slot), (i64 x.op.shard)])) (by kernel_rfl) (by kernel_rfl) (fun wz hS => Runs.load (t := 23) (a := ⟨b22, 2, none⟩) (by kernel_rfl) ((H30.keep hS (by intro h; change F b22 at h; have := of28 b22 h; omega)).loads (by kernel_rfl))) (d := (some 36)) (by kernel_rfl) rfl ?_
     refine Dr.takes (fuel' := 4) (is' := _) [4, 5] [(0, (Value.slice A l.length c)), (3, (ptr b1)), (4, (ptr b6)), (5, (i64 ((q1 : Nat) : Int))), (6, (ptr b22)), (30, (i64 x.kind)), (31, (Value.bool true)), (34, (ptr b1)), (36, (agg [(i64 x.op.kind), (Value.string (str x.op.frm)), (Value.string (str x.op.to)), (i64 x.op.amount), (Value.string (str x.op.key)), (i64 x.op.slot), (i64 x.op.shard)])), (38, (ptr b6)), (39, (Value.pointer (some ⟨b22, 2, none⟩)))] (by kernel_rfl) rfl (by kernel_rfl) ?_
     refine Dr.take (i := 6) (v := (agg [(i64 x.op.kind), (Value.string (str x.op.frm)), (Value.string (str x.op.to)), (i64 x.op.amount), (Value.string (str x.op.key)), (i64 x.op.slot), (i64 x.op.shard)])) (by kernel_rfl) (by kernel_rfl) (fun wz hS => Runs.load (t := 23) (a := ⟨b22, 2, none⟩) (by kernel_rfl) ((H30.keep hS (by intro h; change F b22 at h; have := of28 b22 h; omega)).loads (by kernel_rfl))) (d := (some 40)) (by kernel_rfl) rfl ?_
     refine Dr.call (i := 3) (by kernel_rfl) (by kernel_rfl) (d := (some 37)) (by kernel_rfl) (fun _ => BeginP_two _ F b1 b6 ms ms x.op hT) ?_
     rintro _ w61 ⟨F60, rfl, K62, hT63, hg64⟩
     have of65 : ∀ i, F60 i → i ≠ b22 := fun i hi => (hg64 i hi).elim (fun h => by have := of28 i h; omega) (fun h => by have := H30.lt; omega)
     have low66 : ∀ i, F60 i → w.heap.size ≤ i := fun i hi => (hg64 i hi).elim (fun h => hlow i h) (fun h => Nat.le_trans K13.size h)
     replace K13 := K13.trans K62 (U := none_) (fun i h1 h2 => h2) (fun i h1 h2 => by have h2 : F i := h2; exfalso; have := hlow i h2; omega)
     replace H30 := H30.keep K62 (by intro h; change F b22 at h; have := of28 b22 h; omega)
     clear hT
     refine ⟨_, _, rfl, rfl, K62, ?_⟩
     refine Dr.strong (S' := (fun wz => Keeps (fun i => F60 i) w61 wz)) ((Keeps.refl w61).mono (fun _ _ h => h.elim)) (fun wz hx => K62.trans hx (U := (fun i => F i)) (fun i _ h => h) (fun i hi h => (hg64 i h).elim (fun h => h) (fun q => by exfalso; omega))) ?_
     clear K62
     refine Dr.call (i := 7) (by kernel_rfl) (by kernel_rfl) (d := (some 41)) (by kernel_rfl) (fun _ => BeginR_two _ F60 b1 b6 ((beginM ms x.op).1) ms x.op hT63) ?_
     rintro _ w68 ⟨F67, rfl, K69, hT70, hg71⟩
     have of72 : ∀ i, F67 i → i ≠ b22 := fun i hi => (hg71 i hi).elim (fun h => by have := of65 i h; omega) (fun h => by have := H30.lt; omega)
     have low73 : ∀ i, F67 i → w.heap.size ≤ i := fun i hi => (hg71 i hi).elim (fun h => low66 i h) (fun h => Nat.le_trans K13.size h)
     replace K13 := K13.trans K69 (U := none_) (fun i h1 h2 => h2) (fun i h1 h2 => by have h2 : F60 i := h2; exfalso; have := low66 i h2; omega)
     replace H30 := H30.keep K69 (by intro h; change F60 b22 at h; have := of65 b22 h; omega)
     clear hT63
     refine ⟨_, _, rfl, rfl, K69, ?_⟩
     refine Dr.strong (S' := (fun wz => Keeps (fun i => F67 i) w68 wz)) ((Keeps.refl w68).mono (fun _ _ h => h.elim)) (fun wz hx => K69.trans hx (U := (fun i => F60 i)) (fun i _ h => h) (fun i hi h => (hg71 i h).elim (fun h => h) (fun q => by exfalso; omega))) ?_
     clear K69
     refine Dr.takes (fuel' := 0) (is' := _) [8] [(0, (Value.slice A l.length c)), (3, (ptr b1)), (4, (ptr b6)), (5, (i64 ((q1 : Nat) : Int))), (6, (ptr b22)), (30, (i64 x.kind)), (31, (Value.bool true)), (42, (Value.bool (((beginM ms x.op).2) != ((beginM ms x.op).2))))] (by kernel_rfl) rfl (by kernel_rfl) ?_
     refine Dr.done (by kernel_rfl) ?_
     have h74 : (((beginM ms x.op).2) != ((beginM ms x.op).2)) = false := by simp
     rw [h74]
     refine q_else (o := .tmp 42) (by kernel_rfl) rfl ?_
     refine q_skip (by kernel_rfl) ?_
     refine qs ?_
     refine qg ?_
     refine og 3 [(0, (Value.slice A l.length c)), (3, (ptr b1)), (4, (ptr b6)), (5, (i64 ((q1 : Nat) : Int))), (31, (Value.bool true)), (90, (ptr b1)), (91, (ptr b6)), (92, (Value.pointer (some ⟨b22, 1, none⟩)))] 3 ?_
     refine Ops.go (v := (i64 x.n)) (by kernel_rfl) (Runs.load (t := 3) (a := ⟨b22, 1, none⟩) (by kernel_rfl) (H30.loads (by kernel_rfl))) (d := (some 93)) (by kernel_rfl) rfl ?_
     have hms77 : MsOk ((beginM ms x.op).1) := (MsOk.begin hms x.op)
     refine Ops.call (by kernel_rfl) (d := (some 94)) (by kernel_rfl) (alike_two _ F67 b1 b6 ((beginM ms x.op).1) x.n hT70 hms77) ?_
     rintro _ w75 ⟨rfl, K76⟩
     refine ⟨_, _, rfl, rfl, ?_⟩
     replace K13 := K13.trans K76 (U := none_) (fun i h1 h2 => h2) (fun i h1 h2 => by exact h2)
     replace H30 := H30.keep K76 (fun h => h)
     replace hT70 := TwoP.keep hT70 K76 (fun _ _ h => h)
     clear K76
     refine og 1 [(0, (Value.slice A l.length c)), (3, (ptr b1)), (4, (ptr b6)), (5, (i64 ((q1 : Nat) : Int))), (31, (Value.bool true)), (95, (Value.bool false))] 6 ?_
     refine od ?_
     refine q_else (o := .tmp 95) (by kernel_rfl) rfl ?_
     refine q_skip (by kernel_rfl) ?_
     refine qg ?_
     refine og 2 [(0, (Value.slice A l.length c)), (3, (ptr b1)), (4, (ptr b6)), (5, (i64 ((q1 : Nat) : Int))), (24, (i64 (IntKind.i64.wrap (((q1 : Nat) : Int) + 1)))), (31, (Value.bool true))] 2 ?_
     have e78 : IntKind.i64.wrap (((q1 : Nat) : Int) + 1) = ((q1 + 1 : Nat) : Int) := by rw [wrap_i64 (by omega) (by omega)]; omega
     rw [e78]
     clear e78
     refine og 1 [(0, (Value.slice A l.length c)), (3, (ptr b1)), (4, (ptr b6)), (5, (i64 ((q1 + 1 : Nat) : Int))), (31, (Value.bool true))] 3 ?_
     refine Ops.keep (R := [(0, (Value.slice A l.length c)), (3, (ptr b1)), (4, (ptr b6)), (5, (i64 ((q1 + 1 : Nat) : Int)))]) (by kernel_rfl) ?_
     refine od ?_
     exact ⟨(q1 + 1, F67, (beginM ms x.op).1), ⟨rfl, hT70, low73, hms77, (by omega), K13⟩, (show l.length - (q1 + 1) < l.length - q1 from by omega)⟩
    ·rw [h56]
     have p79 : ¬ (x.kind = 1) := of_beq_f h56
     refine qs ?_
     refine qs ?_
     refine qg ?_
     refine og 2 [(0, (Value.slice A l.length c)), (3, (ptr b1)), (4, (ptr b6)), (5, (i64 ((q1 : Nat) : Int))), (6, (ptr b22)), (30, (i64 x.kind)), (31, (Value.bool false)), (43, (Value.bool (x.kind == 2)))] 2 ?_
     refine od ?_
     refine q_cond (o := .tmp 43) (b := (x.kind == 2)) (by kernel_rfl) rfl (fun h80 => ?_) (fun h80 => ?_)
     ·rw [h80]
      have p81 : x.kind = 2 := of_beq_t h80
      refine q_skip (by kernel_rfl) ?_
      refine q_then (o := .tmp 43) (by kernel_rfl) rfl ?_
      refine qs ?_
      refine qg ?_
      refine og 1 [(0, (Value.slice A l.length c)), (3, (ptr b1)), (4, (ptr b6)), (5, (i64 ((q1 : Nat) : Int))), (6, (ptr b22)), (30, (i64 x.kind)), (31, (Value.bool false)), (43, (Value.bool true)), (46, (Value.pointer (some ⟨b22, 9, none⟩)))] 1 ?_
      refine Ops.go (v := (agg [(i64 x.rep.why), (i64 x.rep.amount), (Value.slice x.V x.rep.rows.length x.c)])) (by kernel_rfl) (Runs.load (t := 27) (a := ⟨b22, 9, none⟩) (by kernel_rfl) (H30.loads (by kernel_rfl))) (d := (some 47)) (by kernel_rfl) rfl ?_
      refine og 1 [(0, (Value.slice A l.length c)), (3, (ptr b1)), (4, (ptr b6)), (5, (i64 ((q1 : Nat) : Int))), (6, (ptr b22)), (30, (i64 x.kind)), (31, (Value.bool false)), (43, (Value.bool true)), (48, (agg [(i64 0), (i64 0), (i64 0), (i64 0), (Value.string ByteArray.empty), (Value.string ByteArray.empty), (i64 0), (Value.string ByteArray.empty), (i64 0), (i64 0), (i64 x.rep.why), (i64 x.rep.amount), (Value.slice x.V x.rep.rows.length x.c), (Value.slice none 0 0)]))] 3 ?_
      refine Ops.call (by kernel_rfl) (d := (some 49)) (by kernel_rfl) (given_calls _ (⟨0, 0, 0, ⟨0, [], [], 0, [], 0, 0⟩, x.rep, []⟩ : LetP) x.V x.c none 0 (Rd.keep0 (by decide) hx.rows K13) (Rd.nil _ _) hx.rlen (by show (0 : Nat) ≤ _; decide)) ?_
      rintro _ w86 ⟨V82, c83, D84, dc85, rfl, K87, hR88, hB89⟩
      have ob92 : ∀ i, ((Value.slice V82 x.rep.rows.length c83)).ownBlock = some i → i ≠ b22 := fun i hi => by have := (World.ownsRow.lt hR88 i hi).1; have := H30.lt; omega
      have oo93 : ∀ i, ((Value.slice V82 x.rep.rows.length c83)).ownBlock = some i → F i → False := fun i hs hi => by have := (World.ownsRow.lt hR88 i hs).1; have := TwoP.lt hT i hi; omega
      have O90 := own_base hR88 K13.size
      have ss91 : ∀ i, F i → ((Value.slice V82 x.rep.rows.length c83)).ownBlock = some i → False := fun i h1 h2 => oo93 i h2 h1
      refine ⟨_, _, rfl, rfl, ?_⟩
      replace K13 := K13.trans K87 (U := none_) (fun i h1 h2 => h2) (fun i h1 h2 => by exact h2)
      replace H30 := H30.keep K87 (fun h => h)
      replace hT := TwoP.keep hT K87 (fun _ _ h => h)
      clear K87
      refine og 1 [(0, (Value.slice A l.length c)), (3, (ptr b1)), (4, (ptr b6)), (5, (i64 ((q1 : Nat) : Int))), (6, (ptr b22)), (30, (i64 x.kind)), (31, (Value.bool false)), (43, (Value.bool true)), (50, (agg [(i64 x.rep.why), (i64 x.rep.amount), (Value.slice V82 x.rep.rows.length c83)]))] 5 ?_
      refine Ops.new (o := rowL [(i64 0), (i64 0), (Value.slice none 0 0)] 27) (V := fun b => (ptr b)) (by kernel_rfl) (d := (some 7)) (by kernel_rfl) (fun b => rfl) (fun b94 w95 hb96 H97 K98 hs99 => ?_)
      have lb94b22 : b22 < b94 := by have := H30.lt; omega
      have nb94 : w.heap.size ≤ b94 := by have := K13.size; omega
      have of100 : ∀ i, F i → i ≠ b94 := fun i hi => by have := TwoP.lt hT i hi; omega
      have ob101 : ∀ i, ((Value.slice V82 x.rep.rows.length c83)).ownBlock = some i → i < b94 := fun i hi => by have := (World.ownsRow.lt O90 i hi).2; omega
      replace K13 := K13.trans K98 (U := none_) (fun i h1 h2 => h2) (fun i h1 h2 => by exact h2)
      replace H30 := H30.keep K98 (fun h => h)
      replace hT := TwoP.keep hT K98 (fun _ _ h => h)
      replace O90 := own_keep0 O90 K98
      clear K98 hs99
      refine Ops.put (t := 27) (b := b94) (off := 0) (v := (agg [(i64 x.rep.why), (i64 x.rep.amount), (Value.slice V82 x.rep.rows.length c83)])) (ys := [(i64 x.rep.why), (i64 x.rep.amount), (Value.slice V82 x.rep.rows.length c83)]) (by kernel_rfl) (by kernel_rfl) H97 (by kernel_rfl) (d := none) (by kernel_rfl) rfl (fun w102 H103 K104 => ?_)
      clear H97
      replace K13 := K13.trans K104 (U := none_) (fun i h1 h2 => h2) (fun i h1 h2 => by have h2 : i = b94 := h2; exfalso; omega)
      replace H30 := H30.k1 K104 (by omega)
      replace hT := TwoP.keep hT K104 (fun i hi hs => by have hs : i = b94 := hs; have := of100 i hi; omega)
      replace O90 := own_keep O90 K104 (fun i hi => by have := ob101 i hi; omega)
      clear K104
      refine od ?_
      refine qs ?_
      refine qs ?_
      refine q_draw (fun wz => Keeps (fun i => F i) w102 wz) 12 (by kernel_rfl) (by kernel_rfl) (by kernel_rfl) (fun w105 K106 _ _ => ⟨(K106.mono (fun _ _ h => h.elim)), ?_⟩)
      replace K13 := K13.trans K106 (U := none_) (fun i h1 h2 => h2) (fun i h1 h2 => by exact h2)
      replace H30 := H30.keep K106 (fun h => h)
      replace H103 := H103.keep K106 (fun h => h)
      replace hT := TwoP.keep hT K106 (fun _ _ h => h)
      replace O90 := own_keep0 O90 K106
      refine Dr.strong (S' := (fun wz => Keeps (fun i => F i) w105 wz)) ((Keeps.refl w105).mono (fun _ _ h => h.elim)) (fun wz hx => K106.trans hx (fun i _ h => h.elim) (fun _ _ h => h)) ?_
      clear K106
      refine Dr.takes (fuel' := 10) (is' := _) [0, 1] [(0, (Value.slice A l.length c)), (3, (ptr b1)), (4, (ptr b6)), (5, (i64 ((q1 : Nat) : Int))), (6, (ptr b22)), (7, (ptr b94)), (30, (i64 x.kind)), (31, (Value.bool false)), (43, (Value.bool true)), (51, (ptr b1)), (52, (Value.pointer (some ⟨b22, 1, none⟩)))] (by kernel_rfl) rfl (by kernel_rfl) ?_
      refine Dr.take (i := 2) (v := (i64 x.n)) (by kernel_rfl) (by kernel_rfl) (fun wz hS => Runs.load (t := 3) (a := ⟨b22, 1, none⟩) (by kernel_rfl) ((H30.keep hS (by intro h; change F b22 at h; have := of28 b22 h; omega)).loads (by kernel_rfl))) (d := (some 53)) (by kernel_rfl) rfl ?_
      refine Dr.take (i := 3) (v := (agg [(i64 x.rep.why), (i64 x.rep.amount), (Value.slice V82 x.rep.rows.length c83)])) (by kernel_rfl) (by kernel_rfl) (fun wz hS => Runs.load (t := 27) (a := ⟨b94, 0, none⟩) (by kernel_rfl) ((H103.keep hS (by intro h; change F b94 at h; have := of100 b94 h; omega)).loads (by kernel_rfl))) (d := (some 54)) (by kernel_rfl) rfl ?_
      refine Dr.takes (fuel' := 6) (is' := _) [5, 6] [(0, (Value.slice A l.length c)), (3, (ptr b1)), (4, (ptr b6)), (5, (i64 ((q1 : Nat) : Int))), (6, (ptr b22)), (7, (ptr b94)), (30, (i64 x.kind)), (31, (Value.bool false)), (43, (Value.bool true)), (51, (ptr b1)), (53, (i64 x.n)), (54, (agg [(i64 x.rep.why), (i64 x.rep.amount), (Value.slice V82 x.rep.rows.length c83)])), (56, (ptr b6)), (57, (Value.pointer (some ⟨b22, 1, none⟩)))] (by kernel_rfl) rfl (by kernel_rfl) ?_
      refine Dr.take (i := 7) (v := (i64 x.n)) (by kernel_rfl) (by kernel_rfl) (fun wz hS => Runs.load (t := 3) (a := ⟨b22, 1, none⟩) (by kernel_rfl) ((H30.keep hS (by intro h; change F b22 at h; have := of28 b22 h; omega)).loads (by kernel_rfl))) (d := (some 58)) (by kernel_rfl) rfl ?_
      refine Dr.takes (fuel' := 4) (is' := _) [8] [(0, (Value.slice A l.length c)), (3, (ptr b1)), (4, (ptr b6)), (5, (i64 ((q1 : Nat) : Int))), (6, (ptr b22)), (7, (ptr b94)), (30, (i64 x.kind)), (31, (Value.bool false)), (43, (Value.bool true)), (51, (ptr b1)), (53, (i64 x.n)), (54, (agg [(i64 x.rep.why), (i64 x.rep.amount), (Value.slice V82 x.rep.rows.length c83)])), (56, (ptr b6)), (58, (i64 x.n)), (59, (Value.pointer (some ⟨b22, 9, none⟩)))] (by kernel_rfl) rfl (by kernel_rfl) ?_
      refine Dr.take (i := 9) (v := (agg [(i64 x.rep.why), (i64 x.rep.amount), (Value.slice x.V x.rep.rows.length x.c)])) (by kernel_rfl) (by kernel_rfl) (fun wz hS => Runs.load (t := 27) (a := ⟨b22, 9, none⟩) (by kernel_rfl) ((H30.keep hS (by intro h; change F b22 at h; have := of28 b22 h; omega)).loads (by kernel_rfl))) (d := (some 60)) (by kernel_rfl) rfl ?_
      refine Dr.call (i := 4) (by kernel_rfl) (by kernel_rfl) (d := (some 55)) (by kernel_rfl) (fun _ => HearP_two _ F b1 b6 ms ms x.n x.rep.why x.rep.amount V82 c83 x.rep.rows hT (OwnT.rd O90) (fun _ i hi hf => oo93 i hi hf) hx.rlen) ?_
      rintro _ w108 ⟨F107, rfl, K109, hT110, hg111⟩
      have of112 : ∀ i, F107 i → i ≠ b22 := fun i hi => (hg111 i hi).elim (fun h => by have := of28 i h; omega) (fun h => by have := H30.lt; omega)
      have of113 : ∀ i, F107 i → i ≠ b94 := fun i hi => (hg111 i hi).elim (fun h => by have := of100 i h; omega) (fun h => by have := H103.lt; omega)
      have oo114 : ∀ i, ((Value.slice V82 x.rep.rows.length c83)).ownBlock = some i → F107 i → False := fun i hs hi => (hg111 i hi).elim (fun h => oo93 i hs h) (fun h => by have := (World.ownsRow.lt O90 i hs).2; omega)
      have ss115 : ∀ i, F107 i → ((Value.slice V82 x.rep.rows.length c83)).ownBlock = some i → False := fun i h1 h2 => oo114 i h2 h1
      have low116 : ∀ i, F107 i → w.heap.size ≤ i := fun i hi => (hg111 i hi).elim (fun h => hlow i h) (fun h => Nat.le_trans K13.size h)
      replace K13 := K13.trans K109 (U := none_) (fun i h1 h2 => h2) (fun i h1 h2 => by have h2 : F i := h2; exfalso; have := hlow i h2; omega)
      replace H30 := H30.keep K109 (by intro h; change F b22 at h; have := of28 b22 h; omega)
      replace H103 := H103.keep K109 (by intro h; change F b94 at h; have := of100 b94 h; omega)
      clear hT
      replace O90 := own_keep O90 K109 (fun i hi hs => by have hs : F i := hs; exact ss91 i hs hi)
      refine ⟨_, _, rfl, rfl, K109, ?_⟩
      refine Dr.strong (S' := (fun wz => Keeps (fun i => F107 i) w108 wz)) ((Keeps.refl w108).mono (fun _ _ h => h.elim)) (fun wz hx => K109.trans hx (U := (fun i => F i)) (fun i _ h => h) (fun i hi h => (hg111 i h).elim (fun h => h) (fun q => by exfalso; omega))) ?_
      clear K109
      refine Dr.call (i := 10) (by kernel_rfl) (by kernel_rfl) (d := (some 61)) (by kernel_rfl) (fun _ => HearR_two _ F107 b1 b6 ((hearM ms x.n ⟨x.rep.why, x.rep.amount, x.rep.rows⟩).1) ms x.n x.rep.why x.rep.amount x.V x.c x.rep.rows hT110 (Rd.keep0 (by decide) hx.rows K13) (fun hn i hi hf => by have z1 := RdR.blk_lt hx.rows hn i hi; have z2 := low116 i hf; omega) hx.rlen) ?_
      rintro _ w118 ⟨F117, rfl, K119, hT120, hg121⟩
      have of122 : ∀ i, F117 i → i ≠ b22 := fun i hi => (hg121 i hi).elim (fun h => by have := of112 i h; omega) (fun h => by have := H30.lt; omega)
      have of123 : ∀ i, F117 i → i ≠ b94 := fun i hi => (hg121 i hi).elim (fun h => by have := of113 i h; omega) (fun h => by have := H103.lt; omega)
      have oo124 : ∀ i, ((Value.slice V82 x.rep.rows.length c83)).ownBlock = some i → F117 i → False := fun i hs hi => (hg121 i hi).elim (fun h => oo114 i hs h) (fun h => by have := (World.ownsRow.lt O90 i hs).2; omega)
      have ss125 : ∀ i, F117 i → ((Value.slice V82 x.rep.rows.length c83)).ownBlock = some i → False := fun i h1 h2 => oo124 i h2 h1
      have low126 : ∀ i, F117 i → w.heap.size ≤ i := fun i hi => (hg121 i hi).elim (fun h => low116 i h) (fun h => Nat.le_trans K13.size h)
      replace K13 := K13.trans K119 (U := none_) (fun i h1 h2 => h2) (fun i h1 h2 => by have h2 : F107 i := h2; exfalso; have := low116 i h2; omega)
      replace H30 := H30.keep K119 (by intro h; change F107 b22 at h; have := of112 b22 h; omega)
      replace H103 := H103.keep K119 (by intro h; change F107 b94 at h; have := of113 b94 h; omega)
      replace O90 := own_keep O90 K119 (fun i hi hs => by have hs : F107 i := hs; exact ss115 i hs hi)
      clear hT110
      refine ⟨_, _, rfl, rfl, K119, ?_⟩
      refine Dr.strong (S' := (fun wz => Keeps (fun i => F117 i) w118 wz)) ((Keeps.refl w118).mono (fun _ _ h => h.elim)) (fun wz hx => K119.trans hx (U := (fun i => F107 i)) (fun i _ h => h) (fun i hi h => (hg121 i h).elim (fun h => h) (fun q => by exfalso; omega))) ?_
      clear K119
      refine Dr.split ((hearM ms x.n ⟨x.rep.why, x.rep.amount, x.rep.rows⟩).2) (fun h127 => ?_) (fun h127 => ?_)
      ·rw [h127]
       have p128 : ((hearM ms x.n ⟨x.rep.why, x.rep.amount, x.rep.rows⟩).2) = true := h127
       refine Dr.takes (fuel' := 0) (is' := _) [11] [(0, (Value.slice A l.length c)), (3, (ptr b1)), (4, (ptr b6)), (5, (i64 ((q1 : Nat) : Int))), (6, (ptr b22)), (7, (ptr b94)), (30, (i64 x.kind)), (31, (Value.bool false)), (43, (Value.bool true)), (62, (Value.bool false))] (by kernel_rfl) rfl (by kernel_rfl) ?_
       refine Dr.done (by kernel_rfl) ?_
       refine q_else (o := .tmp 62) (by kernel_rfl) rfl ?_
       refine q_skip (by kernel_rfl) ?_
       refine qs ?_
       refine qg ?_
       refine og 1 [(0, (Value.slice A l.length c)), (3, (ptr b1)), (4, (ptr b6)), (5, (i64 ((q1 : Nat) : Int))), (6, (ptr b22)), (7, (ptr b94)), (8, (i64 0)), (30, (i64 x.kind)), (31, (Value.bool false)), (43, (Value.bool true))] 1 ?_
       refine od ?_
       refine q_block (id := 3) (by kernel_rfl) ?_
       have ob129 : ∀ i, ((Value.slice V82 x.rep.rows.length c83)).ownBlock = some i → i ≠ b22 := fun i hi => by have := ob92 i hi; omega
       have ob130 : ∀ i, ((Value.slice V82 x.rep.rows.length c83)).ownBlock = some i → i ≠ b94 := fun i hi => by have := ob101 i hi; omega
       refine q_keep (R := [(0, (Value.slice A l.length c)), (3, (ptr b1)), (4, (ptr b6)), (5, (i64 ((q1 : Nat) : Int))), (6, (ptr b22)), (7, (ptr b94)), (8, (i64 0)), (30, (i64 x.kind)), (31, (Value.bool false)), (43, (Value.bool true))]) (by kernel_rfl) ?_
       refine q_loop (fun (gs : Nat × (List RowM)) L (wx : World) => match gs with | (q, ys) => L = [(0, (Value.slice A l.length c)), (3, (ptr b1)), (4, (ptr b6)), (5, (i64 ((q1 : Nat) : Int))), (6, (ptr b22)), (7, (ptr b94)), (8, (i64 ((q : Nat) : Int))), (30, (i64 x.kind)), (31, (Value.bool false)), (43, (Value.bool true))] ∧ TwoP wx F117 b1 84 79 b6 55 87 ((hearM ms x.n ⟨x.rep.why, x.rep.amount, x.rep.rows⟩).1) ((hearM ms x.n ⟨x.rep.why, x.rep.amount, x.rep.rows⟩).1) ∧ OwnR wx w.heap.size 59 (.slice V82 ys.length c83) ys ∧ (∀ i, ((Value.slice V82 x.rep.rows.length c83)).ownBlock = some i → i ≠ b22) ∧ (∀ i, ((Value.slice V82 x.rep.rows.length c83)).ownBlock = some i → i ≠ b94) ∧ q ≤ x.rep.rows.length ∧ ys.length = x.rep.rows.length ∧ Keeps none_ w wx ∧ Has wx b22 (rowL [(i64 x.kind), (i64 x.n), (i64 x.op.kind), (Value.string (str x.op.frm)), (Value.string (str x.op.to)), (i64 x.op.amount), (Value.string (str x.op.key)), (i64 x.op.slot), (i64 x.op.shard), (i64 x.rep.why), (i64 x.rep.amount), (Value.slice x.V x.rep.rows.length x.c)] 57) ∧ Has wx b94 (rowL [(i64 x.rep.why), (i64 x.rep.amount), (Value.slice V82 x.rep.rows.length c83)] 27)) (fun (gs : Nat × (List RowM)) => match gs with | (q, ys) => x.rep.rows.length - q) (0, x.rep.rows) (by kernel_rfl) ⟨rfl, hT120, O90, ob129, ob130, Nat.zero_le _, rfl, K13, H30, H103⟩ ?_
       clear H30 H103 O90 hT120 K13
       rintro ⟨q, ys⟩ _ w131 ⟨rfl, hC0, hOV, obVb22, obVb94, hq0, hyl, K132, H133, H134⟩
       refine qs ?_
       refine qs ?_
       refine qg ?_
       refine og 2 [(0, (Value.slice A l.length c)), (3, (ptr b1)), (4, (ptr b6)), (5, (i64 ((q1 : Nat) : Int))), (6, (ptr b22)), (7, (ptr b94)), (8, (i64 ((q : Nat) : Int))), (30, (i64 x.kind)), (31, (Value.bool false)), (43, (Value.bool true)), (63, (i64 ((q : Nat) : Int))), (64, (Value.pointer (some ⟨b94, 2, none⟩)))] 2 ?_
       refine Ops.go (v := (Value.slice V82 x.rep.rows.length c83)) (by kernel_rfl) (Runs.load (t := 25) (a := ⟨b94, 2, none⟩) (by kernel_rfl) (H134.loads (by kernel_rfl))) (d := (some 65)) (by kernel_rfl) rfl ?_
       refine og 2 [(0, (Value.slice A l.length c)), (3, (ptr b1)), (4, (ptr b6)), (5, (i64 ((q1 : Nat) : Int))), (6, (ptr b22)), (7, (ptr b94)), (8, (i64 ((q : Nat) : Int))), (30, (i64 x.kind)), (31, (Value.bool false)), (43, (Value.bool true)), (67, (Value.bool (decide (((q : Nat) : Int) < ((x.rep.rows.length : Nat) : Int)))))] 5 ?_
       refine od ?_
       refine q_cond (o := .tmp 67) (b := (decide (((q : Nat) : Int) < ((x.rep.rows.length : Nat) : Int)))) (by kernel_rfl) rfl (fun h135 => ?_) (fun h135 => ?_)
       ·rw [h135]
        have p136 : ((q : Nat) : Int) < ((x.rep.rows.length : Nat) : Int) := of_decide_eq_true h135
        obtain ⟨y, hy⟩ : ∃ y, ys[q]? = some y := ⟨_, List.getElem?_eq_getElem (by omega)⟩
        obtain ⟨gb, pre, suf, hA, hgb, hp, Hg, hput⟩ := OwnT.mid RowM.two (by decide) hy hOV
        have ngb : w.heap.size ≤ gb := hgb
        have Hgl := Hg.lt
        have dgbb22 : gb ≠ b22 := obVb22 gb (by rw [hA]; rfl)
        have dgbb94 : gb ≠ b94 := obVb94 gb (by rw [hA]; rfl)
        have ogF : ∀ i, F117 i → i ≠ gb := fun i hi q => oo124 gb (by rw [hA]; rfl) (q ▸ hi)
        refine q_skip (by kernel_rfl) ?_
        refine qs ?_
        refine q_block (id := 4) (by kernel_rfl) ?_
        refine qg ?_
        refine og 1 [(0, (Value.slice A l.length c)), (3, (ptr b1)), (4, (ptr b6)), (5, (i64 ((q1 : Nat) : Int))), (6, (ptr b22)), (7, (ptr b94)), (8, (i64 ((q : Nat) : Int))), (30, (i64 x.kind)), (31, (Value.bool false)), (43, (Value.bool true)), (70, (Value.pointer (some ⟨b94, 2, none⟩)))] 1 ?_
        refine Ops.go (v := (Value.slice V82 x.rep.rows.length c83)) (by kernel_rfl) (Runs.load (t := 25) (a := ⟨b94, 2, none⟩) (by kernel_rfl) (H134.loads (by kernel_rfl))) (d := (some 71)) (by kernel_rfl) rfl ?_
        refine og 1 [(0, (Value.slice A l.length c)), (3, (ptr b1)), (4, (ptr b6)), (5, (i64 ((q1 : Nat) : Int))), (6, (ptr b22)), (7, (ptr b94)), (8, (i64 ((q : Nat) : Int))), (30, (i64 x.kind)), (31, (Value.bool false)), (43, (Value.bool true)), (71, (Value.slice V82 x.rep.rows.length c83)), (72, (i64 ((q : Nat) : Int)))] 3 ?_
        refine Ops.go (by kernel_rfl) (Runs.ixSliceE (k := IntKind.i64) (t := 25) (len := x.rep.rows.length) (cap := c83) (s := 2) (off' := q * 2) (i := ((q : Nat) : Int)) hA (by kernel_rfl) (by kernel_rfl) (by omega) (by omega) (by omega)) (d := (some 73)) (by kernel_rfl) rfl ?_
        refine og 1 [(0, (Value.slice A l.length c)), (3, (ptr b1)), (4, (ptr b6)), (5, (i64 ((q1 : Nat) : Int))), (6, (ptr b22)), (7, (ptr b94)), (8, (i64 ((q : Nat) : Int))), (30, (i64 x.kind)), (31, (Value.bool false)), (43, (Value.bool true)), (74, (Value.pointer (some ⟨gb, q * 2 + 1, none⟩)))] 5 ?_
        refine Ops.put (t := 2) (b := gb) (off := q * 2 + 1) (v := (i64 99)) (ys := (pre ++ [(Value.string (str y.name)), (i64 99)] ++ suf)) (by kernel_rfl) (by kernel_rfl) Hg (storeC1 (by kernel_rfl) (by kernel_rfl) (Nat.lt_of_lt_of_le (Nat.lt_succ_self _) (mid_len (vs := [(i64 99)]) (k := 1) (by have := hp; omega) (Nat.le_of_ble_eq_true (by kernel_rfl)))) (mid_set1 (k := 1) (by have := hp; omega) (Nat.le_of_ble_eq_true (by kernel_rfl)))) (d := none) (by kernel_rfl) rfl (fun w137 H138 K139 => ?_)
        clear Hg
        replace K132 := K132.trans K139 (U := none_) (fun i h1 h2 => h2) (fun i h1 h2 => by have h2 : i = gb := h2; exfalso; omega)
        replace H133 := H133.k1 K139 (by omega)
        replace H134 := H134.k1 K139 (by omega)
        replace hC0 := TwoP.keep hC0 K139 (fun i hi hs => by have hs : i = gb := hs; have := ogF i hi; omega)
        clear K139
        refine od ?_
        refine qg ?_
        refine og 2 [(0, (Value.slice A l.length c)), (3, (ptr b1)), (4, (ptr b6)), (5, (i64 ((q1 : Nat) : Int))), (6, (ptr b22)), (7, (ptr b94)), (8, (i64 ((q : Nat) : Int))), (30, (i64 x.kind)), (31, (Value.bool false)), (43, (Value.bool true)), (69, (i64 (IntKind.i64.wrap (((q : Nat) : Int) + 1))))] 2 ?_
        have e140 : IntKind.i64.wrap (((q : Nat) : Int) + 1) = ((q + 1 : Nat) : Int) := by rw [wrap_i64 (by omega) (by omega)]; omega
        rw [e140]
        clear e140
        refine og 1 [(0, (Value.slice A l.length c)), (3, (ptr b1)), (4, (ptr b6)), (5, (i64 ((q1 : Nat) : Int))), (6, (ptr b22)), (7, (ptr b94)), (8, (i64 ((q + 1 : Nat) : Int))), (30, (i64 x.kind)), (31, (Value.bool false)), (43, (Value.bool true))] 3 ?_
        refine Ops.keep (R := [(0, (Value.slice A l.length c)), (3, (ptr b1)), (4, (ptr b6)), (5, (i64 ((q1 : Nat) : Int))), (6, (ptr b22)), (7, (ptr b94)), (8, (i64 ((q + 1 : Nat) : Int))), (30, (i64 x.kind)), (31, (Value.bool false)), (43, (Value.bool true))]) (by kernel_rfl) ?_
        refine od ?_
        exact ⟨(q + 1, ys.set q ⟨y.name, 99⟩), ⟨rfl, hC0, (by rw [List.length_set]; exact hput ⟨y.name, 99⟩ _ H138), obVb22, obVb94, (by omega), (by rw [List.length_set]; exact hyl), K132, H133, H134⟩, (show x.rep.rows.length - (q + 1) < x.rep.rows.length - q from by omega)⟩
       ·rw [h135]
        have p141 : ¬ (((q : Nat) : Int) < ((x.rep.rows.length : Nat) : Int)) := of_decide_eq_false h135
        refine q_exit (id := 3) (by kernel_rfl) ?_
        refine qs ?_
        refine qg ?_
        refine og 3 [(0, (Value.slice A l.length c)), (3, (ptr b1)), (4, (ptr b6)), (5, (i64 ((q1 : Nat) : Int))), (8, (i64 ((q : Nat) : Int))), (31, (Value.bool false)), (43, (Value.bool true)), (90, (ptr b1)), (91, (ptr b6)), (92, (Value.pointer (some ⟨b22, 1, none⟩)))] 3 ?_
        refine Ops.go (v := (i64 x.n)) (by kernel_rfl) (Runs.load (t := 3) (a := ⟨b22, 1, none⟩) (by kernel_rfl) (H133.loads (by kernel_rfl))) (d := (some 93)) (by kernel_rfl) rfl ?_
        have hms144 : MsOk ((hearM ms x.n ⟨x.rep.why, x.rep.amount, x.rep.rows⟩).1) := (MsOk.hear hms x.n (p := ⟨x.rep.why, x.rep.amount, x.rep.rows⟩) hx.rlen)
        refine Ops.call (by kernel_rfl) (d := (some 94)) (by kernel_rfl) (alike_two _ F117 b1 b6 ((hearM ms x.n ⟨x.rep.why, x.rep.amount, x.rep.rows⟩).1) x.n hC0 hms144) ?_
        rintro _ w142 ⟨rfl, K143⟩
        refine ⟨_, _, rfl, rfl, ?_⟩
        replace K132 := K132.trans K143 (U := none_) (fun i h1 h2 => h2) (fun i h1 h2 => by exact h2)
        replace H133 := H133.keep K143 (fun h => h)
        replace H134 := H134.keep K143 (fun h => h)
        replace hC0 := TwoP.keep hC0 K143 (fun _ _ h => h)
        clear K143
        refine og 1 [(0, (Value.slice A l.length c)), (3, (ptr b1)), (4, (ptr b6)), (5, (i64 ((q1 : Nat) : Int))), (8, (i64 ((q : Nat) : Int))), (31, (Value.bool false)), (43, (Value.bool true)), (95, (Value.bool false))] 6 ?_
        refine od ?_
        refine q_else (o := .tmp 95) (by kernel_rfl) rfl ?_
        refine q_skip (by kernel_rfl) ?_
        refine qg ?_
        refine og 2 [(0, (Value.slice A l.length c)), (3, (ptr b1)), (4, (ptr b6)), (5, (i64 ((q1 : Nat) : Int))), (8, (i64 ((q : Nat) : Int))), (24, (i64 (IntKind.i64.wrap (((q1 : Nat) : Int) + 1)))), (31, (Value.bool false)), (43, (Value.bool true))] 2 ?_
        have e145 : IntKind.i64.wrap (((q1 : Nat) : Int) + 1) = ((q1 + 1 : Nat) : Int) := by rw [wrap_i64 (by omega) (by omega)]; omega
        rw [e145]
        clear e145
        refine og 1 [(0, (Value.slice A l.length c)), (3, (ptr b1)), (4, (ptr b6)), (5, (i64 ((q1 + 1 : Nat) : Int))), (8, (i64 ((q : Nat) : Int))), (31, (Value.bool false)), (43, (Value.bool true))] 3 ?_
        refine Ops.keep (R := [(0, (Value.slice A l.length c)), (3, (ptr b1)), (4, (ptr b6)), (5, (i64 ((q1 + 1 : Nat) : Int)))]) (by kernel_rfl) ?_
        refine od ?_
        exact ⟨(q1 + 1, F117, (hearM ms x.n ⟨x.rep.why, x.rep.amount, x.rep.rows⟩).1), ⟨rfl, hC0, low126, hms144, (by omega), K132⟩, (show l.length - (q1 + 1) < l.length - q1 from by omega)⟩
      ·rw [h127]
       have p146 : ((hearM ms x.n ⟨x.rep.why, x.rep.amount, x.rep.rows⟩).2) = false := h127
       refine Dr.takes (fuel' := 0) (is' := _) [11] [(0, (Value.slice A l.length c)), (3, (ptr b1)), (4, (ptr b6)), (5, (i64 ((q1 : Nat) : Int))), (6, (ptr b22)), (7, (ptr b94)), (30, (i64 x.kind)), (31, (Value.bool false)), (43, (Value.bool true)), (62, (Value.bool false))] (by kernel_rfl) rfl (by kernel_rfl) ?_
       refine Dr.done (by kernel_rfl) ?_
       refine q_else (o := .tmp 62) (by kernel_rfl) rfl ?_
       refine q_skip (by kernel_rfl) ?_
       refine qs ?_
       refine qg ?_
       refine og 1 [(0, (Value.slice A l.length c)), (3, (ptr b1)), (4, (ptr b6)), (5, (i64 ((q1 : Nat) : Int))), (6, (ptr b22)), (7, (ptr b94)), (8, (i64 0)), (30, (i64 x.kind)), (31, (Value.bool false)), (43, (Value.bool true))] 1 ?_
       refine od ?_
       refine q_block (id := 3) (by kernel_rfl) ?_
       have ob147 : ∀ i, ((Value.slice V82 x.rep.rows.length c83)).ownBlock = some i → i ≠ b22 := fun i hi => by have := ob92 i hi; omega
       have ob148 : ∀ i, ((Value.slice V82 x.rep.rows.length c83)).ownBlock = some i → i ≠ b94 := fun i hi => by have := ob101 i hi; omega
       refine q_keep (R := [(0, (Value.slice A l.length c)), (3, (ptr b1)), (4, (ptr b6)), (5, (i64 ((q1 : Nat) : Int))), (6, (ptr b22)), (7, (ptr b94)), (8, (i64 0)), (30, (i64 x.kind)), (31, (Value.bool false)), (43, (Value.bool true))]) (by kernel_rfl) ?_
       refine q_loop (fun (gs : Nat × (List RowM)) L (wx : World) => match gs with | (q, ys) => L = [(0, (Value.slice A l.length c)), (3, (ptr b1)), (4, (ptr b6)), (5, (i64 ((q1 : Nat) : Int))), (6, (ptr b22)), (7, (ptr b94)), (8, (i64 ((q : Nat) : Int))), (30, (i64 x.kind)), (31, (Value.bool false)), (43, (Value.bool true))] ∧ TwoP wx F117 b1 84 79 b6 55 87 ((hearM ms x.n ⟨x.rep.why, x.rep.amount, x.rep.rows⟩).1) ((hearM ms x.n ⟨x.rep.why, x.rep.amount, x.rep.rows⟩).1) ∧ OwnR wx w.heap.size 59 (.slice V82 ys.length c83) ys ∧ (∀ i, ((Value.slice V82 x.rep.rows.length c83)).ownBlock = some i → i ≠ b22) ∧ (∀ i, ((Value.slice V82 x.rep.rows.length c83)).ownBlock = some i → i ≠ b94) ∧ q ≤ x.rep.rows.length ∧ ys.length = x.rep.rows.length ∧ Keeps none_ w wx ∧ Has wx b22 (rowL [(i64 x.kind), (i64 x.n), (i64 x.op.kind), (Value.string (str x.op.frm)), (Value.string (str x.op.to)), (i64 x.op.amount), (Value.string (str x.op.key)), (i64 x.op.slot), (i64 x.op.shard), (i64 x.rep.why), (i64 x.rep.amount), (Value.slice x.V x.rep.rows.length x.c)] 57) ∧ Has wx b94 (rowL [(i64 x.rep.why), (i64 x.rep.amount), (Value.slice V82 x.rep.rows.length c83)] 27)) (fun (gs : Nat × (List RowM)) => match gs with | (q, ys) => x.rep.rows.length - q) (0, x.rep.rows) (by kernel_rfl) ⟨rfl, hT120, O90, ob147, ob148, Nat.zero_le _, rfl, K13, H30, H103⟩ ?_
       clear H30 H103 O90 hT120 K13
       rintro ⟨q, ys⟩ _ w149 ⟨rfl, hC0, hOV, obVb22, obVb94, hq0, hyl, K150, H151, H152⟩
       refine qs ?_
       refine qs ?_
       refine qg ?_
       refine og 2 [(0, (Value.slice A l.length c)), (3, (ptr b1)), (4, (ptr b6)), (5, (i64 ((q1 : Nat) : Int))), (6, (ptr b22)), (7, (ptr b94)), (8, (i64 ((q : Nat) : Int))), (30, (i64 x.kind)), (31, (Value.bool false)), (43, (Value.bool true)), (63, (i64 ((q : Nat) : Int))), (64, (Value.pointer (some ⟨b94, 2, none⟩)))] 2 ?_
       refine Ops.go (v := (Value.slice V82 x.rep.rows.length c83)) (by kernel_rfl) (Runs.load (t := 25) (a := ⟨b94, 2, none⟩) (by kernel_rfl) (H152.loads (by kernel_rfl))) (d := (some 65)) (by kernel_rfl) rfl ?_
       refine og 2 [(0, (Value.slice A l.length c)), (3, (ptr b1)), (4, (ptr b6)), (5, (i64 ((q1 : Nat) : Int))), (6, (ptr b22)), (7, (ptr b94)), (8, (i64 ((q : Nat) : Int))), (30, (i64 x.kind)), (31, (Value.bool false)), (43, (Value.bool true)), (67, (Value.bool (decide (((q : Nat) : Int) < ((x.rep.rows.length : Nat) : Int)))))] 5 ?_
       refine od ?_
       refine q_cond (o := .tmp 67) (b := (decide (((q : Nat) : Int) < ((x.rep.rows.length : Nat) : Int)))) (by kernel_rfl) rfl (fun h153 => ?_) (fun h153 => ?_)
       ·rw [h153]
        have p154 : ((q : Nat) : Int) < ((x.rep.rows.length : Nat) : Int) := of_decide_eq_true h153
        obtain ⟨y, hy⟩ : ∃ y, ys[q]? = some y := ⟨_, List.getElem?_eq_getElem (by omega)⟩
        obtain ⟨gb, pre, suf, hA, hgb, hp, Hg, hput⟩ := OwnT.mid RowM.two (by decide) hy hOV
        have ngb : w.heap.size ≤ gb := hgb
        have Hgl := Hg.lt
        have dgbb22 : gb ≠ b22 := obVb22 gb (by rw [hA]; rfl)
        have dgbb94 : gb ≠ b94 := obVb94 gb (by rw [hA]; rfl)
        have ogF : ∀ i, F117 i → i ≠ gb := fun i hi q => oo124 gb (by rw [hA]; rfl) (q ▸ hi)
        refine q_skip (by kernel_rfl) ?_
        refine qs ?_
        refine q_block (id := 4) (by kernel_rfl) ?_
        refine qg ?_
        refine og 1 [(0, (Value.slice A l.length c)), (3, (ptr b1)), (4, (ptr b6)), (5, (i64 ((q1 : Nat) : Int))), (6, (ptr b22)), (7, (ptr b94)), (8, (i64 ((q : Nat) : Int))), (30, (i64 x.kind)), (31, (Value.bool false)), (43, (Value.bool true)), (70, (Value.pointer (some ⟨b94, 2, none⟩)))] 1 ?_
        refine Ops.go (v := (Value.slice V82 x.rep.rows.length c83)) (by kernel_rfl) (Runs.load (t := 25) (a := ⟨b94, 2, none⟩) (by kernel_rfl) (H152.loads (by kernel_rfl))) (d := (some 71)) (by kernel_rfl) rfl ?_
        refine og 1 [(0, (Value.slice A l.length c)), (3, (ptr b1)), (4, (ptr b6)), (5, (i64 ((q1 : Nat) : Int))), (6, (ptr b22)), (7, (ptr b94)), (8, (i64 ((q : Nat) : Int))), (30, (i64 x.kind)), (31, (Value.bool false)), (43, (Value.bool true)), (71, (Value.slice V82 x.rep.rows.length c83)), (72, (i64 ((q : Nat) : Int)))] 3 ?_
        refine Ops.go (by kernel_rfl) (Runs.ixSliceE (k := IntKind.i64) (t := 25) (len := x.rep.rows.length) (cap := c83) (s := 2) (off' := q * 2) (i := ((q : Nat) : Int)) hA (by kernel_rfl) (by kernel_rfl) (by omega) (by omega) (by omega)) (d := (some 73)) (by kernel_rfl) rfl ?_
        refine og 1 [(0, (Value.slice A l.length c)), (3, (ptr b1)), (4, (ptr b6)), (5, (i64 ((q1 : Nat) : Int))), (6, (ptr b22)), (7, (ptr b94)), (8, (i64 ((q : Nat) : Int))), (30, (i64 x.kind)), (31, (Value.bool false)), (43, (Value.bool true)), (74, (Value.pointer (some ⟨gb, q * 2 + 1, none⟩)))] 5 ?_
        refine Ops.put (t := 2) (b := gb) (off := q * 2 + 1) (v := (i64 99)) (ys := (pre ++ [(Value.string (str y.name)), (i64 99)] ++ suf)) (by kernel_rfl) (by kernel_rfl) Hg (storeC1 (by kernel_rfl) (by kernel_rfl) (Nat.lt_of_lt_of_le (Nat.lt_succ_self _) (mid_len (vs := [(i64 99)]) (k := 1) (by have := hp; omega) (Nat.le_of_ble_eq_true (by kernel_rfl)))) (mid_set1 (k := 1) (by have := hp; omega) (Nat.le_of_ble_eq_true (by kernel_rfl)))) (d := none) (by kernel_rfl) rfl (fun w155 H156 K157 => ?_)
        clear Hg
        replace K150 := K150.trans K157 (U := none_) (fun i h1 h2 => h2) (fun i h1 h2 => by have h2 : i = gb := h2; exfalso; omega)
        replace H151 := H151.k1 K157 (by omega)
        replace H152 := H152.k1 K157 (by omega)
        replace hC0 := TwoP.keep hC0 K157 (fun i hi hs => by have hs : i = gb := hs; have := ogF i hi; omega)
        clear K157
        refine od ?_
        refine qg ?_
        refine og 2 [(0, (Value.slice A l.length c)), (3, (ptr b1)), (4, (ptr b6)), (5, (i64 ((q1 : Nat) : Int))), (6, (ptr b22)), (7, (ptr b94)), (8, (i64 ((q : Nat) : Int))), (30, (i64 x.kind)), (31, (Value.bool false)), (43, (Value.bool true)), (69, (i64 (IntKind.i64.wrap (((q : Nat) : Int) + 1))))] 2 ?_
        have e158 : IntKind.i64.wrap (((q : Nat) : Int) + 1) = ((q + 1 : Nat) : Int) := by rw [wrap_i64 (by omega) (by omega)]; omega
        rw [e158]
        clear e158
        refine og 1 [(0, (Value.slice A l.length c)), (3, (ptr b1)), (4, (ptr b6)), (5, (i64 ((q1 : Nat) : Int))), (6, (ptr b22)), (7, (ptr b94)), (8, (i64 ((q + 1 : Nat) : Int))), (30, (i64 x.kind)), (31, (Value.bool false)), (43, (Value.bool true))] 3 ?_
        refine Ops.keep (R := [(0, (Value.slice A l.length c)), (3, (ptr b1)), (4, (ptr b6)), (5, (i64 ((q1 : Nat) : Int))), (6, (ptr b22)), (7, (ptr b94)), (8, (i64 ((q + 1 : Nat) : Int))), (30, (i64 x.kind)), (31, (Value.bool false)), (43, (Value.bool true))]) (by kernel_rfl) ?_
        refine od ?_
        exact ⟨(q + 1, ys.set q ⟨y.name, 99⟩), ⟨rfl, hC0, (by rw [List.length_set]; exact hput ⟨y.name, 99⟩ _ H156), obVb22, obVb94, (by omega), (by rw [List.length_set]; exact hyl), K150, H151, H152⟩, (show x.rep.rows.length - (q + 1) < x.rep.rows.length - q from by omega)⟩
       ·rw [h153]
        have p159 : ¬ (((q : Nat) : Int) < ((x.rep.rows.length : Nat) : Int)) := of_decide_eq_false h153
        refine q_exit (id := 3) (by kernel_rfl) ?_
        refine qs ?_
        refine qg ?_
        refine og 3 [(0, (Value.slice A l.length c)), (3, (ptr b1)), (4, (ptr b6)), (5, (i64 ((q1 : Nat) : Int))), (8, (i64 ((q : Nat) : Int))), (31, (Value.bool false)), (43, (Value.bool true)), (90, (ptr b1)), (91, (ptr b6)), (92, (Value.pointer (some ⟨b22, 1, none⟩)))] 3 ?_
        refine Ops.go (v := (i64 x.n)) (by kernel_rfl) (Runs.load (t := 3) (a := ⟨b22, 1, none⟩) (by kernel_rfl) (H151.loads (by kernel_rfl))) (d := (some 93)) (by kernel_rfl) rfl ?_
        have hms162 : MsOk ((hearM ms x.n ⟨x.rep.why, x.rep.amount, x.rep.rows⟩).1) := (MsOk.hear hms x.n (p := ⟨x.rep.why, x.rep.amount, x.rep.rows⟩) hx.rlen)
        refine Ops.call (by kernel_rfl) (d := (some 94)) (by kernel_rfl) (alike_two _ F117 b1 b6 ((hearM ms x.n ⟨x.rep.why, x.rep.amount, x.rep.rows⟩).1) x.n hC0 hms162) ?_
        rintro _ w160 ⟨rfl, K161⟩
        refine ⟨_, _, rfl, rfl, ?_⟩
        replace K150 := K150.trans K161 (U := none_) (fun i h1 h2 => h2) (fun i h1 h2 => by exact h2)
        replace H151 := H151.keep K161 (fun h => h)
        replace H152 := H152.keep K161 (fun h => h)
        replace hC0 := TwoP.keep hC0 K161 (fun _ _ h => h)
        clear K161
        refine og 1 [(0, (Value.slice A l.length c)), (3, (ptr b1)), (4, (ptr b6)), (5, (i64 ((q1 : Nat) : Int))), (8, (i64 ((q : Nat) : Int))), (31, (Value.bool false)), (43, (Value.bool true)), (95, (Value.bool false))] 6 ?_
        refine od ?_
        refine q_else (o := .tmp 95) (by kernel_rfl) rfl ?_
        refine q_skip (by kernel_rfl) ?_
        refine qg ?_
        refine og 2 [(0, (Value.slice A l.length c)), (3, (ptr b1)), (4, (ptr b6)), (5, (i64 ((q1 : Nat) : Int))), (8, (i64 ((q : Nat) : Int))), (24, (i64 (IntKind.i64.wrap (((q1 : Nat) : Int) + 1)))), (31, (Value.bool false)), (43, (Value.bool true))] 2 ?_
        have e163 : IntKind.i64.wrap (((q1 : Nat) : Int) + 1) = ((q1 + 1 : Nat) : Int) := by rw [wrap_i64 (by omega) (by omega)]; omega
        rw [e163]
        clear e163
        refine og 1 [(0, (Value.slice A l.length c)), (3, (ptr b1)), (4, (ptr b6)), (5, (i64 ((q1 + 1 : Nat) : Int))), (8, (i64 ((q : Nat) : Int))), (31, (Value.bool false)), (43, (Value.bool true))] 3 ?_
        refine Ops.keep (R := [(0, (Value.slice A l.length c)), (3, (ptr b1)), (4, (ptr b6)), (5, (i64 ((q1 + 1 : Nat) : Int)))]) (by kernel_rfl) ?_
        refine od ?_
        exact ⟨(q1 + 1, F117, (hearM ms x.n ⟨x.rep.why, x.rep.amount, x.rep.rows⟩).1), ⟨rfl, hC0, low126, hms162, (by omega), K150⟩, (show l.length - (q1 + 1) < l.length - q1 from by omega)⟩
     ·rw [h80]
      have p164 : ¬ (x.kind = 2) := of_beq_f h80
      refine qg ?_
      refine og 2 [(0, (Value.slice A l.length c)), (3, (ptr b1)), (4, (ptr b6)), (5, (i64 ((q1 : Nat) : Int))), (6, (ptr b22)), (30, (i64 x.kind)), (31, (Value.bool false)), (43, (Value.bool (x.kind == 3)))] 2 ?_
      refine od ?_
      refine q_cond (o := .tmp 43) (b := (x.kind == 3)) (by kernel_rfl) rfl (fun h165 => ?_) (fun h165 => ?_)
      ·rw [h165]
       have p166 : x.kind = 3 := of_beq_t h165
       refine qs ?_
       refine qg ?_
       refine og 1 [(0, (Value.slice A l.length c)), (3, (ptr b1)), (4, (ptr b6)), (5, (i64 ((q1 : Nat) : Int))), (6, (ptr b22)), (30, (i64 x.kind)), (31, (Value.bool false)), (43, (Value.bool true)), (46, (Value.pointer (some ⟨b22, 9, none⟩)))] 1 ?_
       refine Ops.go (v := (agg [(i64 x.rep.why), (i64 x.rep.amount), (Value.slice x.V x.rep.rows.length x.c)])) (by kernel_rfl) (Runs.load (t := 27) (a := ⟨b22, 9, none⟩) (by kernel_rfl) (H30.loads (by kernel_rfl))) (d := (some 47)) (by kernel_rfl) rfl ?_
       refine og 1 [(0, (Value.slice A l.length c)), (3, (ptr b1)), (4, (ptr b6)), (5, (i64 ((q1 : Nat) : Int))), (6, (ptr b22)), (30, (i64 x.kind)), (31, (Value.bool false)), (43, (Value.bool true)), (48, (agg [(i64 0), (i64 0), (i64 0), (i64 0), (Value.string ByteArray.empty), (Value.string ByteArray.empty), (i64 0), (Value.string ByteArray.empty), (i64 0), (i64 0), (i64 x.rep.why), (i64 x.rep.amount), (Value.slice x.V x.rep.rows.length x.c), (Value.slice none 0 0)]))] 3 ?_
       refine Ops.call (by kernel_rfl) (d := (some 49)) (by kernel_rfl) (given_calls _ (⟨0, 0, 0, ⟨0, [], [], 0, [], 0, 0⟩, x.rep, []⟩ : LetP) x.V x.c none 0 (Rd.keep0 (by decide) hx.rows K13) (Rd.nil _ _) hx.rlen (by show (0 : Nat) ≤ _; decide)) ?_
       rintro _ w171 ⟨V167, c168, D169, dc170, rfl, K172, hR173, hB174⟩
       have ob177 : ∀ i, ((Value.slice V167 x.rep.rows.length c168)).ownBlock = some i → i ≠ b22 := fun i hi => by have := (World.ownsRow.lt hR173 i hi).1; have := H30.lt; omega
       have oo178 : ∀ i, ((Value.slice V167 x.rep.rows.length c168)).ownBlock = some i → F i → False := fun i hs hi => by have := (World.ownsRow.lt hR173 i hs).1; have := TwoP.lt hT i hi; omega
       have O175 := own_base hR173 K13.size
       have ss176 : ∀ i, F i → ((Value.slice V167 x.rep.rows.length c168)).ownBlock = some i → False := fun i h1 h2 => oo178 i h2 h1
       refine ⟨_, _, rfl, rfl, ?_⟩
       replace K13 := K13.trans K172 (U := none_) (fun i h1 h2 => h2) (fun i h1 h2 => by exact h2)
       replace H30 := H30.keep K172 (fun h => h)
       replace hT := TwoP.keep hT K172 (fun _ _ h => h)
       clear K172
       refine og 1 [(0, (Value.slice A l.length c)), (3, (ptr b1)), (4, (ptr b6)), (5, (i64 ((q1 : Nat) : Int))), (6, (ptr b22)), (30, (i64 x.kind)), (31, (Value.bool false)), (43, (Value.bool true)), (50, (agg [(i64 x.rep.why), (i64 x.rep.amount), (Value.slice V167 x.rep.rows.length c168)]))] 5 ?_
       refine Ops.new (o := rowL [(i64 0), (i64 0), (Value.slice none 0 0)] 27) (V := fun b => (ptr b)) (by kernel_rfl) (d := (some 7)) (by kernel_rfl) (fun b => rfl) (fun b179 w180 hb181 H182 K183 hs184 => ?_)
       have lb179b22 : b22 < b179 := by have := H30.lt; omega
       have nb179 : w.heap.size ≤ b179 := by have := K13.size; omega
       have of185 : ∀ i, F i → i ≠ b179 := fun i hi => by have := TwoP.lt hT i hi; omega
       have ob186 : ∀ i, ((Value.slice V167 x.rep.rows.length c168)).ownBlock = some i → i < b179 := fun i hi => by have := (World.ownsRow.lt O175 i hi).2; omega
       replace K13 := K13.trans K183 (U := none_) (fun i h1 h2 => h2) (fun i h1 h2 => by exact h2)
       replace H30 := H30.keep K183 (fun h => h)
       replace hT := TwoP.keep hT K183 (fun _ _ h => h)
       replace O175 := own_keep0 O175 K183
       clear K183 hs184
       refine Ops.put (t := 27) (b := b179) (off := 0) (v := (agg [(i64 x.rep.why), (i64 x.rep.amount), (Value.slice V167 x.rep.rows.length c168)])) (ys := [(i64 x.rep.why), (i64 x.rep.amount), (Value.slice V167 x.rep.rows.length c168)]) (by kernel_rfl) (by kernel_rfl) H182 (by kernel_rfl) (d := none) (by kernel_rfl) rfl (fun w187 H188 K189 => ?_)
       clear H182
       replace K13 := K13.trans K189 (U := none_) (fun i h1 h2 => h2) (fun i h1 h2 => by have h2 : i = b179 := h2; exfalso; omega)
       replace H30 := H30.k1 K189 (by omega)
       replace hT := TwoP.keep hT K189 (fun i hi hs => by have hs : i = b179 := hs; have := of185 i hi; omega)
       replace O175 := own_keep O175 K189 (fun i hi => by have := ob186 i hi; omega)
       clear K189
       refine od ?_
       refine qs ?_
       refine qs ?_
       refine q_draw (fun wz => Keeps (fun i => F i) w187 wz) 12 (by kernel_rfl) (by kernel_rfl) (by kernel_rfl) (fun w190 K191 _ _ => ⟨(K191.mono (fun _ _ h => h.elim)), ?_⟩)
       replace K13 := K13.trans K191 (U := none_) (fun i h1 h2 => h2) (fun i h1 h2 => by exact h2)
       replace H30 := H30.keep K191 (fun h => h)
       replace H188 := H188.keep K191 (fun h => h)
       replace hT := TwoP.keep hT K191 (fun _ _ h => h)
       replace O175 := own_keep0 O175 K191
       refine Dr.strong (S' := (fun wz => Keeps (fun i => F i) w190 wz)) ((Keeps.refl w190).mono (fun _ _ h => h.elim)) (fun wz hx => K191.trans hx (fun i _ h => h.elim) (fun _ _ h => h)) ?_
       clear K191
       refine Dr.takes (fuel' := 10) (is' := _) [0, 1] [(0, (Value.slice A l.length c)), (3, (ptr b1)), (4, (ptr b6)), (5, (i64 ((q1 : Nat) : Int))), (6, (ptr b22)), (7, (ptr b179)), (30, (i64 x.kind)), (31, (Value.bool false)), (43, (Value.bool true)), (51, (ptr b1)), (52, (Value.pointer (some ⟨b22, 1, none⟩)))] (by kernel_rfl) rfl (by kernel_rfl) ?_
       refine Dr.take (i := 2) (v := (i64 x.n)) (by kernel_rfl) (by kernel_rfl) (fun wz hS => Runs.load (t := 3) (a := ⟨b22, 1, none⟩) (by kernel_rfl) ((H30.keep hS (by intro h; change F b22 at h; have := of28 b22 h; omega)).loads (by kernel_rfl))) (d := (some 53)) (by kernel_rfl) rfl ?_
       refine Dr.take (i := 3) (v := (agg [(i64 x.rep.why), (i64 x.rep.amount), (Value.slice V167 x.rep.rows.length c168)])) (by kernel_rfl) (by kernel_rfl) (fun wz hS => Runs.load (t := 27) (a := ⟨b179, 0, none⟩) (by kernel_rfl) ((H188.keep hS (by intro h; change F b179 at h; have := of185 b179 h; omega)).loads (by kernel_rfl))) (d := (some 54)) (by kernel_rfl) rfl ?_
       refine Dr.takes (fuel' := 6) (is' := _) [5, 6] [(0, (Value.slice A l.length c)), (3, (ptr b1)), (4, (ptr b6)), (5, (i64 ((q1 : Nat) : Int))), (6, (ptr b22)), (7, (ptr b179)), (30, (i64 x.kind)), (31, (Value.bool false)), (43, (Value.bool true)), (51, (ptr b1)), (53, (i64 x.n)), (54, (agg [(i64 x.rep.why), (i64 x.rep.amount), (Value.slice V167 x.rep.rows.length c168)])), (56, (ptr b6)), (57, (Value.pointer (some ⟨b22, 1, none⟩)))] (by kernel_rfl) rfl (by kernel_rfl) ?_
       refine Dr.take (i := 7) (v := (i64 x.n)) (by kernel_rfl) (by kernel_rfl) (fun wz hS => Runs.load (t := 3) (a := ⟨b22, 1, none⟩) (by kernel_rfl) ((H30.keep hS (by intro h; change F b22 at h; have := of28 b22 h; omega)).loads (by kernel_rfl))) (d := (some 58)) (by kernel_rfl) rfl ?_
       refine Dr.takes (fuel' := 4) (is' := _) [8] [(0, (Value.slice A l.length c)), (3, (ptr b1)), (4, (ptr b6)), (5, (i64 ((q1 : Nat) : Int))), (6, (ptr b22)), (7, (ptr b179)), (30, (i64 x.kind)), (31, (Value.bool false)), (43, (Value.bool true)), (51, (ptr b1)), (53, (i64 x.n)), (54, (agg [(i64 x.rep.why), (i64 x.rep.amount), (Value.slice V167 x.rep.rows.length c168)])), (56, (ptr b6)), (58, (i64 x.n)), (59, (Value.pointer (some ⟨b22, 9, none⟩)))] (by kernel_rfl) rfl (by kernel_rfl) ?_
       refine Dr.take (i := 9) (v := (agg [(i64 x.rep.why), (i64 x.rep.amount), (Value.slice x.V x.rep.rows.length x.c)])) (by kernel_rfl) (by kernel_rfl) (fun wz hS => Runs.load (t := 27) (a := ⟨b22, 9, none⟩) (by kernel_rfl) ((H30.keep hS (by intro h; change F b22 at h; have := of28 b22 h; omega)).loads (by kernel_rfl))) (d := (some 60)) (by kernel_rfl) rfl ?_
       refine Dr.call (i := 4) (by kernel_rfl) (by kernel_rfl) (d := (some 55)) (by kernel_rfl) (fun _ => HearP_two _ F b1 b6 ms ms x.n x.rep.why x.rep.amount V167 c168 x.rep.rows hT (OwnT.rd O175) (fun _ i hi hf => oo178 i hi hf) hx.rlen) ?_
       rintro _ w193 ⟨F192, rfl, K194, hT195, hg196⟩
       have of197 : ∀ i, F192 i → i ≠ b22 := fun i hi => (hg196 i hi).elim (fun h => by have := of28 i h; omega) (fun h => by have := H30.lt; omega)
       have of198 : ∀ i, F192 i → i ≠ b179 := fun i hi => (hg196 i hi).elim (fun h => by have := of185 i h; omega) (fun h => by have := H188.lt; omega)
       have oo199 : ∀ i, ((Value.slice V167 x.rep.rows.length c168)).ownBlock = some i → F192 i → False := fun i hs hi => (hg196 i hi).elim (fun h => oo178 i hs h) (fun h => by have := (World.ownsRow.lt O175 i hs).2; omega)
       have ss200 : ∀ i, F192 i → ((Value.slice V167 x.rep.rows.length c168)).ownBlock = some i → False := fun i h1 h2 => oo199 i h2 h1
       have low201 : ∀ i, F192 i → w.heap.size ≤ i := fun i hi => (hg196 i hi).elim (fun h => hlow i h) (fun h => Nat.le_trans K13.size h)
       replace K13 := K13.trans K194 (U := none_) (fun i h1 h2 => h2) (fun i h1 h2 => by have h2 : F i := h2; exfalso; have := hlow i h2; omega)
       replace H30 := H30.keep K194 (by intro h; change F b22 at h; have := of28 b22 h; omega)
       replace H188 := H188.keep K194 (by intro h; change F b179 at h; have := of185 b179 h; omega)
       clear hT
       replace O175 := own_keep O175 K194 (fun i hi hs => by have hs : F i := hs; exact ss176 i hs hi)
       refine ⟨_, _, rfl, rfl, K194, ?_⟩
       refine Dr.strong (S' := (fun wz => Keeps (fun i => F192 i) w193 wz)) ((Keeps.refl w193).mono (fun _ _ h => h.elim)) (fun wz hx => K194.trans hx (U := (fun i => F i)) (fun i _ h => h) (fun i hi h => (hg196 i h).elim (fun h => h) (fun q => by exfalso; omega))) ?_
       clear K194
       refine Dr.call (i := 10) (by kernel_rfl) (by kernel_rfl) (d := (some 61)) (by kernel_rfl) (fun _ => HearR_two _ F192 b1 b6 ((hearM ms x.n ⟨x.rep.why, x.rep.amount, x.rep.rows⟩).1) ms x.n x.rep.why x.rep.amount x.V x.c x.rep.rows hT195 (Rd.keep0 (by decide) hx.rows K13) (fun hn i hi hf => by have z1 := RdR.blk_lt hx.rows hn i hi; have z2 := low201 i hf; omega) hx.rlen) ?_
       rintro _ w203 ⟨F202, rfl, K204, hT205, hg206⟩
       have of207 : ∀ i, F202 i → i ≠ b22 := fun i hi => (hg206 i hi).elim (fun h => by have := of197 i h; omega) (fun h => by have := H30.lt; omega)
       have of208 : ∀ i, F202 i → i ≠ b179 := fun i hi => (hg206 i hi).elim (fun h => by have := of198 i h; omega) (fun h => by have := H188.lt; omega)
       have oo209 : ∀ i, ((Value.slice V167 x.rep.rows.length c168)).ownBlock = some i → F202 i → False := fun i hs hi => (hg206 i hi).elim (fun h => oo199 i hs h) (fun h => by have := (World.ownsRow.lt O175 i hs).2; omega)
       have ss210 : ∀ i, F202 i → ((Value.slice V167 x.rep.rows.length c168)).ownBlock = some i → False := fun i h1 h2 => oo209 i h2 h1
       have low211 : ∀ i, F202 i → w.heap.size ≤ i := fun i hi => (hg206 i hi).elim (fun h => low201 i h) (fun h => Nat.le_trans K13.size h)
       replace K13 := K13.trans K204 (U := none_) (fun i h1 h2 => h2) (fun i h1 h2 => by have h2 : F192 i := h2; exfalso; have := low201 i h2; omega)
       replace H30 := H30.keep K204 (by intro h; change F192 b22 at h; have := of197 b22 h; omega)
       replace H188 := H188.keep K204 (by intro h; change F192 b179 at h; have := of198 b179 h; omega)
       replace O175 := own_keep O175 K204 (fun i hi hs => by have hs : F192 i := hs; exact ss200 i hs hi)
       clear hT195
       refine ⟨_, _, rfl, rfl, K204, ?_⟩
       refine Dr.strong (S' := (fun wz => Keeps (fun i => F202 i) w203 wz)) ((Keeps.refl w203).mono (fun _ _ h => h.elim)) (fun wz hx => K204.trans hx (U := (fun i => F192 i)) (fun i _ h => h) (fun i hi h => (hg206 i h).elim (fun h => h) (fun q => by exfalso; omega))) ?_
       clear K204
       refine Dr.split ((hearM ms x.n ⟨x.rep.why, x.rep.amount, x.rep.rows⟩).2) (fun h212 => ?_) (fun h212 => ?_)
       ·rw [h212]
        have p213 : ((hearM ms x.n ⟨x.rep.why, x.rep.amount, x.rep.rows⟩).2) = true := h212
        refine Dr.takes (fuel' := 0) (is' := _) [11] [(0, (Value.slice A l.length c)), (3, (ptr b1)), (4, (ptr b6)), (5, (i64 ((q1 : Nat) : Int))), (6, (ptr b22)), (7, (ptr b179)), (30, (i64 x.kind)), (31, (Value.bool false)), (43, (Value.bool true)), (62, (Value.bool false))] (by kernel_rfl) rfl (by kernel_rfl) ?_
        refine Dr.done (by kernel_rfl) ?_
        refine q_else (o := .tmp 62) (by kernel_rfl) rfl ?_
        refine q_skip (by kernel_rfl) ?_
        refine qs ?_
        refine qg ?_
        refine og 1 [(0, (Value.slice A l.length c)), (3, (ptr b1)), (4, (ptr b6)), (5, (i64 ((q1 : Nat) : Int))), (6, (ptr b22)), (7, (ptr b179)), (8, (i64 0)), (30, (i64 x.kind)), (31, (Value.bool false)), (43, (Value.bool true))] 1 ?_
        refine od ?_
        refine q_block (id := 3) (by kernel_rfl) ?_
        have ob214 : ∀ i, ((Value.slice V167 x.rep.rows.length c168)).ownBlock = some i → i ≠ b22 := fun i hi => by have := ob177 i hi; omega
        have ob215 : ∀ i, ((Value.slice V167 x.rep.rows.length c168)).ownBlock = some i → i ≠ b179 := fun i hi => by have := ob186 i hi; omega
        refine q_keep (R := [(0, (Value.slice A l.length c)), (3, (ptr b1)), (4, (ptr b6)), (5, (i64 ((q1 : Nat) : Int))), (6, (ptr b22)), (7, (ptr b179)), (8, (i64 0)), (30, (i64 x.kind)), (31, (Value.bool false)), (43, (Value.bool true))]) (by kernel_rfl) ?_
        refine q_loop (fun (gs : Nat × (List RowM)) L (wx : World) => match gs with | (q, ys) => L = [(0, (Value.slice A l.length c)), (3, (ptr b1)), (4, (ptr b6)), (5, (i64 ((q1 : Nat) : Int))), (6, (ptr b22)), (7, (ptr b179)), (8, (i64 ((q : Nat) : Int))), (30, (i64 x.kind)), (31, (Value.bool false)), (43, (Value.bool true))] ∧ TwoP wx F202 b1 84 79 b6 55 87 ((hearM ms x.n ⟨x.rep.why, x.rep.amount, x.rep.rows⟩).1) ((hearM ms x.n ⟨x.rep.why, x.rep.amount, x.rep.rows⟩).1) ∧ OwnR wx w.heap.size 59 (.slice V167 ys.length c168) ys ∧ (∀ i, ((Value.slice V167 x.rep.rows.length c168)).ownBlock = some i → i ≠ b22) ∧ (∀ i, ((Value.slice V167 x.rep.rows.length c168)).ownBlock = some i → i ≠ b179) ∧ q ≤ x.rep.rows.length ∧ ys.length = x.rep.rows.length ∧ Keeps none_ w wx ∧ Has wx b22 (rowL [(i64 x.kind), (i64 x.n), (i64 x.op.kind), (Value.string (str x.op.frm)), (Value.string (str x.op.to)), (i64 x.op.amount), (Value.string (str x.op.key)), (i64 x.op.slot), (i64 x.op.shard), (i64 x.rep.why), (i64 x.rep.amount), (Value.slice x.V x.rep.rows.length x.c)] 57) ∧ Has wx b179 (rowL [(i64 x.rep.why), (i64 x.rep.amount), (Value.slice V167 x.rep.rows.length c168)] 27)) (fun (gs : Nat × (List RowM)) => match gs with | (q, ys) => x.rep.rows.length - q) (0, x.rep.rows) (by kernel_rfl) ⟨rfl, hT205, O175, ob214, ob215, Nat.zero_le _, rfl, K13, H30, H188⟩ ?_
        clear H30 H188 O175 hT205 K13
        rintro ⟨q, ys⟩ _ w216 ⟨rfl, hC0, hOV, obVb22, obVb179, hq0, hyl, K217, H218, H219⟩
        refine qs ?_
        refine qs ?_
        refine qg ?_
        refine og 2 [(0, (Value.slice A l.length c)), (3, (ptr b1)), (4, (ptr b6)), (5, (i64 ((q1 : Nat) : Int))), (6, (ptr b22)), (7, (ptr b179)), (8, (i64 ((q : Nat) : Int))), (30, (i64 x.kind)), (31, (Value.bool false)), (43, (Value.bool true)), (63, (i64 ((q : Nat) : Int))), (64, (Value.pointer (some ⟨b179, 2, none⟩)))] 2 ?_
        refine Ops.go (v := (Value.slice V167 x.rep.rows.length c168)) (by kernel_rfl) (Runs.load (t := 25) (a := ⟨b179, 2, none⟩) (by kernel_rfl) (H219.loads (by kernel_rfl))) (d := (some 65)) (by kernel_rfl) rfl ?_
        refine og 2 [(0, (Value.slice A l.length c)), (3, (ptr b1)), (4, (ptr b6)), (5, (i64 ((q1 : Nat) : Int))), (6, (ptr b22)), (7, (ptr b179)), (8, (i64 ((q : Nat) : Int))), (30, (i64 x.kind)), (31, (Value.bool false)), (43, (Value.bool true)), (67, (Value.bool (decide (((q : Nat) : Int) < ((x.rep.rows.length : Nat) : Int)))))] 5 ?_
        refine od ?_
        refine q_cond (o := .tmp 67) (b := (decide (((q : Nat) : Int) < ((x.rep.rows.length : Nat) : Int)))) (by kernel_rfl) rfl (fun h220 => ?_) (fun h220 => ?_)
        ·rw [h220]
         have p221 : ((q : Nat) : Int) < ((x.rep.rows.length : Nat) : Int) := of_decide_eq_true h220
         obtain ⟨y, hy⟩ : ∃ y, ys[q]? = some y := ⟨_, List.getElem?_eq_getElem (by omega)⟩
         obtain ⟨gb, pre, suf, hA, hgb, hp, Hg, hput⟩ := OwnT.mid RowM.two (by decide) hy hOV
         have ngb : w.heap.size ≤ gb := hgb
         have Hgl := Hg.lt
         have dgbb22 : gb ≠ b22 := obVb22 gb (by rw [hA]; rfl)
         have dgbb179 : gb ≠ b179 := obVb179 gb (by rw [hA]; rfl)
         have ogF : ∀ i, F202 i → i ≠ gb := fun i hi q => oo209 gb (by rw [hA]; rfl) (q ▸ hi)
         refine q_skip (by kernel_rfl) ?_
         refine qs ?_
         refine q_block (id := 4) (by kernel_rfl) ?_
         refine qg ?_
         refine og 1 [(0, (Value.slice A l.length c)), (3, (ptr b1)), (4, (ptr b6)), (5, (i64 ((q1 : Nat) : Int))), (6, (ptr b22)), (7, (ptr b179)), (8, (i64 ((q : Nat) : Int))), (30, (i64 x.kind)), (31, (Value.bool false)), (43, (Value.bool true)), (70, (Value.pointer (some ⟨b179, 2, none⟩)))] 1 ?_
         refine Ops.go (v := (Value.slice V167 x.rep.rows.length c168)) (by kernel_rfl) (Runs.load (t := 25) (a := ⟨b179, 2, none⟩) (by kernel_rfl) (H219.loads (by kernel_rfl))) (d := (some 71)) (by kernel_rfl) rfl ?_
         refine og 1 [(0, (Value.slice A l.length c)), (3, (ptr b1)), (4, (ptr b6)), (5, (i64 ((q1 : Nat) : Int))), (6, (ptr b22)), (7, (ptr b179)), (8, (i64 ((q : Nat) : Int))), (30, (i64 x.kind)), (31, (Value.bool false)), (43, (Value.bool true)), (71, (Value.slice V167 x.rep.rows.length c168)), (72, (i64 ((q : Nat) : Int)))] 3 ?_
         refine Ops.go (by kernel_rfl) (Runs.ixSliceE (k := IntKind.i64) (t := 25) (len := x.rep.rows.length) (cap := c168) (s := 2) (off' := q * 2) (i := ((q : Nat) : Int)) hA (by kernel_rfl) (by kernel_rfl) (by omega) (by omega) (by omega)) (d := (some 73)) (by kernel_rfl) rfl ?_
         refine og 1 [(0, (Value.slice A l.length c)), (3, (ptr b1)), (4, (ptr b6)), (5, (i64 ((q1 : Nat) : Int))), (6, (ptr b22)), (7, (ptr b179)), (8, (i64 ((q : Nat) : Int))), (30, (i64 x.kind)), (31, (Value.bool false)), (43, (Value.bool true)), (74, (Value.pointer (some ⟨gb, q * 2 + 1, none⟩)))] 5 ?_
         refine Ops.put (t := 2) (b := gb) (off := q * 2 + 1) (v := (i64 99)) (ys := (pre ++ [(Value.string (str y.name)), (i64 99)] ++ suf)) (by kernel_rfl) (by kernel_rfl) Hg (storeC1 (by kernel_rfl) (by kernel_rfl) (Nat.lt_of_lt_of_le (Nat.lt_succ_self _) (mid_len (vs := [(i64 99)]) (k := 1) (by have := hp; omega) (Nat.le_of_ble_eq_true (by kernel_rfl)))) (mid_set1 (k := 1) (by have := hp; omega) (Nat.le_of_ble_eq_true (by kernel_rfl)))) (d := none) (by kernel_rfl) rfl (fun w222 H223 K224 => ?_)
         clear Hg
         replace K217 := K217.trans K224 (U := none_) (fun i h1 h2 => h2) (fun i h1 h2 => by have h2 : i = gb := h2; exfalso; omega)
         replace H218 := H218.k1 K224 (by omega)
         replace H219 := H219.k1 K224 (by omega)
         replace hC0 := TwoP.keep hC0 K224 (fun i hi hs => by have hs : i = gb := hs; have := ogF i hi; omega)
         clear K224
         refine od ?_
         refine qg ?_
         refine og 2 [(0, (Value.slice A l.length c)), (3, (ptr b1)), (4, (ptr b6)), (5, (i64 ((q1 : Nat) : Int))), (6, (ptr b22)), (7, (ptr b179)), (8, (i64 ((q : Nat) : Int))), (30, (i64 x.kind)), (31, (Value.bool false)), (43, (Value.bool true)), (69, (i64 (IntKind.i64.wrap (((q : Nat) : Int) + 1))))] 2 ?_
         have e225 : IntKind.i64.wrap (((q : Nat) : Int) + 1) = ((q + 1 : Nat) : Int) := by rw [wrap_i64 (by omega) (by omega)]; omega
         rw [e225]
         clear e225
         refine og 1 [(0, (Value.slice A l.length c)), (3, (ptr b1)), (4, (ptr b6)), (5, (i64 ((q1 : Nat) : Int))), (6, (ptr b22)), (7, (ptr b179)), (8, (i64 ((q + 1 : Nat) : Int))), (30, (i64 x.kind)), (31, (Value.bool false)), (43, (Value.bool true))] 3 ?_
         refine Ops.keep (R := [(0, (Value.slice A l.length c)), (3, (ptr b1)), (4, (ptr b6)), (5, (i64 ((q1 : Nat) : Int))), (6, (ptr b22)), (7, (ptr b179)), (8, (i64 ((q + 1 : Nat) : Int))), (30, (i64 x.kind)), (31, (Value.bool false)), (43, (Value.bool true))]) (by kernel_rfl) ?_
         refine od ?_
         exact ⟨(q + 1, ys.set q ⟨y.name, 99⟩), ⟨rfl, hC0, (by rw [List.length_set]; exact hput ⟨y.name, 99⟩ _ H223), obVb22, obVb179, (by omega), (by rw [List.length_set]; exact hyl), K217, H218, H219⟩, (show x.rep.rows.length - (q + 1) < x.rep.rows.length - q from by omega)⟩
        ·rw [h220]
         have p226 : ¬ (((q : Nat) : Int) < ((x.rep.rows.length : Nat) : Int)) := of_decide_eq_false h220
         refine q_exit (id := 3) (by kernel_rfl) ?_
         refine qs ?_
         refine qg ?_
         refine og 3 [(0, (Value.slice A l.length c)), (3, (ptr b1)), (4, (ptr b6)), (5, (i64 ((q1 : Nat) : Int))), (8, (i64 ((q : Nat) : Int))), (31, (Value.bool false)), (43, (Value.bool true)), (90, (ptr b1)), (91, (ptr b6)), (92, (Value.pointer (some ⟨b22, 1, none⟩)))] 3 ?_
         refine Ops.go (v := (i64 x.n)) (by kernel_rfl) (Runs.load (t := 3) (a := ⟨b22, 1, none⟩) (by kernel_rfl) (H218.loads (by kernel_rfl))) (d := (some 93)) (by kernel_rfl) rfl ?_
         have hms229 : MsOk ((hearM ms x.n ⟨x.rep.why, x.rep.amount, x.rep.rows⟩).1) := (MsOk.hear hms x.n (p := ⟨x.rep.why, x.rep.amount, x.rep.rows⟩) hx.rlen)
         refine Ops.call (by kernel_rfl) (d := (some 94)) (by kernel_rfl) (alike_two _ F202 b1 b6 ((hearM ms x.n ⟨x.rep.why, x.rep.amount, x.rep.rows⟩).1) x.n hC0 hms229) ?_
         rintro _ w227 ⟨rfl, K228⟩
         refine ⟨_, _, rfl, rfl, ?_⟩
         replace K217 := K217.trans K228 (U := none_) (fun i h1 h2 => h2) (fun i h1 h2 => by exact h2)
         replace H218 := H218.keep K228 (fun h => h)
         replace H219 := H219.keep K228 (fun h => h)
         replace hC0 := TwoP.keep hC0 K228 (fun _ _ h => h)
         clear K228
         refine og 1 [(0, (Value.slice A l.length c)), (3, (ptr b1)), (4, (ptr b6)), (5, (i64 ((q1 : Nat) : Int))), (8, (i64 ((q : Nat) : Int))), (31, (Value.bool false)), (43, (Value.bool true)), (95, (Value.bool false))] 6 ?_
         refine od ?_
         refine q_else (o := .tmp 95) (by kernel_rfl) rfl ?_
         refine q_skip (by kernel_rfl) ?_
         refine qg ?_
         refine og 2 [(0, (Value.slice A l.length c)), (3, (ptr b1)), (4, (ptr b6)), (5, (i64 ((q1 : Nat) : Int))), (8, (i64 ((q : Nat) : Int))), (24, (i64 (IntKind.i64.wrap (((q1 : Nat) : Int) + 1)))), (31, (Value.bool false)), (43, (Value.bool true))] 2 ?_
         have e230 : IntKind.i64.wrap (((q1 : Nat) : Int) + 1) = ((q1 + 1 : Nat) : Int) := by rw [wrap_i64 (by omega) (by omega)]; omega
         rw [e230]
         clear e230
         refine og 1 [(0, (Value.slice A l.length c)), (3, (ptr b1)), (4, (ptr b6)), (5, (i64 ((q1 + 1 : Nat) : Int))), (8, (i64 ((q : Nat) : Int))), (31, (Value.bool false)), (43, (Value.bool true))] 3 ?_
         refine Ops.keep (R := [(0, (Value.slice A l.length c)), (3, (ptr b1)), (4, (ptr b6)), (5, (i64 ((q1 + 1 : Nat) : Int)))]) (by kernel_rfl) ?_
         refine od ?_
         exact ⟨(q1 + 1, F202, (hearM ms x.n ⟨x.rep.why, x.rep.amount, x.rep.rows⟩).1), ⟨rfl, hC0, low211, hms229, (by omega), K217⟩, (show l.length - (q1 + 1) < l.length - q1 from by omega)⟩
       ·rw [h212]
        have p231 : ((hearM ms x.n ⟨x.rep.why, x.rep.amount, x.rep.rows⟩).2) = false := h212
        refine Dr.takes (fuel' := 0) (is' := _) [11] [(0, (Value.slice A l.length c)), (3, (ptr b1)), (4, (ptr b6)), (5, (i64 ((q1 : Nat) : Int))), (6, (ptr b22)), (7, (ptr b179)), (30, (i64 x.kind)), (31, (Value.bool false)), (43, (Value.bool true)), (62, (Value.bool false))] (by kernel_rfl) rfl (by kernel_rfl) ?_
        refine Dr.done (by kernel_rfl) ?_
        refine q_else (o := .tmp 62) (by kernel_rfl) rfl ?_
        refine q_skip (by kernel_rfl) ?_
        refine qs ?_
        refine qg ?_
        refine og 1 [(0, (Value.slice A l.length c)), (3, (ptr b1)), (4, (ptr b6)), (5, (i64 ((q1 : Nat) : Int))), (6, (ptr b22)), (7, (ptr b179)), (8, (i64 0)), (30, (i64 x.kind)), (31, (Value.bool false)), (43, (Value.bool true))] 1 ?_
        refine od ?_
        refine q_block (id := 3) (by kernel_rfl) ?_
        have ob232 : ∀ i, ((Value.slice V167 x.rep.rows.length c168)).ownBlock = some i → i ≠ b22 := fun i hi => by have := ob177 i hi; omega
        have ob233 : ∀ i, ((Value.slice V167 x.rep.rows.length c168)).ownBlock = some i → i ≠ b179 := fun i hi => by have := ob186 i hi; omega
        refine q_keep (R := [(0, (Value.slice A l.length c)), (3, (ptr b1)), (4, (ptr b6)), (5, (i64 ((q1 : Nat) : Int))), (6, (ptr b22)), (7, (ptr b179)), (8, (i64 0)), (30, (i64 x.kind)), (31, (Value.bool false)), (43, (Value.bool true))]) (by kernel_rfl) ?_
        refine q_loop (fun (gs : Nat × (List RowM)) L (wx : World) => match gs with | (q, ys) => L = [(0, (Value.slice A l.length c)), (3, (ptr b1)), (4, (ptr b6)), (5, (i64 ((q1 : Nat) : Int))), (6, (ptr b22)), (7, (ptr b179)), (8, (i64 ((q : Nat) : Int))), (30, (i64 x.kind)), (31, (Value.bool false)), (43, (Value.bool true))] ∧ TwoP wx F202 b1 84 79 b6 55 87 ((hearM ms x.n ⟨x.rep.why, x.rep.amount, x.rep.rows⟩).1) ((hearM ms x.n ⟨x.rep.why, x.rep.amount, x.rep.rows⟩).1) ∧ OwnR wx w.heap.size 59 (.slice V167 ys.length c168) ys ∧ (∀ i, ((Value.slice V167 x.rep.rows.length c168)).ownBlock = some i → i ≠ b22) ∧ (∀ i, ((Value.slice V167 x.rep.rows.length c168)).ownBlock = some i → i ≠ b179) ∧ q ≤ x.rep.rows.length ∧ ys.length = x.rep.rows.length ∧ Keeps none_ w wx ∧ Has wx b22 (rowL [(i64 x.kind), (i64 x.n), (i64 x.op.kind), (Value.string (str x.op.frm)), (Value.string (str x.op.to)), (i64 x.op.amount), (Value.string (str x.op.key)), (i64 x.op.slot), (i64 x.op.shard), (i64 x.rep.why), (i64 x.rep.amount), (Value.slice x.V x.rep.rows.length x.c)] 57) ∧ Has wx b179 (rowL [(i64 x.rep.why), (i64 x.rep.amount), (Value.slice V167 x.rep.rows.length c168)] 27)) (fun (gs : Nat × (List RowM)) => match gs with | (q, ys) => x.rep.rows.length - q) (0, x.rep.rows) (by kernel_rfl) ⟨rfl, hT205, O175, ob232, ob233, Nat.zero_le _, rfl, K13, H30, H188⟩ ?_
        clear H30 H188 O175 hT205 K13
        rintro ⟨q, ys⟩ _ w234 ⟨rfl, hC0, hOV, obVb22, obVb179, hq0, hyl, K235, H236, H237⟩
        refine qs ?_
        refine qs ?_
        refine qg ?_
        refine og 2 [(0, (Value.slice A l.length c)), (3, (ptr b1)), (4, (ptr b6)), (5, (i64 ((q1 : Nat) : Int))), (6, (ptr b22)), (7, (ptr b179)), (8, (i64 ((q : Nat) : Int))), (30, (i64 x.kind)), (31, (Value.bool false)), (43, (Value.bool true)), (63, (i64 ((q : Nat) : Int))), (64, (Value.pointer (some ⟨b179, 2, none⟩)))] 2 ?_
        refine Ops.go (v := (Value.slice V167 x.rep.rows.length c168)) (by kernel_rfl) (Runs.load (t := 25) (a := ⟨b179, 2, none⟩) (by kernel_rfl) (H237.loads (by kernel_rfl))) (d := (some 65)) (by kernel_rfl) rfl ?_
        refine og 2 [(0, (Value.slice A l.length c)), (3, (ptr b1)), (4, (ptr b6)), (5, (i64 ((q1 : Nat) : Int))), (6, (ptr b22)), (7, (ptr b179)), (8, (i64 ((q : Nat) : Int))), (30, (i64 x.kind)), (31, (Value.bool false)), (43, (Value.bool true)), (67, (Value.bool (decide (((q : Nat) : Int) < ((x.rep.rows.length : Nat) : Int)))))] 5 ?_
        refine od ?_
        refine q_cond (o := .tmp 67) (b := (decide (((q : Nat) : Int) < ((x.rep.rows.length : Nat) : Int)))) (by kernel_rfl) rfl (fun h238 => ?_) (fun h238 => ?_)
        ·rw [h238]
         have p239 : ((q : Nat) : Int) < ((x.rep.rows.length : Nat) : Int) := of_decide_eq_true h238
         obtain ⟨y, hy⟩ : ∃ y, ys[q]? = some y := ⟨_, List.getElem?_eq_getElem (by omega)⟩
         obtain ⟨gb, pre, suf, hA, hgb, hp, Hg, hput⟩ := OwnT.mid RowM.two (by decide) hy hOV
         have ngb : w.heap.size ≤ gb := hgb
         have Hgl := Hg.lt
         have dgbb22 : gb ≠ b22 := obVb22 gb (by rw [hA]; rfl)
         have dgbb179 : gb ≠ b179 := obVb179 gb (by rw [hA]; rfl)
         have ogF : ∀ i, F202 i → i ≠ gb := fun i hi q => oo209 gb (by rw [hA]; rfl) (q ▸ hi)
         refine q_skip (by kernel_rfl) ?_
         refine qs ?_
         refine q_block (id := 4) (by kernel_rfl) ?_
         refine qg ?_
         refine og 1 [(0, (Value.slice A l.length c)), (3, (ptr b1)), (4, (ptr b6)), (5, (i64 ((q1 : Nat) : Int))), (6, (ptr b22)), (7, (ptr b179)), (8, (i64 ((q : Nat) : Int))), (30, (i64 x.kind)), (31, (Value.bool false)), (43, (Value.bool true)), (70, (Value.pointer (some ⟨b179, 2, none⟩)))] 1 ?_
         refine Ops.go (v := (Value.slice V167 x.rep.rows.length c168)) (by kernel_rfl) (Runs.load (t := 25) (a := ⟨b179, 2, none⟩) (by kernel_rfl) (H237.loads (by kernel_rfl))) (d := (some 71)) (by kernel_rfl) rfl ?_
         refine og 1 [(0, (Value.slice A l.length c)), (3, (ptr b1)), (4, (ptr b6)), (5, (i64 ((q1 : Nat) : Int))), (6, (ptr b22)), (7, (ptr b179)), (8, (i64 ((q : Nat) : Int))), (30, (i64 x.kind)), (31, (Value.bool false)), (43, (Value.bool true)), (71, (Value.slice V167 x.rep.rows.length c168)), (72, (i64 ((q : Nat) : Int)))] 3 ?_
         refine Ops.go (by kernel_rfl) (Runs.ixSliceE (k := IntKind.i64) (t := 25) (len := x.rep.rows.length) (cap := c168) (s := 2) (off' := q * 2) (i := ((q : Nat) : Int)) hA (by kernel_rfl) (by kernel_rfl) (by omega) (by omega) (by omega)) (d := (some 73)) (by kernel_rfl) rfl ?_
         refine og 1 [(0, (Value.slice A l.length c)), (3, (ptr b1)), (4, (ptr b6)), (5, (i64 ((q1 : Nat) : Int))), (6, (ptr b22)), (7, (ptr b179)), (8, (i64 ((q : Nat) : Int))), (30, (i64 x.kind)), (31, (Value.bool false)), (43, (Value.bool true)), (74, (Value.pointer (some ⟨gb, q * 2 + 1, none⟩)))] 5 ?_
         refine Ops.put (t := 2) (b := gb) (off := q * 2 + 1) (v := (i64 99)) (ys := (pre ++ [(Value.string (str y.name)), (i64 99)] ++ suf)) (by kernel_rfl) (by kernel_rfl) Hg (storeC1 (by kernel_rfl) (by kernel_rfl) (Nat.lt_of_lt_of_le (Nat.lt_succ_self _) (mid_len (vs := [(i64 99)]) (k := 1) (by have := hp; omega) (Nat.le_of_ble_eq_true (by kernel_rfl)))) (mid_set1 (k := 1) (by have := hp; omega) (Nat.le_of_ble_eq_true (by kernel_rfl)))) (d := none) (by kernel_rfl) rfl (fun w240 H241 K242 => ?_)
         clear Hg
         replace K235 := K235.trans K242 (U := none_) (fun i h1 h2 => h2) (fun i h1 h2 => by have h2 : i = gb := h2; exfalso; omega)
         replace H236 := H236.k1 K242 (by omega)
         replace H237 := H237.k1 K242 (by omega)
         replace hC0 := TwoP.keep hC0 K242 (fun i hi hs => by have hs : i = gb := hs; have := ogF i hi; omega)
         clear K242
         refine od ?_
         refine qg ?_
         refine og 2 [(0, (Value.slice A l.length c)), (3, (ptr b1)), (4, (ptr b6)), (5, (i64 ((q1 : Nat) : Int))), (6, (ptr b22)), (7, (ptr b179)), (8, (i64 ((q : Nat) : Int))), (30, (i64 x.kind)), (31, (Value.bool false)), (43, (Value.bool true)), (69, (i64 (IntKind.i64.wrap (((q : Nat) : Int) + 1))))] 2 ?_
         have e243 : IntKind.i64.wrap (((q : Nat) : Int) + 1) = ((q + 1 : Nat) : Int) := by rw [wrap_i64 (by omega) (by omega)]; omega
         rw [e243]
         clear e243
         refine og 1 [(0, (Value.slice A l.length c)), (3, (ptr b1)), (4, (ptr b6)), (5, (i64 ((q1 : Nat) : Int))), (6, (ptr b22)), (7, (ptr b179)), (8, (i64 ((q + 1 : Nat) : Int))), (30, (i64 x.kind)), (31, (Value.bool false)), (43, (Value.bool true))] 3 ?_
         refine Ops.keep (R := [(0, (Value.slice A l.length c)), (3, (ptr b1)), (4, (ptr b6)), (5, (i64 ((q1 : Nat) : Int))), (6, (ptr b22)), (7, (ptr b179)), (8, (i64 ((q + 1 : Nat) : Int))), (30, (i64 x.kind)), (31, (Value.bool false)), (43, (Value.bool true))]) (by kernel_rfl) ?_
         refine od ?_
         exact ⟨(q + 1, ys.set q ⟨y.name, 99⟩), ⟨rfl, hC0, (by rw [List.length_set]; exact hput ⟨y.name, 99⟩ _ H241), obVb22, obVb179, (by omega), (by rw [List.length_set]; exact hyl), K235, H236, H237⟩, (show x.rep.rows.length - (q + 1) < x.rep.rows.length - q from by omega)⟩
        ·rw [h238]
         have p244 : ¬ (((q : Nat) : Int) < ((x.rep.rows.length : Nat) : Int)) := of_decide_eq_false h238
         refine q_exit (id := 3) (by kernel_rfl) ?_
         refine qs ?_
         refine qg ?_
         refine og 3 [(0, (Value.slice A l.length c)), (3, (ptr b1)), (4, (ptr b6)), (5, (i64 ((q1 : Nat) : Int))), (8, (i64 ((q : Nat) : Int))), (31, (Value.bool false)), (43, (Value.bool true)), (90, (ptr b1)), (91, (ptr b6)), (92, (Value.pointer (some ⟨b22, 1, none⟩)))] 3 ?_
         refine Ops.go (v := (i64 x.n)) (by kernel_rfl) (Runs.load (t := 3) (a := ⟨b22, 1, none⟩) (by kernel_rfl) (H236.loads (by kernel_rfl))) (d := (some 93)) (by kernel_rfl) rfl ?_
         have hms247 : MsOk ((hearM ms x.n ⟨x.rep.why, x.rep.amount, x.rep.rows⟩).1) := (MsOk.hear hms x.n (p := ⟨x.rep.why, x.rep.amount, x.rep.rows⟩) hx.rlen)
         refine Ops.call (by kernel_rfl) (d := (some 94)) (by kernel_rfl) (alike_two _ F202 b1 b6 ((hearM ms x.n ⟨x.rep.why, x.rep.amount, x.rep.rows⟩).1) x.n hC0 hms247) ?_
         rintro _ w245 ⟨rfl, K246⟩
         refine ⟨_, _, rfl, rfl, ?_⟩
         replace K235 := K235.trans K246 (U := none_) (fun i h1 h2 => h2) (fun i h1 h2 => by exact h2)
         replace H236 := H236.keep K246 (fun h => h)
         replace H237 := H237.keep K246 (fun h => h)
         replace hC0 := TwoP.keep hC0 K246 (fun _ _ h => h)
         clear K246
         refine og 1 [(0, (Value.slice A l.length c)), (3, (ptr b1)), (4, (ptr b6)), (5, (i64 ((q1 : Nat) : Int))), (8, (i64 ((q : Nat) : Int))), (31, (Value.bool false)), (43, (Value.bool true)), (95, (Value.bool false))] 6 ?_
         refine od ?_
         refine q_else (o := .tmp 95) (by kernel_rfl) rfl ?_
         refine q_skip (by kernel_rfl) ?_
         refine qg ?_
         refine og 2 [(0, (Value.slice A l.length c)), (3, (ptr b1)), (4, (ptr b6)), (5, (i64 ((q1 : Nat) : Int))), (8, (i64 ((q : Nat) : Int))), (24, (i64 (IntKind.i64.wrap (((q1 : Nat) : Int) + 1)))), (31, (Value.bool false)), (43, (Value.bool true))] 2 ?_
         have e248 : IntKind.i64.wrap (((q1 : Nat) : Int) + 1) = ((q1 + 1 : Nat) : Int) := by rw [wrap_i64 (by omega) (by omega)]; omega
         rw [e248]
         clear e248
         refine og 1 [(0, (Value.slice A l.length c)), (3, (ptr b1)), (4, (ptr b6)), (5, (i64 ((q1 + 1 : Nat) : Int))), (8, (i64 ((q : Nat) : Int))), (31, (Value.bool false)), (43, (Value.bool true))] 3 ?_
         refine Ops.keep (R := [(0, (Value.slice A l.length c)), (3, (ptr b1)), (4, (ptr b6)), (5, (i64 ((q1 + 1 : Nat) : Int)))]) (by kernel_rfl) ?_
         refine od ?_
         exact ⟨(q1 + 1, F202, (hearM ms x.n ⟨x.rep.why, x.rep.amount, x.rep.rows⟩).1), ⟨rfl, hC0, low211, hms247, (by omega), K235⟩, (show l.length - (q1 + 1) < l.length - q1 from by omega)⟩
      ·rw [h165]
       have p249 : ¬ (x.kind = 3) := of_beq_f h165
       refine qs ?_
       refine qg ?_
       refine og 2 [(0, (Value.slice A l.length c)), (3, (ptr b1)), (4, (ptr b6)), (5, (i64 ((q1 : Nat) : Int))), (6, (ptr b22)), (31, (Value.bool false)), (43, (Value.bool false)), (75, (Value.bool (x.kind == 4)))] 2 ?_
       refine od ?_
       refine q_cond (o := .tmp 75) (b := (x.kind == 4)) (by kernel_rfl) rfl (fun h250 => ?_) (fun h250 => ?_)
       ·rw [h250]
        have p251 : x.kind = 4 := of_beq_t h250
        refine qs ?_
        refine qg ?_
        refine og 1 [(0, (Value.slice A l.length c)), (3, (ptr b1)), (4, (ptr b6)), (5, (i64 ((q1 : Nat) : Int))), (6, (ptr b22)), (9, (i64 0)), (31, (Value.bool false)), (43, (Value.bool false))] 1 ?_
        refine od ?_
        refine q_block (id := 5) (by kernel_rfl) ?_
        refine q_keep (R := [(0, (Value.slice A l.length c)), (3, (ptr b1)), (4, (ptr b6)), (5, (i64 ((q1 : Nat) : Int))), (6, (ptr b22)), (9, (i64 0)), (31, (Value.bool false)), (43, (Value.bool false))]) (by kernel_rfl) ?_
        refine q_loop (fun (gs : Nat × (Nat → Prop) × (List DM)) L (wx : World) => match gs with | (q5, F5, ms5) => L = [(0, (Value.slice A l.length c)), (3, (ptr b1)), (4, (ptr b6)), (5, (i64 ((q1 : Nat) : Int))), (6, (ptr b22)), (9, (i64 ((q5 : Nat) : Int))), (31, (Value.bool false)), (43, (Value.bool false))] ∧ TwoP wx F5 b1 84 79 b6 55 87 ms5 ms5 ∧ (∀ i, F5 i → w.heap.size ≤ i) ∧ MsOk ms5 ∧ q5 ≤ 2001 ∧ (∀ i, F5 i → i ≠ b22) ∧ Keeps none_ w wx ∧ Has wx b22 (rowL [(i64 x.kind), (i64 x.n), (i64 x.op.kind), (Value.string (str x.op.frm)), (Value.string (str x.op.to)), (i64 x.op.amount), (Value.string (str x.op.key)), (i64 x.op.slot), (i64 x.op.shard), (i64 x.rep.why), (i64 x.rep.amount), (Value.slice x.V x.rep.rows.length x.c)] 57)) (fun (gs : Nat × (Nat → Prop) × (List DM)) => match gs with | (q5, F5, ms5) => 2001 - q5) (0, F, ms) (by kernel_rfl) ⟨rfl, hT, hlow, hms, Nat.zero_le _, of28, K13, H30⟩ ?_
        clear H30 hT K13
        rintro ⟨q5, F5, ms5⟩ _ w252 ⟨rfl, hT5, hlow5, hms5, hq5, hF5b22, K253, H254⟩
        refine qs ?_
        refine qs ?_
        refine qg ?_
        refine og 2 [(0, (Value.slice A l.length c)), (3, (ptr b1)), (4, (ptr b6)), (5, (i64 ((q1 : Nat) : Int))), (6, (ptr b22)), (9, (i64 ((q5 : Nat) : Int))), (31, (Value.bool false)), (43, (Value.bool false)), (78, (Value.bool (decide (((q5 : Nat) : Int) < 2001))))] 2 ?_
        refine od ?_
        refine q_cond (o := .tmp 78) (b := (decide (((q5 : Nat) : Int) < 2001))) (by kernel_rfl) rfl (fun h255 => ?_) (fun h255 => ?_)
        ·rw [h255]
         have p256 : ((q5 : Nat) : Int) < 2001 := of_decide_eq_true h255
         refine q_skip (by kernel_rfl) ?_
         refine qs ?_
         refine q_block (id := 6) (by kernel_rfl) ?_
         refine qs ?_
         refine q_draw (fun wz => Keeps (fun i => F5 i) w252 wz) 9 (by kernel_rfl) (by kernel_rfl) (by kernel_rfl) (fun w257 K258 _ _ => ⟨(K258.mono (fun _ _ h => h.elim)), ?_⟩)
         replace K253 := K253.trans K258 (U := none_) (fun i h1 h2 => h2) (fun i h1 h2 => by exact h2)
         replace H254 := H254.keep K258 (fun h => h)
         replace hT5 := TwoP.keep hT5 K258 (fun _ _ h => h)
         refine Dr.strong (S' := (fun wz => Keeps (fun i => F5 i) w257 wz)) ((Keeps.refl w257).mono (fun _ _ h => h.elim)) (fun wz hx => K258.trans hx (fun i _ h => h.elim) (fun _ _ h => h)) ?_
         clear K258
         refine Dr.takes (fuel' := 7) (is' := _) [0, 1] [(0, (Value.slice A l.length c)), (3, (ptr b1)), (4, (ptr b6)), (5, (i64 ((q1 : Nat) : Int))), (6, (ptr b22)), (9, (i64 ((q5 : Nat) : Int))), (31, (Value.bool false)), (43, (Value.bool false)), (81, (ptr b1)), (82, (Value.pointer (some ⟨b22, 2, none⟩)))] (by kernel_rfl) rfl (by kernel_rfl) ?_
         refine Dr.take (i := 2) (v := (agg [(i64 x.op.kind), (Value.string (str x.op.frm)), (Value.string (str x.op.to)), (i64 x.op.amount), (Value.string (str x.op.key)), (i64 x.op.slot), (i64 x.op.shard)])) (by kernel_rfl) (by kernel_rfl) (fun wz hS => Runs.load (t := 23) (a := ⟨b22, 2, none⟩) (by kernel_rfl) ((H254.keep hS (by intro h; change F5 b22 at h; have := hF5b22 b22 h; omega)).loads (by kernel_rfl))) (d := (some 83)) (by kernel_rfl) rfl ?_
         refine Dr.takes (fuel' := 4) (is' := _) [4, 5] [(0, (Value.slice A l.length c)), (3, (ptr b1)), (4, (ptr b6)), (5, (i64 ((q1 : Nat) : Int))), (6, (ptr b22)), (9, (i64 ((q5 : Nat) : Int))), (31, (Value.bool false)), (43, (Value.bool false)), (81, (ptr b1)), (83, (agg [(i64 x.op.kind), (Value.string (str x.op.frm)), (Value.string (str x.op.to)), (i64 x.op.amount), (Value.string (str x.op.key)), (i64 x.op.slot), (i64 x.op.shard)])), (85, (ptr b6)), (86, (Value.pointer (some ⟨b22, 2, none⟩)))] (by kernel_rfl) rfl (by kernel_rfl) ?_
         refine Dr.take (i := 6) (v := (agg [(i64 x.op.kind), (Value.string (str x.op.frm)), (Value.string (str x.op.to)), (i64 x.op.amount), (Value.string (str x.op.key)), (i64 x.op.slot), (i64 x.op.shard)])) (by kernel_rfl) (by kernel_rfl) (fun wz hS => Runs.load (t := 23) (a := ⟨b22, 2, none⟩) (by kernel_rfl) ((H254.keep hS (by intro h; change F5 b22 at h; have := hF5b22 b22 h; omega)).loads (by kernel_rfl))) (d := (some 87)) (by kernel_rfl) rfl ?_
         refine Dr.call (i := 3) (by kernel_rfl) (by kernel_rfl) (d := (some 84)) (by kernel_rfl) (fun _ => BeginP_two _ F5 b1 b6 ms5 ms5 x.op hT5) ?_
         rintro _ w260 ⟨F259, rfl, K261, hT262, hg263⟩
         have of264 : ∀ i, F259 i → i ≠ b22 := fun i hi => (hg263 i hi).elim (fun h => by have := hF5b22 i h; omega) (fun h => by have := H254.lt; omega)
         have low265 : ∀ i, F259 i → w.heap.size ≤ i := fun i hi => (hg263 i hi).elim (fun h => hlow5 i h) (fun h => Nat.le_trans K253.size h)
         replace K253 := K253.trans K261 (U := none_) (fun i h1 h2 => h2) (fun i h1 h2 => by have h2 : F5 i := h2; exfalso; have := hlow5 i h2; omega)
         replace H254 := H254.keep K261 (by intro h; change F5 b22 at h; have := hF5b22 b22 h; omega)
         clear hT5
         refine ⟨_, _, rfl, rfl, K261, ?_⟩
         refine Dr.strong (S' := (fun wz => Keeps (fun i => F259 i) w260 wz)) ((Keeps.refl w260).mono (fun _ _ h => h.elim)) (fun wz hx => K261.trans hx (U := (fun i => F5 i)) (fun i _ h => h) (fun i hi h => (hg263 i h).elim (fun h => h) (fun q => by exfalso; omega))) ?_
         clear K261
         refine Dr.call (i := 7) (by kernel_rfl) (by kernel_rfl) (d := (some 88)) (by kernel_rfl) (fun _ => BeginR_two _ F259 b1 b6 ((beginM ms5 x.op).1) ms5 x.op hT262) ?_
         rintro _ w267 ⟨F266, rfl, K268, hT269, hg270⟩
         have of271 : ∀ i, F266 i → i ≠ b22 := fun i hi => (hg270 i hi).elim (fun h => by have := of264 i h; omega) (fun h => by have := H254.lt; omega)
         have low272 : ∀ i, F266 i → w.heap.size ≤ i := fun i hi => (hg270 i hi).elim (fun h => low265 i h) (fun h => Nat.le_trans K253.size h)
         replace K253 := K253.trans K268 (U := none_) (fun i h1 h2 => h2) (fun i h1 h2 => by have h2 : F259 i := h2; exfalso; have := low265 i h2; omega)
         replace H254 := H254.keep K268 (by intro h; change F259 b22 at h; have := of264 b22 h; omega)
         clear hT262
         refine ⟨_, _, rfl, rfl, K268, ?_⟩
         refine Dr.strong (S' := (fun wz => Keeps (fun i => F266 i) w267 wz)) ((Keeps.refl w267).mono (fun _ _ h => h.elim)) (fun wz hx => K268.trans hx (U := (fun i => F259 i)) (fun i _ h => h) (fun i hi h => (hg270 i h).elim (fun h => h) (fun q => by exfalso; omega))) ?_
         clear K268
         refine Dr.takes (fuel' := 0) (is' := _) [8] [(0, (Value.slice A l.length c)), (3, (ptr b1)), (4, (ptr b6)), (5, (i64 ((q1 : Nat) : Int))), (6, (ptr b22)), (9, (i64 ((q5 : Nat) : Int))), (31, (Value.bool false)), (43, (Value.bool false)), (89, (Value.bool (((beginM ms5 x.op).2) != ((beginM ms5 x.op).2))))] (by kernel_rfl) rfl (by kernel_rfl) ?_
         refine Dr.done (by kernel_rfl) ?_
         have h273 : (((beginM ms5 x.op).2) != ((beginM ms5 x.op).2)) = false := by simp
         rw [h273]
         refine q_else (o := .tmp 89) (by kernel_rfl) rfl ?_
         refine q_skip (by kernel_rfl) ?_
         refine qg ?_
         refine og 2 [(0, (Value.slice A l.length c)), (3, (ptr b1)), (4, (ptr b6)), (5, (i64 ((q1 : Nat) : Int))), (6, (ptr b22)), (9, (i64 ((q5 : Nat) : Int))), (31, (Value.bool false)), (43, (Value.bool false)), (80, (i64 (IntKind.i64.wrap (((q5 : Nat) : Int) + 1))))] 2 ?_
         have e274 : IntKind.i64.wrap (((q5 : Nat) : Int) + 1) = ((q5 + 1 : Nat) : Int) := by rw [wrap_i64 (by omega) (by omega)]; omega
         rw [e274]
         clear e274
         refine og 1 [(0, (Value.slice A l.length c)), (3, (ptr b1)), (4, (ptr b6)), (5, (i64 ((q1 : Nat) : Int))), (6, (ptr b22)), (9, (i64 ((q5 + 1 : Nat) : Int))), (31, (Value.bool false)), (43, (Value.bool false))] 3 ?_
         refine Ops.keep (R := [(0, (Value.slice A l.length c)), (3, (ptr b1)), (4, (ptr b6)), (5, (i64 ((q1 : Nat) : Int))), (6, (ptr b22)), (9, (i64 ((q5 + 1 : Nat) : Int))), (31, (Value.bool false)), (43, (Value.bool false))]) (by kernel_rfl) ?_
         refine od ?_
         exact ⟨(q5 + 1, F266, (beginM ms5 x.op).1), ⟨rfl, hT269, low272, (MsOk.begin hms5 x.op), (by omega), of271, K253, H254⟩, (show 2001 - (q5 + 1) < 2001 - q5 from by omega)⟩
        ·rw [h255]
         have p275 : ¬ (((q5 : Nat) : Int) < 2001) := of_decide_eq_false h255
         refine q_exit (id := 5) (by kernel_rfl) ?_
         refine qs ?_
         refine qg ?_
         refine og 3 [(0, (Value.slice A l.length c)), (3, (ptr b1)), (4, (ptr b6)), (5, (i64 ((q1 : Nat) : Int))), (9, (i64 ((q5 : Nat) : Int))), (31, (Value.bool false)), (43, (Value.bool false)), (90, (ptr b1)), (91, (ptr b6)), (92, (Value.pointer (some ⟨b22, 1, none⟩)))] 3 ?_
         refine Ops.go (v := (i64 x.n)) (by kernel_rfl) (Runs.load (t := 3) (a := ⟨b22, 1, none⟩) (by kernel_rfl) (H254.loads (by kernel_rfl))) (d := (some 93)) (by kernel_rfl) rfl ?_
         have hms278 : MsOk ms5 := hms5
         refine Ops.call (by kernel_rfl) (d := (some 94)) (by kernel_rfl) (alike_two _ F5 b1 b6 ms5 x.n hT5 hms278) ?_
         rintro _ w276 ⟨rfl, K277⟩
         refine ⟨_, _, rfl, rfl, ?_⟩
         replace K253 := K253.trans K277 (U := none_) (fun i h1 h2 => h2) (fun i h1 h2 => by exact h2)
         replace H254 := H254.keep K277 (fun h => h)
         replace hT5 := TwoP.keep hT5 K277 (fun _ _ h => h)
         clear K277
         refine og 1 [(0, (Value.slice A l.length c)), (3, (ptr b1)), (4, (ptr b6)), (5, (i64 ((q1 : Nat) : Int))), (9, (i64 ((q5 : Nat) : Int))), (31, (Value.bool false)), (43, (Value.bool false)), (95, (Value.bool false))] 6 ?_
         refine od ?_
         refine q_else (o := .tmp 95) (by kernel_rfl) rfl ?_
         refine q_skip (by kernel_rfl) ?_
         refine qg ?_
         refine og 2 [(0, (Value.slice A l.length c)), (3, (ptr b1)), (4, (ptr b6)), (5, (i64 ((q1 : Nat) : Int))), (9, (i64 ((q5 : Nat) : Int))), (24, (i64 (IntKind.i64.wrap (((q1 : Nat) : Int) + 1)))), (31, (Value.bool false)), (43, (Value.bool false))] 2 ?_
         have e279 : IntKind.i64.wrap (((q1 : Nat) : Int) + 1) = ((q1 + 1 : Nat) : Int) := by rw [wrap_i64 (by omega) (by omega)]; omega
         rw [e279]
         clear e279
         refine og 1 [(0, (Value.slice A l.length c)), (3, (ptr b1)), (4, (ptr b6)), (5, (i64 ((q1 + 1 : Nat) : Int))), (9, (i64 ((q5 : Nat) : Int))), (31, (Value.bool false)), (43, (Value.bool false))] 3 ?_
         refine Ops.keep (R := [(0, (Value.slice A l.length c)), (3, (ptr b1)), (4, (ptr b6)), (5, (i64 ((q1 + 1 : Nat) : Int)))]) (by kernel_rfl) ?_
         refine od ?_
         exact ⟨(q1 + 1, F5, ms5), ⟨rfl, hT5, hlow5, hms278, (by omega), K253⟩, (show l.length - (q1 + 1) < l.length - q1 from by omega)⟩
       ·rw [h250]
        have p280 : ¬ (x.kind = 4) := of_beq_f h250
        refine q_skip (by kernel_rfl) ?_
        refine qs ?_
        refine qg ?_
        refine og 3 [(0, (Value.slice A l.length c)), (3, (ptr b1)), (4, (ptr b6)), (5, (i64 ((q1 : Nat) : Int))), (31, (Value.bool false)), (43, (Value.bool false)), (90, (ptr b1)), (91, (ptr b6)), (92, (Value.pointer (some ⟨b22, 1, none⟩)))] 3 ?_
        refine Ops.go (v := (i64 x.n)) (by kernel_rfl) (Runs.load (t := 3) (a := ⟨b22, 1, none⟩) (by kernel_rfl) (H30.loads (by kernel_rfl))) (d := (some 93)) (by kernel_rfl) rfl ?_
        have hms283 : MsOk ms := hms
        refine Ops.call (by kernel_rfl) (d := (some 94)) (by kernel_rfl) (alike_two _ F b1 b6 ms x.n hT hms283) ?_
        rintro _ w281 ⟨rfl, K282⟩
        refine ⟨_, _, rfl, rfl, ?_⟩
        replace K13 := K13.trans K282 (U := none_) (fun i h1 h2 => h2) (fun i h1 h2 => by exact h2)
        replace H30 := H30.keep K282 (fun h => h)
        replace hT := TwoP.keep hT K282 (fun _ _ h => h)
        clear K282
        refine og 1 [(0, (Value.slice A l.length c)), (3, (ptr b1)), (4, (ptr b6)), (5, (i64 ((q1 : Nat) : Int))), (31, (Value.bool false)), (43, (Value.bool false)), (95, (Value.bool false))] 6 ?_
        refine od ?_
        refine q_else (o := .tmp 95) (by kernel_rfl) rfl ?_
        refine q_skip (by kernel_rfl) ?_
        refine qg ?_
        refine og 2 [(0, (Value.slice A l.length c)), (3, (ptr b1)), (4, (ptr b6)), (5, (i64 ((q1 : Nat) : Int))), (24, (i64 (IntKind.i64.wrap (((q1 : Nat) : Int) + 1)))), (31, (Value.bool false)), (43, (Value.bool false))] 2 ?_
        have e284 : IntKind.i64.wrap (((q1 : Nat) : Int) + 1) = ((q1 + 1 : Nat) : Int) := by rw [wrap_i64 (by omega) (by omega)]; omega
        rw [e284]
        clear e284
        refine og 1 [(0, (Value.slice A l.length c)), (3, (ptr b1)), (4, (ptr b6)), (5, (i64 ((q1 + 1 : Nat) : Int))), (31, (Value.bool false)), (43, (Value.bool false))] 3 ?_
        refine Ops.keep (R := [(0, (Value.slice A l.length c)), (3, (ptr b1)), (4, (ptr b6)), (5, (i64 ((q1 + 1 : Nat) : Int)))]) (by kernel_rfl) ?_
        refine od ?_
        exact ⟨(q1 + 1, F, ms), ⟨rfl, hT, hlow, hms283, (by omega), K13⟩, (show l.length - (q1 + 1) < l.length - q1 from by omega)⟩
  ·rw [h16]
   have p285 : ¬ (((q1 : Nat) : Int) < 100) := of_decide_eq_false h16
   refine q_exit (id := 0) (by kernel_rfl) ?_
   refine qs ?_
   refine qg ?_
   refine Ops.call (by kernel_rfl) (d := (some 96)) (by kernel_rfl) (known_calls _) ?_
   rintro _ w287 ⟨rfl, K286⟩
   refine ⟨_, _, rfl, rfl, ?_⟩
   replace K13 := K13.trans K286 (U := none_) (fun i h1 h2 => h2) (fun i h1 h2 => by exact h2)
   replace hT := TwoP.keep hT K286 (fun _ _ h => h)
   clear K286
   refine og 1 [(2, (Value.bool true))] 2 ?_
   refine od ?_
   refine q_ret (by kernel_rfl) ?_
   refine ⟨(Value.bool true), retv_tmp rfl rfl, ?_⟩
   exact ⟨rfl, K13⟩
 ·rw [h14]
  have p288 : ¬ (((q1 : Nat) : Int) < ((l.length : Nat) : Int)) := of_decide_eq_false h14
  refine og 3 [(0, (Value.slice A l.length c)), (3, (ptr b1)), (4, (ptr b6)), (5, (i64 ((q1 : Nat) : Int))), (22, (Value.bool false))] 8 ?_
  refine od ?_
  refine q_else (o := .tmp 22) (by kernel_rfl) rfl ?_
  refine q_exit (id := 0) (by kernel_rfl) ?_
  refine qs ?_
  refine qg ?_
  refine Ops.call (by kernel_rfl) (d := (some 96)) (by kernel_rfl) (known_calls _) ?_
  rintro _ w290 ⟨rfl, K289⟩
  refine ⟨_, _, rfl, rfl, ?_⟩
  replace K13 := K13.trans K289 (U := none_) (fun i h1 h2 => h2) (fun i h1 h2 => by exact h2)
  replace hT := TwoP.keep hT K289 (fun _ _ h => h)
  clear K289
  refine og 1 [(2, (Value.bool true))] 2 ?_
  refine od ?_
  refine q_ret (by kernel_rfl) ?_
  refine ⟨(Value.bool true), retv_tmp rfl rfl, ?_⟩
  exact ⟨rfl, K13⟩
end Go.Proofs.Ytlnidnadpdpciaa
