/- What the claim stands on, part 11: rules of the walk, contracts of the functions, plain laws. -/
import Derived.Test.YtnmpepjikfbpdaaProg
import Derived.Test.YtnmpepjikfbpdaaKRDeaf10
import Derived.Test.YtnmpepjikfbpdaaKRDeaf8
import Derived.Test.YtnmpepjikfbpdaaKRDeaf5
set_option linter.unusedVariables false
namespace Go.Proofs.Ytnmpepjikfbpdaa
open Go.Q Go.RowKit

theorem has_calls (w : World) (r g : Nat) (term voted leader commit group me n elapsed timeout : Int) (kv cv : Value) (came : Bool) (m : MsgP) (E : Option Addr) (ec : Nat) (D : Option Addr) (dc : Nat) (nn : Int) (b1 b2 : Nat) (Hr : Has w r (rowL [(i64 term), (i64 voted), (i64 0), (i64 leader), (i64 commit), (i64 group), (i64 me), (i64 n), (ptr g), (i64 elapsed), (i64 timeout), (Value.slice none 0 0), (Value.map none), (Value.slice none 0 0), kv, cv, (Value.bool came), (Value.slice none 0 0)] 84)) (H1 : Has w b1 (rowL [ptr r] 29)) (H2 : Has w b2 (rowL [(i64 m.kind), (i64 m.group), (i64 m.frm), (i64 m.to), (i64 m.term), (i64 m.index), (i64 m.logTerm), (i64 m.commit), (Value.bool m.ok), (Value.slice E m.entries.length ec), (Value.slice D m.data.length dc)] 46)) (h1 : b1 ≠ r) (h2 : b2 ≠ r) : Calls Try.prog 65 ⟨[(i64 nn), (ptr b1), (ptr b2)]⟩ w (fun e w' => ∃ (ob cap : Nat) (rest : List Value), e = .returned (.tuple #[]) ∧ Keeps (fun i => i = r) w w' ∧ Has w' r (rowL [(i64 term), (i64 voted), (i64 0), (i64 leader), (i64 commit), (i64 group), (i64 me), (i64 n), (ptr g), (i64 elapsed), (i64 timeout), (Value.slice none 0 0), (Value.map none), (Value.slice none 0 0), kv, cv, (Value.bool came), (.slice (some ⟨ob, 0, none⟩) 1 cap)] 84) ∧ Has w' ob (rowL ([(i64 6), (i64 group), (i64 me), (i64 m.frm), (i64 term), (i64 m.index), (i64 0), (i64 nn), (Value.bool false), (Value.slice none 0 0), (Value.slice none 0 0)] ++ rest) 46) ∧ w.heap.size ≤ ob) := by
 have Hrl := Hr.lt
 have Hl1 := H1.lt
 have Hl2 := H2.lt
 have K0 : Keeps (fun i => i = r) w w := (Keeps.refl w).mono (fun _ _ h => h.elim)
 refine q_calls Try.func65 (by kernel_rfl) (by kernel_rfl) ?_
 refine qg ?_
 refine Ops.go (v := (ptr r)) (by kernel_rfl) (Runs.load (t := 29) (a := ⟨b1, 0, none⟩) (by kernel_rfl) (H1.loads (by kernel_rfl))) (d := (some 4)) (by kernel_rfl) rfl ?_
 refine og 1 [(0, (i64 nn)), (2, (ptr b2)), (4, (ptr r)), (5, (Value.pointer (some ⟨b2, 2, none⟩)))] 2 ?_
 refine Ops.go (v := (i64 m.frm)) (by kernel_rfl) (Runs.load (t := 3) (a := ⟨b2, 2, none⟩) (by kernel_rfl) (H2.loads (by kernel_rfl))) (d := (some 6)) (by kernel_rfl) rfl ?_
 refine og 1 [(0, (i64 nn)), (4, (ptr r)), (6, (i64 m.frm)), (7, (Value.pointer (some ⟨b2, 5, none⟩)))] 4 ?_
 refine Ops.go (v := (i64 m.index)) (by kernel_rfl) (Runs.load (t := 2) (a := ⟨b2, 5, none⟩) (by kernel_rfl) (H2.loads (by kernel_rfl))) (d := (some 8)) (by kernel_rfl) rfl ?_
 refine og 2 [(4, (ptr r)), (6, (i64 m.frm)), (10, (agg [(i64 6), (i64 0), (i64 0), (i64 0), (i64 0), (i64 m.index), (i64 0), (i64 nn), (Value.bool false), (Value.slice none 0 0), (Value.slice none 0 0)]))] 7 ?_
 refine Ops.call (by kernel_rfl) (d := (some 11)) (by kernel_rfl) (Fput_calls _ r g term voted leader commit group me n elapsed timeout kv cv came m.frm 6 m.index nn false Hr) ?_
 rintro _ w5 ⟨ob1, cap2, rest3, rfl, K4, H6, H7, hn8⟩
 have nob1 : w.heap.size ≤ ob1 := by have := K0.size; omega
 have lob1r : r < ob1 := by have := Hr.lt; omega
 have lob1b1 : b1 < ob1 := by have := H1.lt; omega
 have lob1b2 : b2 < ob1 := by have := H2.lt; omega
 refine ⟨_, _, rfl, rfl, ?_⟩
 replace K0 := K0.t1 K4 (fun _ => rfl)
 replace H1 := H1.k1 K4 (by omega)
 replace H2 := H2.k1 K4 (by omega)
 clear K4
 refine od ?_
 refine ⟨(Value.tuple #[]), retv_none rfl, ?_⟩
 exact ⟨ob1, cap2, rest3, rfl, K0, H6, H7, nob1⟩

set_option maxHeartbeats 4000000 in
theorem snap_none (w : World) (F : Nat → Prop) (r : Nat) (q : FolQ) (s : FolS) (g : Nat) (T CF : Nat → Prop) (A : Option Addr) (c : Nat) (l : List EntP) (kv : Value) (came : Bool) (m : MsgP) (E : Option Addr) (ec : Nat) (D : Option Addr) (dc : Nat) (Hr : Has w r (rowL [(i64 s.term), (i64 s.voted), (i64 0), (i64 s.leader), (i64 s.commit), (i64 q.group), (i64 q.me), (i64 q.n), (ptr g), (i64 s.elapsed), (i64 q.timeout), (Value.slice none 0 0), (Value.map none), (Value.slice none 0 0), kv, (Value.pointer none), (Value.bool came), (Value.slice none 0 0)] 84)) (H0 : Has w g (rowL [i64 s.base, i64 s.old, .slice A l.length c] 78)) (hE : Ents w T (.slice A l.length c) l) (hK : l.map EntP.key = s.ks) (hKv : ImgK w kv) (hC0 : ∀ i, CF i → i < w.heap.size) (hT7 : ∀ i, T i → i ≠ r ∧ i ≠ g ∧ ¬ CF i ∧ F i) (hK8 : ∀ i, KF kv i → i ≠ r ∧ i ≠ g ∧ ¬ CF i ∧ F i) (hC9 : ∀ i, CF i → i ≠ r ∧ i ≠ g ∧ F i) (hrg : r ≠ g) (hFr : F r) (hFg : F g) (hOk : s.Ok) (hD : RdB w (.slice D m.data.length dc) m.data) (hDU : m.data ≠ [] → ∀ i, (Value.slice D m.data.length dc).ownBlock = some i → ¬ F i ∧ i < w.heap.size) (hdb : m.data.length ≤ 140737488351232) (hmi : 0 ≤ m.index ∧ m.index ≤ 1152921504606846976 ∧ 0 ≤ m.commit ∧ m.commit ≤ 1152921504606846976) : Calls Try.prog 51 ⟨[(ptr r), (MV m.kind m.ok m E ec D dc)]⟩ w (fun e w' => ∃ (s' : FolS) (ov : Value) (o : OutM), e = .returned (.tuple #[]) ∧ Keeps F w w' ∧ Fol w' (fun i => (F i ∨ w.heap.size ≤ i) ∧ i < w'.heap.size) r q s' ov ∧ OutIs w' w.heap.size q ov (some o) ∧ s'.term = s.term ∧ s'.voted = s.voted ∧ s.commit ≤ s'.commit ∧ o.kind ≠ 2) := by
 have hT : ∀ i, T i → i ≠ g := fun i hi => (hT7 i hi).2.1
 have hrT : ∀ i, T i → i ≠ r := fun i hi => (hT7 i hi).1
 have hL : l.length ≤ 4096 := by have z := hOk.len; rw [← hK, List.length_map] at z; exact z
 have hBig : BigK (l.map EntP.key) := by rw [hK]; exact hOk.big
 have hB := hOk.base
 have hCm := hOk.commit
 have hKr : ∀ i, KF kv i → i ≠ r := fun i hi => (hK8 i hi).1
 have hKg : ∀ i, KF kv i → i ≠ g := fun i hi => (hK8 i hi).2.1
 have hcap := Ents.len hE
 have Hg := H0.lt
 have Hrl := Hr.lt
 have hCr : ∀ i, CF i → i ≠ r := fun i hi => (hC9 i hi).1
 have hCg : ∀ i, CF i → i ≠ g := fun i hi => (hC9 i hi).2.1
 have hdl := hD.slice
 unfold maxLen at hdl
 have K0 : Keeps (fun i => i = r ∨ i = g) w w := (Keeps.refl w).mono (fun _ _ h => h.elim)
 refine q_calls Try.func51 (by kernel_rfl) (by kernel_rfl) ?_
 refine qs ?_
 refine qg ?_
 refine Ops.new (o := rowL [(ptr r)] 29) (V := fun b => (ptr b)) (by kernel_rfl) (d := (some 2)) (by kernel_rfl) (fun b => rfl) (fun b1 w2 hb3 H4 K5 hs6 => ?_)
 have lb1r : r < b1 := by have := Hr.lt; omega
 have lb1g : g < b1 := by have := H0.lt; omega
 have nb1 : w.heap.size ≤ b1 := by have := K0.size; omega
 have ot7 : ∀ i, T i → i ≠ b1 := fun i hi => by have := Ents.lt hE i hi; omega
 have of8 : ∀ i, (KF kv) i → i ≠ b1 := fun i hi => by have := ImgK.lt hKv i hi; omega
 replace K0 := K0.tn K5
 replace Hr := Hr.keep K5 (fun h => h)
 replace H0 := H0.keep K5 (fun h => h)
 replace hE := Ents.keep0 hE K5
 replace hKv := ImgK.keep hKv K5 (fun _ _ h => h)
 clear K5 hs6
 refine Ops.new (o := rowL [(i64 m.kind), (i64 m.group), (i64 m.frm), (i64 m.to), (i64 m.term), (i64 m.index), (i64 m.logTerm), (i64 m.commit), (Value.bool m.ok), (Value.slice E m.entries.length ec), (Value.slice D m.data.length dc)] 46) (V := fun b => (ptr b)) (by kernel_rfl) (d := (some 3)) (by kernel_rfl) (fun b => rfl) (fun b9 w10 hb11 H12 K13 hs14 => ?_)
 have lb9r : r < b9 := by have := Hr.lt; omega
 have lb9g : g < b9 := by have := H0.lt; omega
 have lb9b1 : b1 < b9 := by have := H4.lt; omega
 have nb9 : w.heap.size ≤ b9 := by have := K0.size; omega
 have ot15 : ∀ i, T i → i ≠ b9 := fun i hi => by have := Ents.lt hE i hi; omega
 have of16 : ∀ i, (KF kv) i → i ≠ b9 := fun i hi => by have := ImgK.lt hKv i hi; omega
 replace K0 := K0.tn K13
 replace Hr := Hr.keep K13 (fun h => h)
 replace H0 := H0.keep K13 (fun h => h)
 replace H4 := H4.keep K13 (fun h => h)
 replace hE := Ents.keep0 hE K13
 replace hKv := ImgK.keep hKv K13 (fun _ _ h => h)
 clear K13 hs14
 refine od ?_
 refine qs ?_
 refine qg ?_
 refine Ops.go (v := (ptr r)) (by kernel_rfl) (Runs.load (t := 29) (a := ⟨b1, 0, none⟩) (by kernel_rfl) (H4.loads (by kernel_rfl))) (d := (some 7)) (by kernel_rfl) rfl ?_
 refine og 1 [(2, (ptr b1)), (3, (ptr b9)), (7, (ptr r)), (8, (Value.pointer (some ⟨b9, 2, none⟩)))] 2 ?_
 refine Ops.go (v := (i64 m.frm)) (by kernel_rfl) (Runs.load (t := 3) (a := ⟨b9, 2, none⟩) (by kernel_rfl) (H12.loads (by kernel_rfl))) (d := (some 9)) (by kernel_rfl) rfl ?_
 refine Ops.call (by kernel_rfl) (d := (some 10)) (by kernel_rfl) (Ffollow_calls _ r g s.term s.voted s.leader s.commit q.group q.me q.n s.elapsed q.timeout kv (Value.pointer none) came m.frm Hr) ?_
 rintro _ w18 ⟨rfl, K17, H19⟩
 refine ⟨_, _, rfl, rfl, ?_⟩
 replace K0 := K0.trans K17 (U := (fun i => i = r ∨ i = g)) (fun i h1 h2 => h2) (fun i h1 h2 => by have h2 : i = r := h2; show i = r ∨ i = g; omega)
 replace H0 := H0.k1 K17 (by omega)
 replace H4 := H4.k1 K17 (by omega)
 replace H12 := H12.k1 K17 (by omega)
 replace hE := Ents.keep hE K17 hrT
 replace hKv := ImgK.keep hKv K17 hKr
 clear K17
 refine od ?_
 refine qs ?_
 refine qs ?_
 refine q_draw (fun wz => Keeps none_ w18 wz) 8 (by kernel_rfl) (by kernel_rfl) (by kernel_rfl) (fun w20 K21 _ _ => ⟨K21, ?_⟩)
 replace K0 := K0.tn K21
 replace H19 := H19.keep K21 (fun h => h)
 replace H0 := H0.keep K21 (fun h => h)
 replace H4 := H4.keep K21 (fun h => h)
 replace H12 := H12.keep K21 (fun h => h)
 replace hE := Ents.keep0 hE K21
 replace hKv := ImgK.keep hKv K21 (fun _ _ h => h)
 refine Dr.strong (S' := (fun wz => Keeps none_ w20 wz)) (Keeps.refl w20) (fun wz hx => K21.trans hx (fun i _ h => h) (fun _ _ h => h)) ?_
 clear K21
 refine Dr.takes (fuel' := 7) (is' := _) [0] [(2, (ptr b1)), (3, (ptr b9)), (11, (Value.pointer (some ⟨b9, 5, none⟩)))] (by kernel_rfl) rfl (by kernel_rfl) ?_
 refine Dr.take (i := 1) (v := (i64 m.index)) (by kernel_rfl) (by kernel_rfl) (fun wz hS => Runs.load (t := 2) (a := ⟨b9, 5, none⟩) (by kernel_rfl) ((H12.keep hS (fun h => h)).loads (by kernel_rfl))) (d := (some 12)) (by kernel_rfl) rfl ?_
 refine Dr.take (i := 2) (v := (ptr r)) (by kernel_rfl) (by kernel_rfl) (fun wz hS => Runs.load (t := 29) (a := ⟨b1, 0, none⟩) (by kernel_rfl) ((H4.keep hS (fun h => h)).loads (by kernel_rfl))) (d := (some 13)) (by kernel_rfl) rfl ?_
 refine Dr.takes (fuel' := 2) (is' := _) [3, 4, 5] [(2, (ptr b1)), (3, (ptr b9)), (12, (i64 m.index)), (16, (Value.pointer (some ⟨r, 4, none⟩)))] (by kernel_rfl) rfl (by kernel_rfl) ?_
 refine Dr.take (i := 6) (v := (i64 s.commit)) (by kernel_rfl) (by kernel_rfl) (fun wz hS => Runs.load (t := 2) (a := ⟨r, 4, none⟩) (by kernel_rfl) ((H19.keep hS (fun h => h)).loads (by kernel_rfl))) (d := (some 17)) (by kernel_rfl) rfl ?_
 refine Dr.takes (fuel' := 0) (is' := _) [7] [(2, (ptr b1)), (3, (ptr b9)), (18, (Value.bool (decide (m.index ≤ s.commit))))] (by kernel_rfl) rfl (by kernel_rfl) ?_
 refine Dr.done (by kernel_rfl) ?_
 refine q_cond (o := .tmp 18) (b := (decide (m.index ≤ s.commit))) (by kernel_rfl) rfl (fun h22 => ?_) (fun h22 => ?_)
 ·rw [h22]
  have p23 : m.index ≤ s.commit := of_decide_eq_true h22
  refine qs ?_
  refine q_draw (fun wz => Keeps (fun i => i = r) w20 wz) 10 (by kernel_rfl) (by kernel_rfl) (by kernel_rfl) (fun w24 K25 _ _ => ⟨(K25.mono (fun _ _ h => h.elim)), ?_⟩)
  replace K0 := K0.tn K25
  replace H19 := H19.keep K25 (fun h => h)
  replace H0 := H0.keep K25 (fun h => h)
  replace H4 := H4.keep K25 (fun h => h)
  replace H12 := H12.keep K25 (fun h => h)
  replace hE := Ents.keep0 hE K25
  replace hKv := ImgK.keep hKv K25 (fun _ _ h => h)
  refine Dr.strong (S' := (fun wz => Keeps (fun i => i = r) w24 wz)) ((Keeps.refl w24).mono (fun _ _ h => h.elim)) (fun wz hx => K25.trans hx (fun i _ h => h.elim) (fun _ _ h => h)) ?_
  clear K25
  refine Dr.take (i := 0) (v := (ptr r)) (by kernel_rfl) (by kernel_rfl) (fun wz hS => Runs.load (t := 29) (a := ⟨b1, 0, none⟩) (by kernel_rfl) ((H4.keep hS (by intro h; change b1 = r at h; omega)).loads (by kernel_rfl))) (d := (some 19)) (by kernel_rfl) rfl ?_
  refine Dr.takes (fuel' := 8) (is' := _) [1] [(2, (ptr b1)), (3, (ptr b9)), (19, (ptr r)), (20, (Value.pointer (some ⟨b9, 2, none⟩)))] (by kernel_rfl) rfl (by kernel_rfl) ?_
  refine Dr.take (i := 2) (v := (i64 m.frm)) (by kernel_rfl) (by kernel_rfl) (fun wz hS => Runs.load (t := 3) (a := ⟨b9, 2, none⟩) (by kernel_rfl) ((H12.keep hS (by intro h; change b9 = r at h; omega)).loads (by kernel_rfl))) (d := (some 21)) (by kernel_rfl) rfl ?_
  refine Dr.take (i := 3) (v := (ptr r)) (by kernel_rfl) (by kernel_rfl) (fun wz hS => Runs.load (t := 29) (a := ⟨b1, 0, none⟩) (by kernel_rfl) ((H4.keep hS (by intro h; change b1 = r at h; omega)).loads (by kernel_rfl))) (d := (some 22)) (by kernel_rfl) rfl ?_
  refine Dr.takes (fuel' := 3) (is' := _) [4, 5, 6] [(2, (ptr b1)), (3, (ptr b9)), (19, (ptr r)), (21, (i64 m.frm)), (25, (Value.pointer (some ⟨r, 4, none⟩)))] (by kernel_rfl) rfl (by kernel_rfl) ?_
  refine Dr.go (i := 7) (v := (i64 s.commit)) (by kernel_rfl) (by kernel_rfl) (Runs.load (t := 2) (a := ⟨r, 4, none⟩) (by kernel_rfl) (H19.loads (by kernel_rfl))) (d := (some 26)) (by kernel_rfl) rfl ((Keeps.refl _).mono (fun _ _ h => h.elim)) ?_
  refine Dr.takes (fuel' := 1) (is' := _) [8] [(2, (ptr b1)), (3, (ptr b9)), (19, (ptr r)), (21, (i64 m.frm)), (27, (agg [(i64 4), (i64 0), (i64 0), (i64 0), (i64 0), (i64 s.commit), (i64 0), (i64 0), (Value.bool true), (Value.slice none 0 0), (Value.slice none 0 0)]))] (by kernel_rfl) rfl (by kernel_rfl) ?_
  refine Dr.call (i := 9) (by kernel_rfl) (by kernel_rfl) (d := (some 28)) (by kernel_rfl) (fun _ => Fput_calls _ r g s.term s.voted m.frm s.commit q.group q.me q.n 0 q.timeout kv (Value.pointer none) came m.frm 4 s.commit 0 true H19) ?_
  rintro _ w30 ⟨ob26, cap27, rest28, rfl, K29, H31, H32, hn33⟩
  have nob26 : w.heap.size ≤ ob26 := by have := K0.size; omega
  have lob26r : r < ob26 := by have := H19.lt; omega
  have lob26g : g < ob26 := by have := H0.lt; omega
  have lob26b1 : b1 < ob26 := by have := H4.lt; omega
  have lob26b9 : b9 < ob26 := by have := H12.lt; omega
  have ot34 : ∀ i, T i → i ≠ ob26 := fun i hi => by have := Ents.lt hE i hi; omega
  have of35 : ∀ i, (KF kv) i → i ≠ ob26 := fun i hi => by have := ImgK.lt hKv i hi; omega
  replace K0 := K0.trans K29 (U := (fun i => i = r ∨ i = g)) (fun i h1 h2 => h2) (fun i h1 h2 => by have h2 : i = r := h2; show i = r ∨ i = g; omega)
  replace H0 := H0.k1 K29 (by omega)
  replace H4 := H4.k1 K29 (by omega)
  replace H12 := H12.k1 K29 (by omega)
  replace hE := Ents.keep hE K29 hrT
  replace hKv := ImgK.keep hKv K29 hKr
  refine ⟨_, _, rfl, rfl, K29, ?_⟩
  refine Dr.strong (S' := (fun wz => Keeps (fun i => i = r) w30 wz)) ((Keeps.refl w30).mono (fun _ _ h => h.elim)) (fun wz hx => K29.trans hx (fun i _ h => by have h : i = r := h; show i = r; omega) (fun _ _ h => h)) ?_
  clear K29
  refine Dr.done (by kernel_rfl) ?_
  refine q_ret (by kernel_rfl) ?_
  refine ⟨(Value.tuple #[]), retv_none rfl, ?_⟩
  exact ⟨(⟨s.term, s.voted, m.frm, s.commit, 0, s.base, s.old, (l.map EntP.key)⟩ : FolS), (Value.slice (some ⟨ob26, 0, none⟩) 1 cap27), (⟨4, m.frm, s.term, s.commit, 0, true⟩ : OutM), rfl, (K0.mono (fun i _ h => by rcases h with h | h; (rw [h]; exact hFr); (rw [h]; exact hFg))), ⟨g, T, none_, A, c, l, kv, (Value.pointer none), came, H31, H0, hE, rfl, hKv, ⟨fun _ h => h.elim, .inl rfl⟩, fun i hi => ⟨hrT i hi, hT i hi, fun h => h, .inl (hT7 i hi).2.2.2, Ents.lt hE i hi⟩, fun i hi => ⟨hKr i hi, hKg i hi, fun h => h, .inl (hK8 i hi).2.2.2, ImgK.lt hKv i hi⟩, fun i hi => hi.elim, by omega, ⟨.inl hFr, H31.lt⟩, ⟨.inl hFg, H0.lt⟩, ⟨by show 0 ≤ (s.base : Int) ∧ (s.base : Int) ≤ 1152921504606846976; omega, by show ((l.map EntP.key)).length ≤ 4096; rw [List.length_map]; omega, hBig, by show (s.base : Int) ≤ s.commit ∧ (s.commit : Int) ≤ 2305843009213693952; omega⟩⟩, ⟨ob26, cap27, rest28, rfl, nob26, H32⟩, rfl, rfl, by show s.commit ≤ s.commit; omega, by show (4 : Int) ≠ 2; decide⟩
 ·rw [h22]
  have p36 : ¬ (m.index ≤ s.commit) := of_decide_eq_false h22
  refine q_skip (by kernel_rfl) ?_
  refine qs ?_
  refine qs ?_
  refine qg ?_
  refine og 1 [(2, (ptr b1)), (3, (ptr b9)), (29, (Value.pointer (some ⟨b9, 7, none⟩)))] 1 ?_
  refine Ops.go (v := (i64 m.commit)) (by kernel_rfl) (Runs.load (t := 2) (a := ⟨b9, 7, none⟩) (by kernel_rfl) (H12.loads (by kernel_rfl))) (d := (some 30)) (by kernel_rfl) rfl ?_
  refine og 1 [(2, (ptr b1)), (3, (ptr b9)), (31, (Value.bool (m.commit == 0)))] 3 ?_
  refine od ?_
  refine q_cond (o := .tmp 31) (b := (m.commit == 0)) (by kernel_rfl) rfl (fun h37 => ?_) (fun h37 => ?_)
  ·rw [h37]
   have p38 : m.commit = 0 := of_beq_t h37
   refine qg ?_
   refine Ops.go (v := (ptr r)) (by kernel_rfl) (Runs.load (t := 29) (a := ⟨b1, 0, none⟩) (by kernel_rfl) (H4.loads (by kernel_rfl))) (d := (some 32)) (by kernel_rfl) rfl ?_
   refine og 1 [(2, (ptr b1)), (3, (ptr b9)), (32, (ptr r)), (33, (Value.pointer (some ⟨b9, 5, none⟩)))] 2 ?_
   refine Ops.go (v := (i64 m.index)) (by kernel_rfl) (Runs.load (t := 2) (a := ⟨b9, 5, none⟩) (by kernel_rfl) (H12.loads (by kernel_rfl))) (d := (some 34)) (by kernel_rfl) rfl ?_
   refine og 1 [(2, (ptr b1)), (3, (ptr b9)), (32, (ptr r)), (34, (i64 m.index)), (35, (Value.pointer (some ⟨b9, 6, none⟩)))] 4 ?_
   refine Ops.go (v := (i64 m.logTerm)) (by kernel_rfl) (Runs.load (t := 2) (a := ⟨b9, 6, none⟩) (by kernel_rfl) (H12.loads (by kernel_rfl))) (d := (some 36)) (by kernel_rfl) rfl ?_
   refine og 1 [(2, (ptr b1)), (3, (ptr b9)), (32, (ptr r)), (37, (agg [(i64 m.index), (i64 m.logTerm), (Value.slice none 0 0)]))] 6 ?_
   refine Ops.new (o := rowL [(i64 m.index), (i64 m.logTerm), (Value.slice none 0 0)] 110) (V := fun b => (ptr b)) (by kernel_rfl) (d := (some 38)) (by kernel_rfl) (fun b => rfl) (fun b39 w40 hb41 H42 K43 hs44 => ?_)
   have lb39r : r < b39 := by have := H19.lt; omega
   have lb39g : g < b39 := by have := H0.lt; omega
   have lb39b1 : b1 < b39 := by have := H4.lt; omega
   have lb39b9 : b9 < b39 := by have := H12.lt; omega
   have nb39 : w.heap.size ≤ b39 := by have := K0.size; omega
   have ot45 : ∀ i, T i → i ≠ b39 := fun i hi => by have := Ents.lt hE i hi; omega
   have of46 : ∀ i, (KF kv) i → i ≠ b39 := fun i hi => by have := ImgK.lt hKv i hi; omega
   replace K0 := K0.tn K43
   replace H19 := H19.keep K43 (fun h => h)
   replace H0 := H0.keep K43 (fun h => h)
   replace H4 := H4.keep K43 (fun h => h)
   replace H12 := H12.keep K43 (fun h => h)
   replace hE := Ents.keep0 hE K43
   replace hKv := ImgK.keep hKv K43 (fun _ _ h => h)
   clear K43 hs44
   refine og 2 [(2, (ptr b1)), (3, (ptr b9)), (38, (ptr b39)), (40, (Value.pointer (some ⟨r, 15, none⟩)))] 9 ?_
   refine Ops.put (t := 82) (b := r) (off := 15) (v := (ptr b39)) (ys := [(i64 s.term), (i64 s.voted), (i64 0), (i64 m.frm), (i64 s.commit), (i64 q.group), (i64 q.me), (i64 q.n), (ptr g), (i64 0), (i64 q.timeout), (Value.slice none 0 0), (Value.map none), (Value.slice none 0 0), kv, (ptr b39), (Value.bool came), (Value.slice none 0 0)]) (by kernel_rfl) (by kernel_rfl) H19 (by kernel_rfl) (d := none) (by kernel_rfl) rfl (fun w47 H48 K49 => ?_)
   clear H19
   replace K0 := K0.trans K49 (U := (fun i => i = r ∨ i = g)) (fun i h1 h2 => h2) (fun i h1 h2 => by have h2 : i = r := h2; show i = r ∨ i = g; omega)
   replace H0 := H0.k1 K49 (by omega)
   replace H4 := H4.k1 K49 (by omega)
   replace H12 := H12.k1 K49 (by omega)
   replace H42 := H42.k1 K49 (by omega)
   replace hE := Ents.keep hE K49 hrT
   replace hKv := ImgK.keep hKv K49 hKr
   clear K49
   refine od ?_
   refine qs ?_
   refine qg ?_
   refine og 2 [(2, (ptr b1)), (3, (ptr b9)), (4, (Value.func (Fn.func 65) ⟨[]⟩ ⟨[(ptr b1), (ptr b9)]⟩))] 2 ?_
   refine od ?_
   refine qs ?_
   refine qg ?_
   refine Ops.go (v := (ptr r)) (by kernel_rfl) (Runs.load (t := 29) (a := ⟨b1, 0, none⟩) (by kernel_rfl) (H4.loads (by kernel_rfl))) (d := (some 42)) (by kernel_rfl) rfl ?_
   refine og 2 [(2, (ptr b1)), (3, (ptr b9)), (4, (Value.func (Fn.func 65) ⟨[]⟩ ⟨[(ptr b1), (ptr b9)]⟩)), (44, (Value.pointer (some ⟨r, 15, none⟩)))] 3 ?_
   refine Ops.go (v := (ptr b39)) (by kernel_rfl) (Runs.load (t := 82) (a := ⟨r, 15, none⟩) (by kernel_rfl) (H48.loads (by kernel_rfl))) (d := (some 45)) (by kernel_rfl) rfl ?_
   refine og 1 [(2, (ptr b1)), (3, (ptr b9)), (4, (Value.func (Fn.func 65) ⟨[]⟩ ⟨[(ptr b1), (ptr b9)]⟩)), (5, (ptr b39))] 5 ?_
   refine od ?_
   refine qs ?_
   refine qs ?_
   refine q_draw (fun wz => Keeps none_ w47 wz) 20 (by kernel_rfl) (by kernel_rfl) (by kernel_rfl) (fun w50 K51 _ _ => ⟨K51, ?_⟩)
   replace K0 := K0.tn K51
   replace H48 := H48.keep K51 (fun h => h)
   replace H0 := H0.keep K51 (fun h => h)
   replace H4 := H4.keep K51 (fun h => h)
   replace H12 := H12.keep K51 (fun h => h)
   replace H42 := H42.keep K51 (fun h => h)
   replace hE := Ents.keep0 hE K51
   replace hKv := ImgK.keep hKv K51 (fun _ _ h => h)
   refine Dr.strong (S' := (fun wz => Keeps none_ w50 wz)) (Keeps.refl w50) (fun wz hx => K51.trans hx (fun i _ h => h) (fun _ _ h => h)) ?_
   clear K51
   refine Dr.takes (fuel' := 14) (is' := _) [0, 1, 2, 3, 4, 5] [(2, (ptr b1)), (3, (ptr b9)), (4, (Value.func (Fn.func 65) ⟨[]⟩ ⟨[(ptr b1), (ptr b9)]⟩)), (5, (ptr b39)), (48, (Value.bool false)), (51, (ptr b39))] (by kernel_rfl) rfl (by kernel_rfl) ?_
   refine Dr.take (i := 6) (v := (i64 m.index)) (by kernel_rfl) (by kernel_rfl) (fun wz hS => Runs.load (t := 2) (a := ⟨b39, 0, none⟩) (by kernel_rfl) ((H42.keep hS (fun h => h)).loads (by kernel_rfl))) (d := (some 52)) (by kernel_rfl) rfl ?_
   refine Dr.takes (fuel' := 12) (is' := _) [7] [(2, (ptr b1)), (3, (ptr b9)), (4, (Value.func (Fn.func 65) ⟨[]⟩ ⟨[(ptr b1), (ptr b9)]⟩)), (5, (ptr b39)), (48, (Value.bool false)), (52, (i64 m.index)), (53, (Value.pointer (some ⟨b9, 5, none⟩)))] (by kernel_rfl) rfl (by kernel_rfl) ?_
   refine Dr.take (i := 8) (v := (i64 m.index)) (by kernel_rfl) (by kernel_rfl) (fun wz hS => Runs.load (t := 2) (a := ⟨b9, 5, none⟩) (by kernel_rfl) ((H12.keep hS (fun h => h)).loads (by kernel_rfl))) (d := (some 54)) (by kernel_rfl) rfl ?_
   refine Dr.takes (fuel' := 8) (is' := _) [9, 10, 11] [(2, (ptr b1)), (3, (ptr b9)), (4, (Value.func (Fn.func 65) ⟨[]⟩ ⟨[(ptr b1), (ptr b9)]⟩)), (5, (ptr b39)), (57, (Value.bool (m.index != m.index)))] (by kernel_rfl) rfl (by kernel_rfl) ?_
   have h52 : (m.index != m.index) = false := by simp
   rw [h52]
   refine Dr.takes (fuel' := 5) (is' := _) [12, 13, 14] [(2, (ptr b1)), (3, (ptr b9)), (4, (Value.func (Fn.func 65) ⟨[]⟩ ⟨[(ptr b1), (ptr b9)]⟩)), (5, (ptr b39)), (57, (Value.bool false)), (60, (Value.pointer (some ⟨b39, 1, none⟩)))] (by kernel_rfl) rfl (by kernel_rfl) ?_
   refine Dr.take (i := 15) (v := (i64 m.logTerm)) (by kernel_rfl) (by kernel_rfl) (fun wz hS => Runs.load (t := 2) (a := ⟨b39, 1, none⟩) (by kernel_rfl) ((H42.keep hS (fun h => h)).loads (by kernel_rfl))) (d := (some 61)) (by kernel_rfl) rfl ?_
   refine Dr.takes (fuel' := 3) (is' := _) [16] [(2, (ptr b1)), (3, (ptr b9)), (4, (Value.func (Fn.func 65) ⟨[]⟩ ⟨[(ptr b1), (ptr b9)]⟩)), (5, (ptr b39)), (57, (Value.bool false)), (61, (i64 m.logTerm)), (62, (Value.pointer (some ⟨b9, 6, none⟩)))] (by kernel_rfl) rfl (by kernel_rfl) ?_
   refine Dr.take (i := 17) (v := (i64 m.logTerm)) (by kernel_rfl) (by kernel_rfl) (fun wz hS => Runs.load (t := 2) (a := ⟨b9, 6, none⟩) (by kernel_rfl) ((H12.keep hS (fun h => h)).loads (by kernel_rfl))) (d := (some 63)) (by kernel_rfl) rfl ?_
   refine Dr.takes (fuel' := 0) (is' := _) [18, 19] [(2, (ptr b1)), (3, (ptr b9)), (4, (Value.func (Fn.func 65) ⟨[]⟩ ⟨[(ptr b1), (ptr b9)]⟩)), (5, (ptr b39)), (65, (Value.bool (m.logTerm != m.logTerm)))] (by kernel_rfl) rfl (by kernel_rfl) ?_
   refine Dr.done (by kernel_rfl) ?_
   have h53 : (m.logTerm != m.logTerm) = false := by simp
   rw [h53]
   refine q_else (o := .tmp 65) (by kernel_rfl) rfl ?_
   refine q_skip (by kernel_rfl) ?_
   refine qs ?_
   refine qg ?_
   refine og 3 [(2, (ptr b1)), (3, (ptr b9)), (4, (Value.func (Fn.func 65) ⟨[]⟩ ⟨[(ptr b1), (ptr b9)]⟩)), (5, (ptr b39)), (70, (Value.pointer (some ⟨b39, 2, none⟩)))] 3 ?_
   refine Ops.go (v := (Value.slice none 0 0)) (by kernel_rfl) (Runs.load (t := 37) (a := ⟨b39, 2, none⟩) (by kernel_rfl) (H42.loads (by kernel_rfl))) (d := (some 71)) (by kernel_rfl) rfl ?_
   refine og 2 [(2, (ptr b1)), (3, (ptr b9)), (4, (Value.func (Fn.func 65) ⟨[]⟩ ⟨[(ptr b1), (ptr b9)]⟩)), (5, (ptr b39)), (6, (i64 0))] 6 ?_
   refine od ?_
   refine q_block (id := 0) (by kernel_rfl) ?_
   refine qs ?_
   refine qg ?_
   refine og 2 [(2, (ptr b1)), (3, (ptr b9)), (4, (Value.func (Fn.func 65) ⟨[]⟩ ⟨[(ptr b1), (ptr b9)]⟩)), (5, (ptr b39)), (6, (i64 0)), (117, (i64 0)), (118, (Value.pointer (some ⟨b9, 7, none⟩)))] 2 ?_
   refine Ops.go (v := (i64 m.commit)) (by kernel_rfl) (Runs.load (t := 2) (a := ⟨b9, 7, none⟩) (by kernel_rfl) (H12.loads (by kernel_rfl))) (d := (some 119)) (by kernel_rfl) rfl ?_
   refine og 2 [(2, (ptr b1)), (3, (ptr b9)), (4, (Value.func (Fn.func 65) ⟨[]⟩ ⟨[(ptr b1), (ptr b9)]⟩)), (5, (ptr b39)), (6, (i64 0)), (116, (Value.bool (0 != m.commit)))] 5 ?_
   refine od ?_
   refine q_cond (o := .tmp 116) (b := (0 != m.commit)) (by kernel_rfl) rfl (fun h54 => ?_) (fun h54 => ?_)
   ·rw [h54]
    have p55 : ¬ (0 = m.commit) := of_bne_t h54
    refine qg ?_
    refine og 2 [(2, (ptr b1)), (3, (ptr b9)), (4, (Value.func (Fn.func 65) ⟨[]⟩ ⟨[(ptr b1), (ptr b9)]⟩)), (5, (ptr b39)), (6, (i64 0)), (121, (Value.func (Fn.func 65) ⟨[]⟩ ⟨[(ptr b1), (ptr b9)]⟩)), (122, (i64 0))] 2 ?_
    refine Ops.call (by kernel_rfl) (d := (some 123)) (by kernel_rfl) (has_calls _ r g s.term s.voted m.frm s.commit q.group q.me q.n 0 q.timeout kv (ptr b39) came m E ec D dc 0 b1 b9 H48 H4 H12 (by omega) (by omega)) ?_
    rintro _ w60 ⟨ob56, cap57, rest58, rfl, K59, H61, H62, hn63⟩
    have nob56 : w.heap.size ≤ ob56 := by have := K0.size; omega
    have lob56r : r < ob56 := by have := H48.lt; omega
    have lob56g : g < ob56 := by have := H0.lt; omega
    have lob56b1 : b1 < ob56 := by have := H4.lt; omega
    have lob56b9 : b9 < ob56 := by have := H12.lt; omega
    have lob56b39 : b39 < ob56 := by have := H42.lt; omega
    have ot64 : ∀ i, T i → i ≠ ob56 := fun i hi => by have := Ents.lt hE i hi; omega
    have of65 : ∀ i, (KF kv) i → i ≠ ob56 := fun i hi => by have := ImgK.lt hKv i hi; omega
    refine ⟨_, _, rfl, rfl, ?_⟩
    replace K0 := K0.trans K59 (U := (fun i => i = r ∨ i = g)) (fun i h1 h2 => h2) (fun i h1 h2 => by have h2 : i = r := h2; show i = r ∨ i = g; omega)
    replace H0 := H0.k1 K59 (by omega)
    replace H4 := H4.k1 K59 (by omega)
    replace H12 := H12.k1 K59 (by omega)
    replace H42 := H42.k1 K59 (by omega)
    replace hE := Ents.keep hE K59 hrT
    replace hKv := ImgK.keep hKv K59 hKr
    clear K59
    refine od ?_
    refine ⟨(Value.tuple #[]), retv_none rfl, ?_⟩
    exact ⟨(⟨s.term, s.voted, m.frm, s.commit, 0, s.base, s.old, (l.map EntP.key)⟩ : FolS), (Value.slice (some ⟨ob56, 0, none⟩) 1 cap57), (⟨6, m.frm, s.term, m.index, 0, false⟩ : OutM), rfl, (K0.mono (fun i _ h => by rcases h with h | h; (rw [h]; exact hFr); (rw [h]; exact hFg))), ⟨g, T, (fun i => i = b39 ∨ ((Value.slice none 0 0)).ownBlock = some i), A, c, l, kv, (ptr b39), came, H61, H0, hE, rfl, hKv, ⟨fun i hi => by rcases hi with hi | hi; (rw [hi]; exact H42.lt); (cases hi), .inr ⟨b39, m.index, m.logTerm, none, 0, [], rfl, H42, (World.ownsRow_nil _ _ _ _), (by (try simp only [List.length_append]); (try simp only [List.length_nil]); omega), .inl rfl, (fun i hi => by cases hi)⟩⟩, fun i hi => ⟨hrT i hi, hT i hi, fun h => by rcases h with h | h; (exact ot45 i hi h); (cases h), .inl (hT7 i hi).2.2.2, Ents.lt hE i hi⟩, fun i hi => ⟨hKr i hi, hKg i hi, fun h => by rcases h with h | h; (exact of46 i hi h); (cases h), .inl (hK8 i hi).2.2.2, ImgK.lt hKv i hi⟩, fun i hi => by rcases hi with hi | hi; (rw [hi]; exact ⟨by omega, by omega, .inr nb39, H42.lt⟩); (cases hi), by omega, ⟨.inl hFr, H61.lt⟩, ⟨.inl hFg, H0.lt⟩, ⟨by show 0 ≤ (s.base : Int) ∧ (s.base : Int) ≤ 1152921504606846976; omega, by show ((l.map EntP.key)).length ≤ 4096; rw [List.length_map]; omega, hBig, by show (s.base : Int) ≤ s.commit ∧ (s.commit : Int) ≤ 2305843009213693952; omega⟩⟩, ⟨ob56, cap57, rest58, rfl, nob56, H62⟩, rfl, rfl, by show s.commit ≤ s.commit; omega, by show (6 : Int) ≠ 2; decide⟩
   ·rw [h54]
    have p66 : 0 = m.commit := of_bne_f h54
    refine qs ?_
    refine qg ?_
    refine og 2 [(2, (ptr b1)), (3, (ptr b9)), (4, (Value.func (Fn.func 65) ⟨[]⟩ ⟨[(ptr b1), (ptr b9)]⟩)), (5, (ptr b39)), (125, (i64 0)), (126, (Value.pointer (some ⟨b9, 10, none⟩)))] 2 ?_
    refine Ops.go (v := (Value.slice D m.data.length dc)) (by kernel_rfl) (Runs.load (t := 37) (a := ⟨b9, 10, none⟩) (by kernel_rfl) (H12.loads (by kernel_rfl))) (d := (some 127)) (by kernel_rfl) rfl ?_
    refine og 2 [(2, (ptr b1)), (3, (ptr b9)), (4, (Value.func (Fn.func 65) ⟨[]⟩ ⟨[(ptr b1), (ptr b9)]⟩)), (5, (ptr b39)), (129, (i64 (IntKind.i64.wrap (0 + ((m.data.length : Nat) : Int)))))] 5 ?_
    have e67 : IntKind.i64.wrap (0 + ((m.data.length : Nat) : Int)) = ((0 + m.data.length : Nat) : Int) := by rw [wrap_i64 (by omega) (by omega)]; omega
    rw [e67]
    clear e67
    refine og 2 [(2, (ptr b1)), (3, (ptr b9)), (4, (Value.func (Fn.func 65) ⟨[]⟩ ⟨[(ptr b1), (ptr b9)]⟩)), (5, (ptr b39)), (124, (Value.bool (decide (((0 + m.data.length : Nat) : Int) > 65536))))] 7 ?_
    refine od ?_
    refine q_cond (o := .tmp 124) (b := (decide (((0 + m.data.length : Nat) : Int) > 65536))) (by kernel_rfl) rfl (fun h68 => ?_) (fun h68 => ?_)
    ·rw [h68]
     have p69 : ((0 + m.data.length : Nat) : Int) > 65536 := of_decide_eq_true h68
     refine qs ?_
     refine qg ?_
     refine Ops.go (v := (ptr r)) (by kernel_rfl) (Runs.load (t := 29) (a := ⟨b1, 0, none⟩) (by kernel_rfl) (H4.loads (by kernel_rfl))) (d := (some 131)) (by kernel_rfl) rfl ?_
     refine og 2 [(2, (ptr b1)), (3, (ptr b9)), (4, (Value.func (Fn.func 65) ⟨[]⟩ ⟨[(ptr b1), (ptr b9)]⟩)), (5, (ptr b39)), (133, (Value.pointer (some ⟨r, 15, none⟩)))] 3 ?_
     refine Ops.put (t := 82) (b := r) (off := 15) (v := (Value.pointer none)) (ys := [(i64 s.term), (i64 s.voted), (i64 0), (i64 m.frm), (i64 s.commit), (i64 q.group), (i64 q.me), (i64 q.n), (ptr g), (i64 0), (i64 q.timeout), (Value.slice none 0 0), (Value.map none), (Value.slice none 0 0), kv, (Value.pointer none), (Value.bool came), (Value.slice none 0 0)]) (by kernel_rfl) (by kernel_rfl) H48 (by kernel_rfl) (d := none) (by kernel_rfl) rfl (fun w70 H71 K72 => ?_)
     clear H48
     replace K0 := K0.trans K72 (U := (fun i => i = r ∨ i = g)) (fun i h1 h2 => h2) (fun i h1 h2 => by have h2 : i = r := h2; show i = r ∨ i = g; omega)
     replace H0 := H0.k1 K72 (by omega)
     replace H4 := H4.k1 K72 (by omega)
     replace H12 := H12.k1 K72 (by omega)
     replace H42 := H42.k1 K72 (by omega)
     replace hE := Ents.keep hE K72 hrT
     replace hKv := ImgK.keep hKv K72 hKr
     clear K72
     refine od ?_
     refine qg ?_
     refine og 1 [(2, (ptr b1)), (3, (ptr b9)), (4, (Value.func (Fn.func 65) ⟨[]⟩ ⟨[(ptr b1), (ptr b9)]⟩)), (5, (ptr b39)), (134, (Value.func (Fn.func 65) ⟨[]⟩ ⟨[(ptr b1), (ptr b9)]⟩))] 1 ?_
     refine Ops.call (by kernel_rfl) (d := (some 135)) (by kernel_rfl) (has_calls _ r g s.term s.voted m.frm s.commit q.group q.me q.n 0 q.timeout kv (Value.pointer none) came m E ec D dc 0 b1 b9 H71 H4 H12 (by omega) (by omega)) ?_
     rintro _ w77 ⟨ob73, cap74, rest75, rfl, K76, H78, H79, hn80⟩
     have nob73 : w.heap.size ≤ ob73 := by have := K0.size; omega
     have lob73r : r < ob73 := by have := H71.lt; omega
     have lob73g : g < ob73 := by have := H0.lt; omega
     have lob73b1 : b1 < ob73 := by have := H4.lt; omega
     have lob73b9 : b9 < ob73 := by have := H12.lt; omega
     have lob73b39 : b39 < ob73 := by have := H42.lt; omega
     have ot81 : ∀ i, T i → i ≠ ob73 := fun i hi => by have := Ents.lt hE i hi; omega
     have of82 : ∀ i, (KF kv) i → i ≠ ob73 := fun i hi => by have := ImgK.lt hKv i hi; omega
     refine ⟨_, _, rfl, rfl, ?_⟩
     replace K0 := K0.trans K76 (U := (fun i => i = r ∨ i = g)) (fun i h1 h2 => h2) (fun i h1 h2 => by have h2 : i = r := h2; show i = r ∨ i = g; omega)
     replace H0 := H0.k1 K76 (by omega)
     replace H4 := H4.k1 K76 (by omega)
     replace H12 := H12.k1 K76 (by omega)
     replace H42 := H42.k1 K76 (by omega)
     replace hE := Ents.keep hE K76 hrT
     replace hKv := ImgK.keep hKv K76 hKr
     clear K76
     refine od ?_
     refine ⟨(Value.tuple #[]), retv_none rfl, ?_⟩
     exact ⟨(⟨s.term, s.voted, m.frm, s.commit, 0, s.base, s.old, (l.map EntP.key)⟩ : FolS), (Value.slice (some ⟨ob73, 0, none⟩) 1 cap74), (⟨6, m.frm, s.term, m.index, 0, false⟩ : OutM), rfl, (K0.mono (fun i _ h => by rcases h with h | h; (rw [h]; exact hFr); (rw [h]; exact hFg))), ⟨g, T, none_, A, c, l, kv, (Value.pointer none), came, H78, H0, hE, rfl, hKv, ⟨fun _ h => h.elim, .inl rfl⟩, fun i hi => ⟨hrT i hi, hT i hi, fun h => h, .inl (hT7 i hi).2.2.2, Ents.lt hE i hi⟩, fun i hi => ⟨hKr i hi, hKg i hi, fun h => h, .inl (hK8 i hi).2.2.2, ImgK.lt hKv i hi⟩, fun i hi => hi.elim, by omega, ⟨.inl hFr, H78.lt⟩, ⟨.inl hFg, H0.lt⟩, ⟨by show 0 ≤ (s.base : Int) ∧ (s.base : Int) ≤ 1152921504606846976; omega, by show ((l.map EntP.key)).length ≤ 4096; rw [List.length_map]; omega, hBig, by show (s.base : Int) ≤ s.commit ∧ (s.commit : Int) ≤ 2305843009213693952; omega⟩⟩, ⟨ob73, cap74, rest75, rfl, nob73, H79⟩, rfl, rfl, by show s.commit ≤ s.commit; omega, by show (6 : Int) ≠ 2; decide⟩
    ·rw [h68]
     have p83 : ¬ (((0 + m.data.length : Nat) : Int) > 65536) := of_decide_eq_false h68
     refine qs ?_
     refine q_draw (fun wz => Keeps (fun i => i = b39) w50 wz) 11 (by kernel_rfl) (by kernel_rfl) (by kernel_rfl) (fun w84 K85 _ _ => ⟨(K85.mono (fun _ _ h => h.elim)), ?_⟩)
     replace K0 := K0.tn K85
     replace H48 := H48.keep K85 (fun h => h)
     replace H0 := H0.keep K85 (fun h => h)
     replace H4 := H4.keep K85 (fun h => h)
     replace H12 := H12.keep K85 (fun h => h)
     replace H42 := H42.keep K85 (fun h => h)
     replace hE := Ents.keep0 hE K85
     replace hKv := ImgK.keep hKv K85 (fun _ _ h => h)
     refine Dr.strong (S' := (fun wz => Keeps (fun i => i = b39) w84 wz)) ((Keeps.refl w84).mono (fun _ _ h => h.elim)) (fun wz hx => K85.trans hx (fun i _ h => h.elim) (fun _ _ h => h)) ?_
     clear K85
     refine Dr.takes (fuel' := 6) (is' := _) [0, 1, 2, 3, 5] [(2, (ptr b1)), (3, (ptr b9)), (4, (Value.func (Fn.func 65) ⟨[]⟩ ⟨[(ptr b1), (ptr b9)]⟩)), (5, (ptr b39)), (73, (ptr b39)), (76, (Value.pointer (some ⟨b39, 2, none⟩))), (78, (Value.pointer (some ⟨b9, 10, none⟩)))] (by kernel_rfl) rfl (by kernel_rfl) ?_
     refine Dr.take (i := 6) (v := (Value.slice D m.data.length dc)) (by kernel_rfl) (by kernel_rfl) (fun wz hS => Runs.load (t := 37) (a := ⟨b9, 10, none⟩) (by kernel_rfl) ((H12.keep hS (by intro h; change b9 = b39 at h; omega)).loads (by kernel_rfl))) (d := (some 79)) (by kernel_rfl) rfl ?_
     refine Dr.go (i := 4) (v := (Value.slice none 0 0)) (by kernel_rfl) (by kernel_rfl) (Runs.load (t := 37) (a := ⟨b39, 2, none⟩) (by kernel_rfl) (H42.loads (by kernel_rfl))) (d := (some 77)) (by kernel_rfl) rfl ((Keeps.refl _).mono (fun _ _ h => h.elim)) ?_
     obtain ⟨v86, w87, hr88, hO89, K90, hg91⟩ := OwnB.app2 (ty := 37) tyB (show OwnB w84 0 5 (.slice none 0 0) [] from World.ownsRow_nil _ _ _ _) (RdB.keepg hD K0 (fun hb i hi h => (hDU hb i hi).1 (by rcases h with h | h; (rw [h]; exact hFr); (rw [h]; exact hFg)))) (by (try simp only [List.length_nil]); omega) (Nat.zero_le _)
     obtain ⟨A93, c94, hf92⟩ := RdB.form (OwnB.rd hO89)
     subst hf92
     replace K90 : Keeps none_ _ _ := K90.mono (fun i _ h => by cases h)
     have ob95 : ∀ i, ((Value.slice A93 (([] ++ m.data).length) c94)).ownBlock = some i → i ≠ r := fun i hi => by rcases hg91 i hi with h | h; (cases h); (have := H48.lt; omega)
     have ob96 : ∀ i, ((Value.slice A93 (([] ++ m.data).length) c94)).ownBlock = some i → i ≠ g := fun i hi => by rcases hg91 i hi with h | h; (cases h); (have := H0.lt; omega)
     have ob97 : ∀ i, ((Value.slice A93 (([] ++ m.data).length) c94)).ownBlock = some i → i ≠ b1 := fun i hi => by rcases hg91 i hi with h | h; (cases h); (have := H4.lt; omega)
     have ob98 : ∀ i, ((Value.slice A93 (([] ++ m.data).length) c94)).ownBlock = some i → i ≠ b9 := fun i hi => by rcases hg91 i hi with h | h; (cases h); (have := H12.lt; omega)
     have ob99 : ∀ i, ((Value.slice A93 (([] ++ m.data).length) c94)).ownBlock = some i → i ≠ b39 := fun i hi => by rcases hg91 i hi with h | h; (cases h); (have := H42.lt; omega)
     have oo100 : ∀ i, ((Value.slice A93 (([] ++ m.data).length) c94)).ownBlock = some i → T i → False := fun i hs hi => by rcases hg91 i hs with h | h; (cases h); (have := Ents.lt hE i hi; omega)
     have oo101 : ∀ i, ((Value.slice A93 (([] ++ m.data).length) c94)).ownBlock = some i → (KF kv) i → False := fun i hs hi => by rcases hg91 i hs with h | h; (cases h); (have := ImgK.lt hKv i hi; omega)
     have hOF102 : ∀ i, ((Value.slice A93 (([] ++ m.data).length) c94)).ownBlock = some i → F i ∨ w.heap.size ≤ i := fun i hi => by rcases hg91 i hi with z | z; (cases z); (exact .inr (Nat.le_trans K0.size z))
     have hln103 : ([] ++ m.data).length = 0 + m.data.length := by rw [List.length_append]; rfl
     replace K0 := K0.tn K90
     replace H48 := H48.keep K90 (fun h => h)
     replace H0 := H0.keep K90 (fun h => h)
     replace H4 := H4.keep K90 (fun h => h)
     replace H12 := H12.keep K90 (fun h => h)
     replace H42 := H42.keep K90 (fun h => h)
     replace hE := Ents.keep0 hE K90
     replace hKv := ImgK.keep hKv K90 (fun _ _ h => h)
     refine Dr.go (i := 7) (v := (Value.slice A93 (([] ++ m.data).length) c94)) (by kernel_rfl) (by kernel_rfl) (Runs.append (ts := #[37, 37]) (ty := 37) (vs := [(Value.slice none 0 0), (Value.slice D m.data.length dc)]) (by kernel_rfl) hr88) (d := (some 80)) (by kernel_rfl) rfl (K90.mono (fun _ _ h => h.elim)) ?_
     refine Dr.strong (S' := (fun wz => Keeps (fun i => i = b39) w87 wz)) ((Keeps.refl w87).mono (fun _ _ h => h.elim)) (fun wz hx => K90.trans hx (fun i _ h => h.elim) (fun _ _ h => h)) ?_
     clear K90 hr88 hg91
     refine Dr.takes (fuel' := 1) (is' := _) [8, 9] [(2, (ptr b1)), (3, (ptr b9)), (4, (Value.func (Fn.func 65) ⟨[]⟩ ⟨[(ptr b1), (ptr b9)]⟩)), (5, (ptr b39)), (80, (Value.slice A93 (([] ++ m.data).length) c94)), (82, (Value.pointer (some ⟨b39, 2, none⟩)))] (by kernel_rfl) rfl (by kernel_rfl) ?_
     refine Dr.put (i := 10) (t := 37) (b := b39) (off := 2) (v := (Value.slice A93 (([] ++ m.data).length) c94)) (ys := [(i64 m.index), (i64 m.logTerm), (Value.slice A93 (([] ++ m.data).length) c94)]) (by kernel_rfl) (by kernel_rfl) (by kernel_rfl) H42 (by kernel_rfl) (d := none) (by kernel_rfl) rfl (fun w104 H105 K106 => ?_)
     clear H42
     replace K0 := K0.trans K106 (U := (fun i => i = r ∨ i = g)) (fun i h1 h2 => h2) (fun i h1 h2 => by have h2 : i = b39 := h2; show i = r ∨ i = g; omega)
     replace H48 := H48.k1 K106 (by omega)
     replace H0 := H0.k1 K106 (by omega)
     replace H4 := H4.k1 K106 (by omega)
     replace H12 := H12.k1 K106 (by omega)
     replace hE := Ents.keep hE K106 ot45
     replace hKv := ImgK.keep hKv K106 of46
     replace hO89 := own_keep hO89 K106 (fun i hi => by have := ob99 i hi; omega)
     refine ⟨K106, ?_⟩
     refine Dr.strong (S' := (fun wz => Keeps (fun i => i = b39) w104 wz)) ((Keeps.refl w104).mono (fun _ _ h => h.elim)) (fun wz hx => K106.trans hx (fun i _ h => by have h : i = b39 := h; show i = b39; omega) (fun _ _ h => h)) ?_
     clear K106
     refine Dr.done (by kernel_rfl) ?_
     refine qs ?_
     refine qs ?_
     refine qg ?_
     refine og 1 [(2, (ptr b1)), (3, (ptr b9)), (4, (Value.func (Fn.func 65) ⟨[]⟩ ⟨[(ptr b1), (ptr b9)]⟩)), (5, (ptr b39)), (83, (Value.pointer (some ⟨b9, 8, none⟩)))] 1 ?_
     refine Ops.go (v := (Value.bool m.ok)) (by kernel_rfl) (Runs.load (t := 4) (a := ⟨b9, 8, none⟩) (by kernel_rfl) (H12.loads (by kernel_rfl))) (d := (some 84)) (by kernel_rfl) rfl ?_
     refine og 1 [(2, (ptr b1)), (3, (ptr b9)), (4, (Value.func (Fn.func 65) ⟨[]⟩ ⟨[(ptr b1), (ptr b9)]⟩)), (5, (ptr b39)), (85, (Value.bool (!m.ok)))] 3 ?_
     refine od ?_
     refine q_cond (o := .tmp 85) (b := (!m.ok)) (by kernel_rfl) rfl (fun h107 => ?_) (fun h107 => ?_)
     ·rw [h107]
      have p108 : m.ok = false := (bnot_true h107)
      refine qs ?_
      refine qg ?_
      refine og 4 [(2, (ptr b1)), (3, (ptr b9)), (4, (Value.func (Fn.func 65) ⟨[]⟩ ⟨[(ptr b1), (ptr b9)]⟩)), (5, (ptr b39)), (86, (Value.func (Fn.func 65) ⟨[]⟩ ⟨[(ptr b1), (ptr b9)]⟩)), (89, (Value.pointer (some ⟨b39, 2, none⟩)))] 4 ?_
      refine Ops.go (v := (Value.slice A93 (([] ++ m.data).length) c94)) (by kernel_rfl) (Runs.load (t := 37) (a := ⟨b39, 2, none⟩) (by kernel_rfl) (H105.loads (by kernel_rfl))) (d := (some 90)) (by kernel_rfl) rfl ?_
      refine og 1 [(2, (ptr b1)), (3, (ptr b9)), (4, (Value.func (Fn.func 65) ⟨[]⟩ ⟨[(ptr b1), (ptr b9)]⟩)), (5, (ptr b39)), (86, (Value.func (Fn.func 65) ⟨[]⟩ ⟨[(ptr b1), (ptr b9)]⟩)), (91, (i64 ((([] ++ m.data).length : Nat) : Int)))] 6 ?_
      refine Ops.call (by kernel_rfl) (d := (some 92)) (by kernel_rfl) (has_calls _ r g s.term s.voted m.frm s.commit q.group q.me q.n 0 q.timeout kv (ptr b39) came m E ec D dc ((([] ++ m.data).length : Nat) : Int) b1 b9 H48 H4 H12 (by omega) (by omega)) ?_
      rintro _ w113 ⟨ob109, cap110, rest111, rfl, K112, H114, H115, hn116⟩
      have nob109 : w.heap.size ≤ ob109 := by have := K0.size; omega
      have lob109r : r < ob109 := by have := H48.lt; omega
      have lob109g : g < ob109 := by have := H0.lt; omega
      have lob109b1 : b1 < ob109 := by have := H4.lt; omega
      have lob109b9 : b9 < ob109 := by have := H12.lt; omega
      have lob109b39 : b39 < ob109 := by have := H105.lt; omega
      have ot117 : ∀ i, T i → i ≠ ob109 := fun i hi => by have := Ents.lt hE i hi; omega
      have of118 : ∀ i, (KF kv) i → i ≠ ob109 := fun i hi => by have := ImgK.lt hKv i hi; omega
      have ob119 : ∀ i, ((Value.slice A93 (([] ++ m.data).length) c94)).ownBlock = some i → i ≠ ob109 := fun i hi => by have := (World.ownsRow.lt hO89 i hi).2; omega
      refine ⟨_, _, rfl, rfl, ?_⟩
      replace K0 := K0.trans K112 (U := (fun i => i = r ∨ i = g)) (fun i h1 h2 => h2) (fun i h1 h2 => by have h2 : i = r := h2; show i = r ∨ i = g; omega)
      replace H0 := H0.k1 K112 (by omega)
      replace H4 := H4.k1 K112 (by omega)
      replace H12 := H12.k1 K112 (by omega)
      replace H105 := H105.k1 K112 (by omega)
      replace hE := Ents.keep hE K112 hrT
      replace hKv := ImgK.keep hKv K112 hKr
      replace hO89 := own_keep hO89 K112 (fun i hi => by have := ob95 i hi; omega)
      clear K112
      refine od ?_
      refine q_ret (by kernel_rfl) ?_
      refine ⟨(Value.tuple #[]), retv_none rfl, ?_⟩
      exact ⟨(⟨s.term, s.voted, m.frm, s.commit, 0, s.base, s.old, (l.map EntP.key)⟩ : FolS), (Value.slice (some ⟨ob109, 0, none⟩) 1 cap110), (⟨6, m.frm, s.term, m.index, ((([] ++ m.data).length : Nat) : Int), false⟩ : OutM), rfl, (K0.mono (fun i _ h => by rcases h with h | h; (rw [h]; exact hFr); (rw [h]; exact hFg))), ⟨g, T, (fun i => i = b39 ∨ ((Value.slice A93 (([] ++ m.data).length) c94)).ownBlock = some i), A, c, l, kv, (ptr b39), came, H114, H0, hE, rfl, hKv, ⟨fun i hi => by rcases hi with hi | hi; (rw [hi]; exact H105.lt); (exact (World.ownsRow.lt hO89 i hi).2), .inr ⟨b39, m.index, m.logTerm, A93, c94, ([] ++ m.data), rfl, H105, own_base hO89 (Nat.zero_le _), (by (try simp only [List.length_append]); (try simp only [List.length_nil]); omega), .inl rfl, (fun i hi => ⟨.inr hi, ob99 i hi⟩)⟩⟩, fun i hi => ⟨hrT i hi, hT i hi, fun h => by rcases h with h | h; (exact ot45 i hi h); (exact oo100 i h hi), .inl (hT7 i hi).2.2.2, Ents.lt hE i hi⟩, fun i hi => ⟨hKr i hi, hKg i hi, fun h => by rcases h with h | h; (exact of46 i hi h); (exact oo101 i h hi), .inl (hK8 i hi).2.2.2, ImgK.lt hKv i hi⟩, fun i hi => by rcases hi with hi | hi; (rw [hi]; exact ⟨by omega, by omega, .inr nb39, H105.lt⟩); (exact ⟨ob95 i hi, ob96 i hi, hOF102 i hi, (World.ownsRow.lt hO89 i hi).2⟩), by omega, ⟨.inl hFr, H114.lt⟩, ⟨.inl hFg, H0.lt⟩, ⟨by show 0 ≤ (s.base : Int) ∧ (s.base : Int) ≤ 1152921504606846976; omega, by show ((l.map EntP.key)).length ≤ 4096; rw [List.length_map]; omega, hBig, by show (s.base : Int) ≤ s.commit ∧ (s.commit : Int) ≤ 2305843009213693952; omega⟩⟩, ⟨ob109, cap110, rest111, rfl, nob109, H115⟩, rfl, rfl, by show s.commit ≤ s.commit; omega, by show (6 : Int) ≠ 2; decide⟩
     ·rw [h107]
      have p120 : m.ok = true := (bnot_false h107)
      refine q_skip (by kernel_rfl) ?_
      refine qs ?_
      refine qg ?_
      refine Ops.go (v := (ptr r)) (by kernel_rfl) (Runs.load (t := 29) (a := ⟨b1, 0, none⟩) (by kernel_rfl) (H4.loads (by kernel_rfl))) (d := (some 93)) (by kernel_rfl) rfl ?_
      refine og 2 [(2, (ptr b1)), (3, (ptr b9)), (4, (Value.func (Fn.func 65) ⟨[]⟩ ⟨[(ptr b1), (ptr b9)]⟩)), (5, (ptr b39)), (95, (Value.pointer (some ⟨r, 15, none⟩)))] 3 ?_
      refine Ops.put (t := 82) (b := r) (off := 15) (v := (Value.pointer none)) (ys := [(i64 s.term), (i64 s.voted), (i64 0), (i64 m.frm), (i64 s.commit), (i64 q.group), (i64 q.me), (i64 q.n), (ptr g), (i64 0), (i64 q.timeout), (Value.slice none 0 0), (Value.map none), (Value.slice none 0 0), kv, (Value.pointer none), (Value.bool came), (Value.slice none 0 0)]) (by kernel_rfl) (by kernel_rfl) H48 (by kernel_rfl) (d := none) (by kernel_rfl) rfl (fun w121 H122 K123 => ?_)
      clear H48
      replace K0 := K0.trans K123 (U := (fun i => i = r ∨ i = g)) (fun i h1 h2 => h2) (fun i h1 h2 => by have h2 : i = r := h2; show i = r ∨ i = g; omega)
      replace H0 := H0.k1 K123 (by omega)
      replace H4 := H4.k1 K123 (by omega)
      replace H12 := H12.k1 K123 (by omega)
      replace H105 := H105.k1 K123 (by omega)
      replace hE := Ents.keep hE K123 hrT
      replace hKv := ImgK.keep hKv K123 hKr
      replace hO89 := own_keep hO89 K123 (fun i hi => by have := ob95 i hi; omega)
      clear K123
      refine od ?_
      refine qs ?_
      refine qs ?_
      refine qg ?_
      refine og 1 [(2, (ptr b1)), (3, (ptr b9)), (4, (Value.func (Fn.func 65) ⟨[]⟩ ⟨[(ptr b1), (ptr b9)]⟩)), (5, (ptr b39)), (96, (Value.pointer (some ⟨b9, 6, none⟩)))] 1 ?_
      refine Ops.go (v := (i64 m.logTerm)) (by kernel_rfl) (Runs.load (t := 2) (a := ⟨b9, 6, none⟩) (by kernel_rfl) (H12.loads (by kernel_rfl))) (d := (some 97)) (by kernel_rfl) rfl ?_
      refine og 1 [(2, (ptr b1)), (3, (ptr b9)), (4, (Value.func (Fn.func 65) ⟨[]⟩ ⟨[(ptr b1), (ptr b9)]⟩)), (5, (ptr b39)), (97, (i64 m.logTerm)), (98, (Value.pointer (some ⟨b9, 4, none⟩)))] 3 ?_
      refine Ops.go (v := (i64 m.term)) (by kernel_rfl) (Runs.load (t := 2) (a := ⟨b9, 4, none⟩) (by kernel_rfl) (H12.loads (by kernel_rfl))) (d := (some 99)) (by kernel_rfl) rfl ?_
      refine og 2 [(2, (ptr b1)), (3, (ptr b9)), (4, (Value.func (Fn.func 65) ⟨[]⟩ ⟨[(ptr b1), (ptr b9)]⟩)), (5, (ptr b39)), (101, (Value.bool (decide (m.logTerm > m.term))))] 6 ?_
      refine Ops.split (decide (m.logTerm > m.term)) (fun h124 => ?_) (fun h124 => ?_)
      ·rw [h124]
       have p125 : m.logTerm > m.term := of_decide_eq_true h124
       refine og 5 [(2, (ptr b1)), (3, (ptr b9)), (4, (Value.func (Fn.func 65) ⟨[]⟩ ⟨[(ptr b1), (ptr b9)]⟩)), (106, (Value.bool true))] 11 ?_
       refine od ?_
       refine q_then (o := .tmp 106) (by kernel_rfl) rfl ?_
       refine qs ?_
       refine qg ?_
       refine og 1 [(2, (ptr b1)), (3, (ptr b9)), (107, (Value.func (Fn.func 65) ⟨[]⟩ ⟨[(ptr b1), (ptr b9)]⟩))] 1 ?_
       refine Ops.call (by kernel_rfl) (d := (some 108)) (by kernel_rfl) (has_calls _ r g s.term s.voted m.frm s.commit q.group q.me q.n 0 q.timeout kv (Value.pointer none) came m E ec D dc 0 b1 b9 H122 H4 H12 (by omega) (by omega)) ?_
       rintro _ w130 ⟨ob126, cap127, rest128, rfl, K129, H131, H132, hn133⟩
       have nob126 : w.heap.size ≤ ob126 := by have := K0.size; omega
       have lob126r : r < ob126 := by have := H122.lt; omega
       have lob126g : g < ob126 := by have := H0.lt; omega
       have lob126b1 : b1 < ob126 := by have := H4.lt; omega
       have lob126b9 : b9 < ob126 := by have := H12.lt; omega
       have lob126b39 : b39 < ob126 := by have := H105.lt; omega
       have ot134 : ∀ i, T i → i ≠ ob126 := fun i hi => by have := Ents.lt hE i hi; omega
       have of135 : ∀ i, (KF kv) i → i ≠ ob126 := fun i hi => by have := ImgK.lt hKv i hi; omega
       have ob136 : ∀ i, ((Value.slice A93 (([] ++ m.data).length) c94)).ownBlock = some i → i ≠ ob126 := fun i hi => by have := (World.ownsRow.lt hO89 i hi).2; omega
       refine ⟨_, _, rfl, rfl, ?_⟩
       replace K0 := K0.trans K129 (U := (fun i => i = r ∨ i = g)) (fun i h1 h2 => h2) (fun i h1 h2 => by have h2 : i = r := h2; show i = r ∨ i = g; omega)
       replace H0 := H0.k1 K129 (by omega)
       replace H4 := H4.k1 K129 (by omega)
       replace H12 := H12.k1 K129 (by omega)
       replace H105 := H105.k1 K129 (by omega)
       replace hE := Ents.keep hE K129 hrT
       replace hKv := ImgK.keep hKv K129 hKr
       replace hO89 := own_keep hO89 K129 (fun i hi => by have := ob95 i hi; omega)
       clear K129
       refine od ?_
       refine q_ret (by kernel_rfl) ?_
       refine ⟨(Value.tuple #[]), retv_none rfl, ?_⟩
       exact ⟨(⟨s.term, s.voted, m.frm, s.commit, 0, s.base, s.old, (l.map EntP.key)⟩ : FolS), (Value.slice (some ⟨ob126, 0, none⟩) 1 cap127), (⟨6, m.frm, s.term, m.index, 0, false⟩ : OutM), rfl, (K0.mono (fun i _ h => by rcases h with h | h; (rw [h]; exact hFr); (rw [h]; exact hFg))), ⟨g, T, none_, A, c, l, kv, (Value.pointer none), came, H131, H0, hE, rfl, hKv, ⟨fun _ h => h.elim, .inl rfl⟩, fun i hi => ⟨hrT i hi, hT i hi, fun h => h, .inl (hT7 i hi).2.2.2, Ents.lt hE i hi⟩, fun i hi => ⟨hKr i hi, hKg i hi, fun h => h, .inl (hK8 i hi).2.2.2, ImgK.lt hKv i hi⟩, fun i hi => hi.elim, by omega, ⟨.inl hFr, H131.lt⟩, ⟨.inl hFg, H0.lt⟩, ⟨by show 0 ≤ (s.base : Int) ∧ (s.base : Int) ≤ 1152921504606846976; omega, by show ((l.map EntP.key)).length ≤ 4096; rw [List.length_map]; omega, hBig, by show (s.base : Int) ≤ s.commit ∧ (s.commit : Int) ≤ 2305843009213693952; omega⟩⟩, ⟨ob126, cap127, rest128, rfl, nob126, H132⟩, rfl, rfl, by show s.commit ≤ s.commit; omega, by show (6 : Int) ≠ 2; decide⟩
      ·rw [h124]
       have p137 : ¬ (m.logTerm > m.term) := of_decide_eq_false h124
       refine Ops.go (v := (ptr r)) (by kernel_rfl) (Runs.load (t := 29) (a := ⟨b1, 0, none⟩) (by kernel_rfl) (H4.loads (by kernel_rfl))) (d := (some 102)) (by kernel_rfl) rfl ?_
       refine og 1 [(2, (ptr b1)), (3, (ptr b9)), (4, (Value.func (Fn.func 65) ⟨[]⟩ ⟨[(ptr b1), (ptr b9)]⟩)), (101, (Value.bool false)), (102, (ptr r)), (103, (ptr b39))] 8 ?_
       refine Ops.call (by kernel_rfl) (d := (some 104)) (by kernel_rfl) (install_calls _ r g s.term s.voted m.frm s.commit q.group q.me q.n 0 q.timeout kv came T s.base s.old A c l b39 m.index m.logTerm A93 (([] ++ m.data).length) c94 H122 H0 hE hT (by omega) (by omega) (by omega) hrT hBig H105 ot45 ⟨by omega, by omega⟩ (by omega) (by omega) (by omega) (by omega)) ?_
       rintro _ w149 ⟨bb138, g139, base140, old141, A142, c143, l144, T145, cm146, kv147, came148, rfl, K150, H151, H152, hE153, hl154, hb155, hT156, hg157, hr158, hB159, hc160, (rfl | rfl)⟩
       ·refine ⟨_, _, rfl, rfl, ?_⟩
        have ot161 : ∀ i, T145 i → i ≠ r := fun i hi => (hT156 i hi).2.1
        have ot162 : ∀ i, T145 i → i ≠ b1 := fun i hi => by rcases (hT156 i hi).2.2 with z | z; (exact ot7 i z); (have := H4.lt; omega)
        have dg139b1 : g139 ≠ b1 := by have := H4.lt; omega
        have ot163 : ∀ i, T145 i → i ≠ b9 := fun i hi => by rcases (hT156 i hi).2.2 with z | z; (exact ot15 i z); (have := H12.lt; omega)
        have dg139b9 : g139 ≠ b9 := by have := H12.lt; omega
        have ot164 : ∀ i, T145 i → i ≠ b39 := fun i hi => by rcases (hT156 i hi).2.2 with z | z; (exact ot45 i z); (have := H105.lt; omega)
        have dg139b39 : g139 ≠ b39 := by have := H105.lt; omega
        have ot165 : ∀ i, T145 i → i ≠ g139 := fun i hi => (hT156 i hi).1
        have of166 : ∀ i, (KF kv) i → i ≠ g139 := fun i hi => by have := hKg i hi; have := ImgK.lt hKv i hi; omega
        have ob167 : ∀ i, ((Value.slice A93 (([] ++ m.data).length) c94)).ownBlock = some i → i ≠ g139 := fun i hi => by have := ob96 i hi; have := (World.ownsRow.lt hO89 i hi).2; omega
        have oo168 : ∀ i, ((Value.slice A93 (([] ++ m.data).length) c94)).ownBlock = some i → T145 i → False := fun i hs hi => by rcases (hT156 i hi).2.2 with z | z; (exact oo100 i hs z); (have := (World.ownsRow.lt hO89 i hs).2; omega)
        have or169 : ∀ i, T145 i → T i ∨ w.heap.size ≤ i := fun i hi => (hT156 i hi).2.2.elim (fun z => .inl z) (fun z => .inr (Nat.le_trans K0.size z))
        have fg139 : F g139 ∨ w.heap.size ≤ g139 := by rcases hg157 with z | z; (rw [z]; exact .inl hFg); (exact .inr (Nat.le_trans K0.size z))
        replace K0 := K0.trans K150 (U := (fun i => i = r ∨ i = g)) (fun i h1 h2 => h2) (fun i h1 h2 => by have h2 : i = r ∨ i = g := h2; show i = r ∨ i = g; omega)
        replace H4 := H4.keep K150 (by intro h; change b1 = r ∨ b1 = g at h; omega)
        replace H12 := H12.keep K150 (by intro h; change b9 = r ∨ b9 = g at h; omega)
        replace H105 := H105.keep K150 (by intro h; change b39 = r ∨ b39 = g at h; omega)
        replace hE := Ents.keep hE K150 (fun i hi hs => by have hs : i = r ∨ i = g := hs; rcases hs with hs | hs; (have := hrT i hi; omega); (have := hT i hi; omega))
        replace hKv := ImgK.keep hKv K150 (fun i hi hs => by have hs : i = r ∨ i = g := hs; rcases hs with hs | hs; (have := hKr i hi; omega); (have := hKg i hi; omega))
        replace hO89 := own_keep hO89 K150 (fun i hi hs => by have hs : i = r ∨ i = g := hs; rcases hs with hs | hs; (have := ob95 i hi; omega); (have := ob96 i hi; omega))
        clear K150
        refine og 2 [(2, (ptr b1)), (3, (ptr b9)), (4, (Value.func (Fn.func 65) ⟨[]⟩ ⟨[(ptr b1), (ptr b9)]⟩)), (106, (Value.bool (!bb138)))] 11 ?_
        refine od ?_
        refine q_cond (o := .tmp 106) (b := (!bb138)) (by kernel_rfl) rfl (fun h170 => ?_) (fun h170 => ?_)
        ·rw [h170]
         have p171 : bb138 = false := (bnot_true h170)
         try rw [p171]
         refine qs ?_
         refine qg ?_
         refine og 1 [(2, (ptr b1)), (3, (ptr b9)), (107, (Value.func (Fn.func 65) ⟨[]⟩ ⟨[(ptr b1), (ptr b9)]⟩))] 1 ?_
         refine Ops.call (by kernel_rfl) (d := (some 108)) (by kernel_rfl) (has_calls _ r g139 s.term s.voted m.frm cm146 q.group q.me q.n 0 q.timeout kv (Value.pointer none) came148 m E ec D dc 0 b1 b9 H151 H4 H12 (by omega) (by omega)) ?_
         rintro _ w176 ⟨ob172, cap173, rest174, rfl, K175, H177, H178, hn179⟩
         have nob172 : w.heap.size ≤ ob172 := by have := K0.size; omega
         have lob172r : r < ob172 := by have := H151.lt; omega
         have lob172b1 : b1 < ob172 := by have := H4.lt; omega
         have lob172b9 : b9 < ob172 := by have := H12.lt; omega
         have lob172b39 : b39 < ob172 := by have := H105.lt; omega
         have lob172g139 : g139 < ob172 := by have := H152.lt; omega
         have ot180 : ∀ i, T i → i ≠ ob172 := fun i hi => by have := Ents.lt hE i hi; omega
         have of181 : ∀ i, (KF kv) i → i ≠ ob172 := fun i hi => by have := ImgK.lt hKv i hi; omega
         have ob182 : ∀ i, ((Value.slice A93 (([] ++ m.data).length) c94)).ownBlock = some i → i ≠ ob172 := fun i hi => by have := (World.ownsRow.lt hO89 i hi).2; omega
         have ot183 : ∀ i, T145 i → i ≠ ob172 := fun i hi => by have := Ents.lt hE153 i hi; omega
         refine ⟨_, _, rfl, rfl, ?_⟩
         replace K0 := K0.trans K175 (U := (fun i => i = r ∨ i = g)) (fun i h1 h2 => h2) (fun i h1 h2 => by have h2 : i = r := h2; show i = r ∨ i = g; omega)
         replace H4 := H4.k1 K175 (by omega)
         replace H12 := H12.k1 K175 (by omega)
         replace H105 := H105.k1 K175 (by omega)
         replace H152 := H152.k1 K175 (by omega)
         replace hE := Ents.keep hE K175 hrT
         replace hKv := ImgK.keep hKv K175 hKr
         replace hO89 := own_keep hO89 K175 (fun i hi => by have := ob95 i hi; omega)
         replace hE153 := Ents.keep hE153 K175 ot161
         clear K175
         refine od ?_
         refine q_ret (by kernel_rfl) ?_
         refine ⟨(Value.tuple #[]), retv_none rfl, ?_⟩
         exact ⟨(⟨s.term, s.voted, m.frm, cm146, 0, base140, old141, (l144.map EntP.key)⟩ : FolS), (Value.slice (some ⟨ob172, 0, none⟩) 1 cap173), (⟨6, m.frm, s.term, m.index, 0, false⟩ : OutM), rfl, (K0.mono (fun i _ h => by rcases h with h | h; (rw [h]; exact hFr); (rw [h]; exact hFg))), ⟨g139, T145, none_, A142, c143, l144, kv, (Value.pointer none), came148, H177, H152, hE153, rfl, hKv, ⟨fun _ h => h.elim, .inl rfl⟩, fun i hi => ⟨ot161 i hi, ot165 i hi, fun h => h, (or169 i hi).imp (fun z => (hT7 i z).2.2.2) id, Ents.lt hE153 i hi⟩, fun i hi => ⟨hKr i hi, of166 i hi, fun h => h, .inl (hK8 i hi).2.2.2, ImgK.lt hKv i hi⟩, fun i hi => hi.elim, by omega, ⟨.inl hFr, H177.lt⟩, ⟨fg139, H152.lt⟩, ⟨by show 0 ≤ (base140 : Int) ∧ (base140 : Int) ≤ 1152921504606846976; omega, by show ((l144.map EntP.key)).length ≤ 4096; rw [List.length_map]; omega, hb155, by show (base140 : Int) ≤ cm146 ∧ (cm146 : Int) ≤ 2305843009213693952; omega⟩⟩, ⟨ob172, cap173, rest174, rfl, nob172, H178⟩, rfl, rfl, by show s.commit ≤ cm146; omega, by show (6 : Int) ≠ 2; decide⟩
        ·rw [h170]
         have p184 : bb138 = true := (bnot_false h170)
         try rw [p184]
         refine q_skip (by kernel_rfl) ?_
         refine qg ?_
         refine Ops.go (v := (ptr r)) (by kernel_rfl) (Runs.load (t := 29) (a := ⟨b1, 0, none⟩) (by kernel_rfl) (H4.loads (by kernel_rfl))) (d := (some 109)) (by kernel_rfl) rfl ?_
         refine og 1 [(3, (ptr b9)), (109, (ptr r)), (110, (Value.pointer (some ⟨b9, 2, none⟩)))] 2 ?_
         refine Ops.go (v := (i64 m.frm)) (by kernel_rfl) (Runs.load (t := 3) (a := ⟨b9, 2, none⟩) (by kernel_rfl) (H12.loads (by kernel_rfl))) (d := (some 111)) (by kernel_rfl) rfl ?_
         refine og 1 [(109, (ptr r)), (111, (i64 m.frm)), (112, (Value.pointer (some ⟨b9, 5, none⟩)))] 4 ?_
         refine Ops.go (v := (i64 m.index)) (by kernel_rfl) (Runs.load (t := 2) (a := ⟨b9, 5, none⟩) (by kernel_rfl) (H12.loads (by kernel_rfl))) (d := (some 113)) (by kernel_rfl) rfl ?_
         refine og 1 [(109, (ptr r)), (111, (i64 m.frm)), (114, (agg [(i64 4), (i64 0), (i64 0), (i64 0), (i64 0), (i64 m.index), (i64 0), (i64 0), (Value.bool true), (Value.slice none 0 0), (Value.slice none 0 0)]))] 6 ?_
         refine Ops.call (by kernel_rfl) (d := (some 115)) (by kernel_rfl) (Fput_calls _ r g139 s.term s.voted m.frm cm146 q.group q.me q.n 0 q.timeout kv (Value.pointer none) came148 m.frm 4 m.index 0 true H151) ?_
         rintro _ w189 ⟨ob185, cap186, rest187, rfl, K188, H190, H191, hn192⟩
         have nob185 : w.heap.size ≤ ob185 := by have := K0.size; omega
         have lob185r : r < ob185 := by have := H151.lt; omega
         have lob185b1 : b1 < ob185 := by have := H4.lt; omega
         have lob185b9 : b9 < ob185 := by have := H12.lt; omega
         have lob185b39 : b39 < ob185 := by have := H105.lt; omega
         have lob185g139 : g139 < ob185 := by have := H152.lt; omega
         have ot193 : ∀ i, T i → i ≠ ob185 := fun i hi => by have := Ents.lt hE i hi; omega
         have of194 : ∀ i, (KF kv) i → i ≠ ob185 := fun i hi => by have := ImgK.lt hKv i hi; omega
         have ob195 : ∀ i, ((Value.slice A93 (([] ++ m.data).length) c94)).ownBlock = some i → i ≠ ob185 := fun i hi => by have := (World.ownsRow.lt hO89 i hi).2; omega
         have ot196 : ∀ i, T145 i → i ≠ ob185 := fun i hi => by have := Ents.lt hE153 i hi; omega
         refine ⟨_, _, rfl, rfl, ?_⟩
         replace K0 := K0.trans K188 (U := (fun i => i = r ∨ i = g)) (fun i h1 h2 => h2) (fun i h1 h2 => by have h2 : i = r := h2; show i = r ∨ i = g; omega)
         replace H4 := H4.k1 K188 (by omega)
         replace H12 := H12.k1 K188 (by omega)
         replace H105 := H105.k1 K188 (by omega)
         replace H152 := H152.k1 K188 (by omega)
         replace hE := Ents.keep hE K188 hrT
         replace hKv := ImgK.keep hKv K188 hKr
         replace hO89 := own_keep hO89 K188 (fun i hi => by have := ob95 i hi; omega)
         replace hE153 := Ents.keep hE153 K188 ot161
         clear K188
         refine od ?_
         refine ⟨(Value.tuple #[]), retv_none rfl, ?_⟩
         exact ⟨(⟨s.term, s.voted, m.frm, cm146, 0, base140, old141, (l144.map EntP.key)⟩ : FolS), (Value.slice (some ⟨ob185, 0, none⟩) 1 cap186), (⟨4, m.frm, s.term, m.index, 0, true⟩ : OutM), rfl, (K0.mono (fun i _ h => by rcases h with h | h; (rw [h]; exact hFr); (rw [h]; exact hFg))), ⟨g139, T145, none_, A142, c143, l144, kv, (Value.pointer none), came148, H190, H152, hE153, rfl, hKv, ⟨fun _ h => h.elim, .inl rfl⟩, fun i hi => ⟨ot161 i hi, ot165 i hi, fun h => h, (or169 i hi).imp (fun z => (hT7 i z).2.2.2) id, Ents.lt hE153 i hi⟩, fun i hi => ⟨hKr i hi, of166 i hi, fun h => h, .inl (hK8 i hi).2.2.2, ImgK.lt hKv i hi⟩, fun i hi => hi.elim, by omega, ⟨.inl hFr, H190.lt⟩, ⟨fg139, H152.lt⟩, ⟨by show 0 ≤ (base140 : Int) ∧ (base140 : Int) ≤ 1152921504606846976; omega, by show ((l144.map EntP.key)).length ≤ 4096; rw [List.length_map]; omega, hb155, by show (base140 : Int) ≤ cm146 ∧ (cm146 : Int) ≤ 2305843009213693952; omega⟩⟩, ⟨ob185, cap186, rest187, rfl, nob185, H191⟩, rfl, rfl, by show s.commit ≤ cm146; omega, by show (4 : Int) ≠ 2; decide⟩
       ·refine ⟨_, _, rfl, rfl, ?_⟩
        have ot161 : ∀ i, T145 i → i ≠ r := fun i hi => (hT156 i hi).2.1
        have ot162 : ∀ i, T145 i → i ≠ b1 := fun i hi => by rcases (hT156 i hi).2.2 with z | z; (exact ot7 i z); (have := H4.lt; omega)
        have dg139b1 : g139 ≠ b1 := by have := H4.lt; omega
        have ot163 : ∀ i, T145 i → i ≠ b9 := fun i hi => by rcases (hT156 i hi).2.2 with z | z; (exact ot15 i z); (have := H12.lt; omega)
        have dg139b9 : g139 ≠ b9 := by have := H12.lt; omega
        have ot164 : ∀ i, T145 i → i ≠ b39 := fun i hi => by rcases (hT156 i hi).2.2 with z | z; (exact ot45 i z); (have := H105.lt; omega)
        have dg139b39 : g139 ≠ b39 := by have := H105.lt; omega
        have ot165 : ∀ i, T145 i → i ≠ g139 := fun i hi => (hT156 i hi).1
        have of166 : ∀ i, (KF kv) i → i ≠ g139 := fun i hi => by have := hKg i hi; have := ImgK.lt hKv i hi; omega
        have ob167 : ∀ i, ((Value.slice A93 (([] ++ m.data).length) c94)).ownBlock = some i → i ≠ g139 := fun i hi => by have := ob96 i hi; have := (World.ownsRow.lt hO89 i hi).2; omega
        have oo168 : ∀ i, ((Value.slice A93 (([] ++ m.data).length) c94)).ownBlock = some i → T145 i → False := fun i hs hi => by rcases (hT156 i hi).2.2 with z | z; (exact oo100 i hs z); (have := (World.ownsRow.lt hO89 i hs).2; omega)
        have or169 : ∀ i, T145 i → T i ∨ w.heap.size ≤ i := fun i hi => (hT156 i hi).2.2.elim (fun z => .inl z) (fun z => .inr (Nat.le_trans K0.size z))
        have fg139 : F g139 ∨ w.heap.size ≤ g139 := by rcases hg157 with z | z; (rw [z]; exact .inl hFg); (exact .inr (Nat.le_trans K0.size z))
        replace K0 := K0.trans K150 (U := (fun i => i = r ∨ i = g)) (fun i h1 h2 => h2) (fun i h1 h2 => by have h2 : i = r ∨ i = g := h2; show i = r ∨ i = g; omega)
        replace H4 := H4.keep K150 (by intro h; change b1 = r ∨ b1 = g at h; omega)
        replace H12 := H12.keep K150 (by intro h; change b9 = r ∨ b9 = g at h; omega)
        replace H105 := H105.keep K150 (by intro h; change b39 = r ∨ b39 = g at h; omega)
        replace hE := Ents.keep hE K150 (fun i hi hs => by have hs : i = r ∨ i = g := hs; rcases hs with hs | hs; (have := hrT i hi; omega); (have := hT i hi; omega))
        replace hKv := ImgK.keep hKv K150 (fun i hi hs => by have hs : i = r ∨ i = g := hs; rcases hs with hs | hs; (have := hKr i hi; omega); (have := hKg i hi; omega))
        replace hO89 := own_keep hO89 K150 (fun i hi hs => by have hs : i = r ∨ i = g := hs; rcases hs with hs | hs; (have := ob95 i hi; omega); (have := ob96 i hi; omega))
        clear K150
        refine og 2 [(2, (ptr b1)), (3, (ptr b9)), (4, (Value.func (Fn.func 65) ⟨[]⟩ ⟨[(ptr b1), (ptr b9)]⟩)), (106, (Value.bool (!bb138)))] 11 ?_
        refine od ?_
        refine q_cond (o := .tmp 106) (b := (!bb138)) (by kernel_rfl) rfl (fun h197 => ?_) (fun h197 => ?_)
        ·rw [h197]
         have p198 : bb138 = false := (bnot_true h197)
         try rw [p198]
         refine qs ?_
         refine qg ?_
         refine og 1 [(2, (ptr b1)), (3, (ptr b9)), (107, (Value.func (Fn.func 65) ⟨[]⟩ ⟨[(ptr b1), (ptr b9)]⟩))] 1 ?_
         refine Ops.call (by kernel_rfl) (d := (some 108)) (by kernel_rfl) (has_calls _ r g139 s.term s.voted m.frm cm146 q.group q.me q.n 0 q.timeout (ptr b39) (Value.pointer none) came148 m E ec D dc 0 b1 b9 H151 H4 H12 (by omega) (by omega)) ?_
         rintro _ w203 ⟨ob199, cap200, rest201, rfl, K202, H204, H205, hn206⟩
         have nob199 : w.heap.size ≤ ob199 := by have := K0.size; omega
         have lob199r : r < ob199 := by have := H151.lt; omega
         have lob199b1 : b1 < ob199 := by have := H4.lt; omega
         have lob199b9 : b9 < ob199 := by have := H12.lt; omega
         have lob199b39 : b39 < ob199 := by have := H105.lt; omega
         have lob199g139 : g139 < ob199 := by have := H152.lt; omega
         have ot207 : ∀ i, T i → i ≠ ob199 := fun i hi => by have := Ents.lt hE i hi; omega
         have of208 : ∀ i, (KF kv) i → i ≠ ob199 := fun i hi => by have := ImgK.lt hKv i hi; omega
         have ob209 : ∀ i, ((Value.slice A93 (([] ++ m.data).length) c94)).ownBlock = some i → i ≠ ob199 := fun i hi => by have := (World.ownsRow.lt hO89 i hi).2; omega
         have ot210 : ∀ i, T145 i → i ≠ ob199 := fun i hi => by have := Ents.lt hE153 i hi; omega
         refine ⟨_, _, rfl, rfl, ?_⟩
         replace K0 := K0.trans K202 (U := (fun i => i = r ∨ i = g)) (fun i h1 h2 => h2) (fun i h1 h2 => by have h2 : i = r := h2; show i = r ∨ i = g; omega)
         replace H4 := H4.k1 K202 (by omega)
         replace H12 := H12.k1 K202 (by omega)
         replace H105 := H105.k1 K202 (by omega)
         replace H152 := H152.k1 K202 (by omega)
         replace hE := Ents.keep hE K202 hrT
         replace hKv := ImgK.keep hKv K202 hKr
         replace hO89 := own_keep hO89 K202 (fun i hi => by have := ob95 i hi; omega)
         replace hE153 := Ents.keep hE153 K202 ot161
         clear K202
         refine od ?_
         refine q_ret (by kernel_rfl) ?_
         refine ⟨(Value.tuple #[]), retv_none rfl, ?_⟩
         exact ⟨(⟨s.term, s.voted, m.frm, cm146, 0, base140, old141, (l144.map EntP.key)⟩ : FolS), (Value.slice (some ⟨ob199, 0, none⟩) 1 cap200), (⟨6, m.frm, s.term, m.index, 0, false⟩ : OutM), rfl, (K0.mono (fun i _ h => by rcases h with h | h; (rw [h]; exact hFr); (rw [h]; exact hFg))), ⟨g139, T145, none_, A142, c143, l144, (ptr b39), (Value.pointer none), came148, H204, H152, hE153, rfl, .inr ⟨b39, m.index, m.logTerm, A93, ([] ++ m.data).length, c94, rfl, H105⟩, ⟨fun _ h => h.elim, .inl rfl⟩, fun i hi => ⟨ot161 i hi, ot165 i hi, fun h => h, (or169 i hi).imp (fun z => (hT7 i z).2.2.2) id, Ents.lt hE153 i hi⟩, fun i hi => by have hi : ptr b39 = ptr i := hi; cases hi; exact ⟨by omega, by omega, fun h => h, .inr nb39, H105.lt⟩, fun i hi => hi.elim, by omega, ⟨.inl hFr, H204.lt⟩, ⟨fg139, H152.lt⟩, ⟨by show 0 ≤ (base140 : Int) ∧ (base140 : Int) ≤ 1152921504606846976; omega, by show ((l144.map EntP.key)).length ≤ 4096; rw [List.length_map]; omega, hb155, by show (base140 : Int) ≤ cm146 ∧ (cm146 : Int) ≤ 2305843009213693952; omega⟩⟩, ⟨ob199, cap200, rest201, rfl, nob199, H205⟩, rfl, rfl, by show s.commit ≤ cm146; omega, by show (6 : Int) ≠ 2; decide⟩
        ·rw [h197]
         have p211 : bb138 = true := (bnot_false h197)
         try rw [p211]
         refine q_skip (by kernel_rfl) ?_
         refine qg ?_
         refine Ops.go (v := (ptr r)) (by kernel_rfl) (Runs.load (t := 29) (a := ⟨b1, 0, none⟩) (by kernel_rfl) (H4.loads (by kernel_rfl))) (d := (some 109)) (by kernel_rfl) rfl ?_
         refine og 1 [(3, (ptr b9)), (109, (ptr r)), (110, (Value.pointer (some ⟨b9, 2, none⟩)))] 2 ?_
         refine Ops.go (v := (i64 m.frm)) (by kernel_rfl) (Runs.load (t := 3) (a := ⟨b9, 2, none⟩) (by kernel_rfl) (H12.loads (by kernel_rfl))) (d := (some 111)) (by kernel_rfl) rfl ?_
         refine og 1 [(109, (ptr r)), (111, (i64 m.frm)), (112, (Value.pointer (some ⟨b9, 5, none⟩)))] 4 ?_
         refine Ops.go (v := (i64 m.index)) (by kernel_rfl) (Runs.load (t := 2) (a := ⟨b9, 5, none⟩) (by kernel_rfl) (H12.loads (by kernel_rfl))) (d := (some 113)) (by kernel_rfl) rfl ?_
         refine og 1 [(109, (ptr r)), (111, (i64 m.frm)), (114, (agg [(i64 4), (i64 0), (i64 0), (i64 0), (i64 0), (i64 m.index), (i64 0), (i64 0), (Value.bool true), (Value.slice none 0 0), (Value.slice none 0 0)]))] 6 ?_
         refine Ops.call (by kernel_rfl) (d := (some 115)) (by kernel_rfl) (Fput_calls _ r g139 s.term s.voted m.frm cm146 q.group q.me q.n 0 q.timeout (ptr b39) (Value.pointer none) came148 m.frm 4 m.index 0 true H151) ?_
         rintro _ w216 ⟨ob212, cap213, rest214, rfl, K215, H217, H218, hn219⟩
         have nob212 : w.heap.size ≤ ob212 := by have := K0.size; omega
         have lob212r : r < ob212 := by have := H151.lt; omega
         have lob212b1 : b1 < ob212 := by have := H4.lt; omega
         have lob212b9 : b9 < ob212 := by have := H12.lt; omega
         have lob212b39 : b39 < ob212 := by have := H105.lt; omega
         have lob212g139 : g139 < ob212 := by have := H152.lt; omega
         have ot220 : ∀ i, T i → i ≠ ob212 := fun i hi => by have := Ents.lt hE i hi; omega
         have of221 : ∀ i, (KF kv) i → i ≠ ob212 := fun i hi => by have := ImgK.lt hKv i hi; omega
         have ob222 : ∀ i, ((Value.slice A93 (([] ++ m.data).length) c94)).ownBlock = some i → i ≠ ob212 := fun i hi => by have := (World.ownsRow.lt hO89 i hi).2; omega
         have ot223 : ∀ i, T145 i → i ≠ ob212 := fun i hi => by have := Ents.lt hE153 i hi; omega
         refine ⟨_, _, rfl, rfl, ?_⟩
         replace K0 := K0.trans K215 (U := (fun i => i = r ∨ i = g)) (fun i h1 h2 => h2) (fun i h1 h2 => by have h2 : i = r := h2; show i = r ∨ i = g; omega)
         replace H4 := H4.k1 K215 (by omega)
         replace H12 := H12.k1 K215 (by omega)
         replace H105 := H105.k1 K215 (by omega)
         replace H152 := H152.k1 K215 (by omega)
         replace hE := Ents.keep hE K215 hrT
         replace hKv := ImgK.keep hKv K215 hKr
         replace hO89 := own_keep hO89 K215 (fun i hi => by have := ob95 i hi; omega)
         replace hE153 := Ents.keep hE153 K215 ot161
         clear K215
         refine od ?_
         refine ⟨(Value.tuple #[]), retv_none rfl, ?_⟩
         exact ⟨(⟨s.term, s.voted, m.frm, cm146, 0, base140, old141, (l144.map EntP.key)⟩ : FolS), (Value.slice (some ⟨ob212, 0, none⟩) 1 cap213), (⟨4, m.frm, s.term, m.index, 0, true⟩ : OutM), rfl, (K0.mono (fun i _ h => by rcases h with h | h; (rw [h]; exact hFr); (rw [h]; exact hFg))), ⟨g139, T145, none_, A142, c143, l144, (ptr b39), (Value.pointer none), came148, H217, H152, hE153, rfl, .inr ⟨b39, m.index, m.logTerm, A93, ([] ++ m.data).length, c94, rfl, H105⟩, ⟨fun _ h => h.elim, .inl rfl⟩, fun i hi => ⟨ot161 i hi, ot165 i hi, fun h => h, (or169 i hi).imp (fun z => (hT7 i z).2.2.2) id, Ents.lt hE153 i hi⟩, fun i hi => by have hi : ptr b39 = ptr i := hi; cases hi; exact ⟨by omega, by omega, fun h => h, .inr nb39, H105.lt⟩, fun i hi => hi.elim, by omega, ⟨.inl hFr, H217.lt⟩, ⟨fg139, H152.lt⟩, ⟨by show 0 ≤ (base140 : Int) ∧ (base140 : Int) ≤ 1152921504606846976; omega, by show ((l144.map EntP.key)).length ≤ 4096; rw [List.length_map]; omega, hb155, by show (base140 : Int) ≤ cm146 ∧ (cm146 : Int) ≤ 2305843009213693952; omega⟩⟩, ⟨ob212, cap213, rest214, rfl, nob212, H218⟩, rfl, rfl, by show s.commit ≤ cm146; omega, by show (4 : Int) ≠ 2; decide⟩
  ·rw [h37]
   have p224 : ¬ (m.commit = 0) := of_beq_f h37
   refine q_skip (by kernel_rfl) ?_
   refine qs ?_
   refine qg ?_
   refine og 2 [(2, (ptr b1)), (3, (ptr b9)), (4, (Value.func (Fn.func 65) ⟨[]⟩ ⟨[(ptr b1), (ptr b9)]⟩))] 2 ?_
   refine od ?_
   refine qs ?_
   refine qg ?_
   refine Ops.go (v := (ptr r)) (by kernel_rfl) (Runs.load (t := 29) (a := ⟨b1, 0, none⟩) (by kernel_rfl) (H4.loads (by kernel_rfl))) (d := (some 42)) (by kernel_rfl) rfl ?_
   refine og 2 [(2, (ptr b1)), (3, (ptr b9)), (4, (Value.func (Fn.func 65) ⟨[]⟩ ⟨[(ptr b1), (ptr b9)]⟩)), (44, (Value.pointer (some ⟨r, 15, none⟩)))] 3 ?_
   refine Ops.go (v := (Value.pointer none)) (by kernel_rfl) (Runs.load (t := 82) (a := ⟨r, 15, none⟩) (by kernel_rfl) (H19.loads (by kernel_rfl))) (d := (some 45)) (by kernel_rfl) rfl ?_
   refine og 1 [(2, (ptr b1)), (3, (ptr b9)), (4, (Value.func (Fn.func 65) ⟨[]⟩ ⟨[(ptr b1), (ptr b9)]⟩)), (5, (Value.pointer none))] 5 ?_
   refine od ?_
   refine qs ?_
   refine qs ?_
   refine q_draw (fun wz => Keeps none_ w20 wz) 20 (by kernel_rfl) (by kernel_rfl) (by kernel_rfl) (fun w225 K226 _ _ => ⟨K226, ?_⟩)
   replace K0 := K0.tn K226
   replace H19 := H19.keep K226 (fun h => h)
   replace H0 := H0.keep K226 (fun h => h)
   replace H4 := H4.keep K226 (fun h => h)
   replace H12 := H12.keep K226 (fun h => h)
   replace hE := Ents.keep0 hE K226
   replace hKv := ImgK.keep hKv K226 (fun _ _ h => h)
   refine Dr.strong (S' := (fun wz => Keeps none_ w225 wz)) (Keeps.refl w225) (fun wz hx => K226.trans hx (fun i _ h => h) (fun _ _ h => h)) ?_
   clear K226
   refine Dr.takes (fuel' := 0) (is' := _) [0, 1, 2, 3, 4, 5, 6, 7, 8, 9, 10, 11, 12, 13, 14, 15, 16, 17, 18, 19] [(2, (ptr b1)), (3, (ptr b9)), (4, (Value.func (Fn.func 65) ⟨[]⟩ ⟨[(ptr b1), (ptr b9)]⟩)), (5, (Value.pointer none)), (65, (Value.bool true))] (by kernel_rfl) rfl (by kernel_rfl) ?_
   refine Dr.done (by kernel_rfl) ?_
   refine q_then (o := .tmp 65) (by kernel_rfl) rfl ?_
   refine qs ?_
   refine qg ?_
   refine og 1 [(2, (ptr b1)), (3, (ptr b9)), (4, (Value.func (Fn.func 65) ⟨[]⟩ ⟨[(ptr b1), (ptr b9)]⟩)), (5, (Value.pointer none)), (66, (Value.func (Fn.func 65) ⟨[]⟩ ⟨[(ptr b1), (ptr b9)]⟩))] 1 ?_
   refine Ops.call (by kernel_rfl) (d := (some 67)) (by kernel_rfl) (has_calls _ r g s.term s.voted m.frm s.commit q.group q.me q.n 0 q.timeout kv (Value.pointer none) came m E ec D dc 0 b1 b9 H19 H4 H12 (by omega) (by omega)) ?_
   rintro _ w231 ⟨ob227, cap228, rest229, rfl, K230, H232, H233, hn234⟩
   have nob227 : w.heap.size ≤ ob227 := by have := K0.size; omega
   have lob227r : r < ob227 := by have := H19.lt; omega
   have lob227g : g < ob227 := by have := H0.lt; omega
   have lob227b1 : b1 < ob227 := by have := H4.lt; omega
   have lob227b9 : b9 < ob227 := by have := H12.lt; omega
   have ot235 : ∀ i, T i → i ≠ ob227 := fun i hi => by have := Ents.lt hE i hi; omega
   have of236 : ∀ i, (KF kv) i → i ≠ ob227 := fun i hi => by have := ImgK.lt hKv i hi; omega
   refine ⟨_, _, rfl, rfl, ?_⟩
   replace K0 := K0.trans K230 (U := (fun i => i = r ∨ i = g)) (fun i h1 h2 => h2) (fun i h1 h2 => by have h2 : i = r := h2; show i = r ∨ i = g; omega)
   replace H0 := H0.k1 K230 (by omega)
   replace H4 := H4.k1 K230 (by omega)
   replace H12 := H12.k1 K230 (by omega)
   replace hE := Ents.keep hE K230 hrT
   replace hKv := ImgK.keep hKv K230 hKr
   clear K230
   refine od ?_
   refine q_ret (by kernel_rfl) ?_
   refine ⟨(Value.tuple #[]), retv_none rfl, ?_⟩
   exact ⟨(⟨s.term, s.voted, m.frm, s.commit, 0, s.base, s.old, (l.map EntP.key)⟩ : FolS), (Value.slice (some ⟨ob227, 0, none⟩) 1 cap228), (⟨6, m.frm, s.term, m.index, 0, false⟩ : OutM), rfl, (K0.mono (fun i _ h => by rcases h with h | h; (rw [h]; exact hFr); (rw [h]; exact hFg))), ⟨g, T, none_, A, c, l, kv, (Value.pointer none), came, H232, H0, hE, rfl, hKv, ⟨fun _ h => h.elim, .inl rfl⟩, fun i hi => ⟨hrT i hi, hT i hi, fun h => h, .inl (hT7 i hi).2.2.2, Ents.lt hE i hi⟩, fun i hi => ⟨hKr i hi, hKg i hi, fun h => h, .inl (hK8 i hi).2.2.2, ImgK.lt hKv i hi⟩, fun i hi => hi.elim, by omega, ⟨.inl hFr, H232.lt⟩, ⟨.inl hFg, H0.lt⟩, ⟨by show 0 ≤ (s.base : Int) ∧ (s.base : Int) ≤ 1152921504606846976; omega, by show ((l.map EntP.key)).length ≤ 4096; rw [List.length_map]; omega, hBig, by show (s.base : Int) ≤ s.commit ∧ (s.commit : Int) ≤ 2305843009213693952; omega⟩⟩, ⟨ob227, cap228, rest229, rfl, nob227, H233⟩, rfl, rfl, by show s.commit ≤ s.commit; omega, by show (6 : Int) ≠ 2; decide⟩

set_option maxHeartbeats 4000000 in
theorem snap_some (w : World) (F : Nat → Prop) (r : Nat) (q : FolQ) (s : FolS) (g : Nat) (T CF : Nat → Prop) (A : Option Addr) (c : Nat) (l : List EntP) (kv : Value) (came : Bool) (cb : Nat) (ca ct : Int) (CD : Option Addr) (cdc : Nat) (cdata : List UInt8) (m : MsgP) (E : Option Addr) (ec : Nat) (D : Option Addr) (dc : Nat) (Hr : Has w r (rowL [(i64 s.term), (i64 s.voted), (i64 0), (i64 s.leader), (i64 s.commit), (i64 q.group), (i64 q.me), (i64 q.n), (ptr g), (i64 s.elapsed), (i64 q.timeout), (Value.slice none 0 0), (Value.map none), (Value.slice none 0 0), kv, (ptr cb), (Value.bool came), (Value.slice none 0 0)] 84)) (H0 : Has w g (rowL [i64 s.base, i64 s.old, .slice A l.length c] 78)) (hE : Ents w T (.slice A l.length c) l) (hK : l.map EntP.key = s.ks) (hKv : ImgK w kv) (hC0 : ∀ i, CF i → i < w.heap.size) (hT7 : ∀ i, T i → i ≠ r ∧ i ≠ g ∧ ¬ CF i ∧ F i) (hK8 : ∀ i, KF kv i → i ≠ r ∧ i ≠ g ∧ ¬ CF i ∧ F i) (hC9 : ∀ i, CF i → i ≠ r ∧ i ≠ g ∧ F i) (hrg : r ≠ g) (hFr : F r) (hFg : F g) (hOk : s.Ok) (Hcb : Has w cb (rowL [i64 ca, i64 ct, .slice CD cdata.length cdc] 110)) (hOw : OwnB w 0 5 (.slice CD cdata.length cdc) cdata) (hcl : cdata.length ≤ 65536) (hCc : CF cb) (hCi : ∀ i, (Value.slice CD cdata.length cdc).ownBlock = some i → CF i ∧ i ≠ cb) (hD : RdB w (.slice D m.data.length dc) m.data) (hDU : m.data ≠ [] → ∀ i, (Value.slice D m.data.length dc).ownBlock = some i → ¬ F i ∧ i < w.heap.size) (hdb : m.data.length ≤ 140737488351232) (hmi : 0 ≤ m.index ∧ m.index ≤ 1152921504606846976 ∧ 0 ≤ m.commit ∧ m.commit ≤ 1152921504606846976) : Calls Try.prog 51 ⟨[(ptr r), (MV m.kind m.ok m E ec D dc)]⟩ w (fun e w' => ∃ (s' : FolS) (ov : Value) (o : OutM), e = .returned (.tuple #[]) ∧ Keeps F w w' ∧ Fol w' (fun i => (F i ∨ w.heap.size ≤ i) ∧ i < w'.heap.size) r q s' ov ∧ OutIs w' w.heap.size q ov (some o) ∧ s'.term = s.term ∧ s'.voted = s.voted ∧ s.commit ≤ s'.commit ∧ o.kind ≠ 2) := by
 have hT : ∀ i, T i → i ≠ g := fun i hi => (hT7 i hi).2.1
 have hrT : ∀ i, T i → i ≠ r := fun i hi => (hT7 i hi).1
 have hL : l.length ≤ 4096 := by have z := hOk.len; rw [← hK, List.length_map] at z; exact z
 have hBig : BigK (l.map EntP.key) := by rw [hK]; exact hOk.big
 have hB := hOk.base
 have hCm := hOk.commit
 have hKr : ∀ i, KF kv i → i ≠ r := fun i hi => (hK8 i hi).1
 have hKg : ∀ i, KF kv i → i ≠ g := fun i hi => (hK8 i hi).2.1
 have hcap := Ents.len hE
 have Hg := H0.lt
 have Hrl := Hr.lt
 have hCr : ∀ i, CF i → i ≠ r := fun i hi => (hC9 i hi).1
 have hCg : ∀ i, CF i → i ≠ g := fun i hi => (hC9 i hi).2.1
 have hTcb : ∀ i, T i → i ≠ cb := fun i hi h => (hT7 i hi).2.2.1 (h ▸ hCc)
 have hTD : ∀ i, ((Value.slice CD cdata.length cdc)).ownBlock = some i → T i → False := fun i h hi => (hT7 i hi).2.2.1 (hCi i h).1
 have hKcb : ∀ i, KF kv i → i ≠ cb := fun i hi h => (hK8 i hi).2.2.1 (h ▸ hCc)
 have hKD : ∀ i, ((Value.slice CD cdata.length cdc)).ownBlock = some i → KF kv i → False := fun i h hi => (hK8 i hi).2.2.1 (hCi i h).1
 have hDr : ∀ i, ((Value.slice CD cdata.length cdc)).ownBlock = some i → i ≠ r := fun i hi => (hC9 i (hCi i hi).1).1
 have hDg : ∀ i, ((Value.slice CD cdata.length cdc)).ownBlock = some i → i ≠ g := fun i hi => (hC9 i (hCi i hi).1).2.1
 have hDc : ∀ i, ((Value.slice CD cdata.length cdc)).ownBlock = some i → i ≠ cb := fun i hi => (hCi i hi).2
 have hcr : cb ≠ r := (hC9 cb hCc).1
 have hcg : cb ≠ g := (hC9 cb hCc).2.1
 have Hcl := Hcb.lt
 have hDF : ∀ i, ((Value.slice CD cdata.length cdc)).ownBlock = some i → F i ∨ w.heap.size ≤ i := fun i hi => .inl (hC9 i (hCi i hi).1).2.2
 have hdl := hD.slice
 unfold maxLen at hdl
 have K0 : Keeps (fun i => i = r ∨ i = g ∨ i = cb ∨ ((Value.slice CD cdata.length cdc)).ownBlock = some i) w w := (Keeps.refl w).mono (fun _ _ h => h.elim)
 refine q_calls Try.func51 (by kernel_rfl) (by kernel_rfl) ?_
 refine qs ?_
 refine qg ?_
 refine Ops.new (o := rowL [(ptr r)] 29) (V := fun b => (ptr b)) (by kernel_rfl) (d := (some 2)) (by kernel_rfl) (fun b => rfl) (fun b1 w2 hb3 H4 K5 hs6 => ?_)
 have lb1r : r < b1 := by have := Hr.lt; omega
 have lb1g : g < b1 := by have := H0.lt; omega
 have lb1cb : cb < b1 := by have := Hcb.lt; omega
 have nb1 : w.heap.size ≤ b1 := by have := K0.size; omega
 have ot7 : ∀ i, T i → i ≠ b1 := fun i hi => by have := Ents.lt hE i hi; omega
 have of8 : ∀ i, (KF kv) i → i ≠ b1 := fun i hi => by have := ImgK.lt hKv i hi; omega
 have ob9 : ∀ i, ((Value.slice CD cdata.length cdc)).ownBlock = some i → i < b1 := fun i hi => by have := (World.ownsRow.lt hOw i hi).2; omega
 replace K0 := K0.tn K5
 replace Hr := Hr.keep K5 (fun h => h)
 replace H0 := H0.keep K5 (fun h => h)
 replace Hcb := Hcb.keep K5 (fun h => h)
 replace hE := Ents.keep0 hE K5
 replace hKv := ImgK.keep hKv K5 (fun _ _ h => h)
 replace hOw := own_keep0 hOw K5
 clear K5 hs6
 refine Ops.new (o := rowL [(i64 m.kind), (i64 m.group), (i64 m.frm), (i64 m.to), (i64 m.term), (i64 m.index), (i64 m.logTerm), (i64 m.commit), (Value.bool m.ok), (Value.slice E m.entries.length ec), (Value.slice D m.data.length dc)] 46) (V := fun b => (ptr b)) (by kernel_rfl) (d := (some 3)) (by kernel_rfl) (fun b => rfl) (fun b10 w11 hb12 H13 K14 hs15 => ?_)
 have lb10r : r < b10 := by have := Hr.lt; omega
 have lb10g : g < b10 := by have := H0.lt; omega
 have lb10cb : cb < b10 := by have := Hcb.lt; omega
 have lb10b1 : b1 < b10 := by have := H4.lt; omega
 have nb10 : w.heap.size ≤ b10 := by have := K0.size; omega
 have ot16 : ∀ i, T i → i ≠ b10 := fun i hi => by have := Ents.lt hE i hi; omega
 have of17 : ∀ i, (KF kv) i → i ≠ b10 := fun i hi => by have := ImgK.lt hKv i hi; omega
 have ob18 : ∀ i, ((Value.slice CD cdata.length cdc)).ownBlock = some i → i < b10 := fun i hi => by have := (World.ownsRow.lt hOw i hi).2; omega
 replace K0 := K0.tn K14
 replace Hr := Hr.keep K14 (fun h => h)
 replace H0 := H0.keep K14 (fun h => h)
 replace Hcb := Hcb.keep K14 (fun h => h)
 replace H4 := H4.keep K14 (fun h => h)
 replace hE := Ents.keep0 hE K14
 replace hKv := ImgK.keep hKv K14 (fun _ _ h => h)
 replace hOw := own_keep0 hOw K14
 clear K14 hs15
 refine od ?_
 refine qs ?_
 refine qg ?_
 refine Ops.go (v := (ptr r)) (by kernel_rfl) (Runs.load (t := 29) (a := ⟨b1, 0, none⟩) (by kernel_rfl) (H4.loads (by kernel_rfl))) (d := (some 7)) (by kernel_rfl) rfl ?_
 refine og 1 [(2, (ptr b1)), (3, (ptr b10)), (7, (ptr r)), (8, (Value.pointer (some ⟨b10, 2, none⟩)))] 2 ?_
 refine Ops.go (v := (i64 m.frm)) (by kernel_rfl) (Runs.load (t := 3) (a := ⟨b10, 2, none⟩) (by kernel_rfl) (H13.loads (by kernel_rfl))) (d := (some 9)) (by kernel_rfl) rfl ?_
 refine Ops.call (by kernel_rfl) (d := (some 10)) (by kernel_rfl) (Ffollow_calls _ r g s.term s.voted s.leader s.commit q.group q.me q.n s.elapsed q.timeout kv (ptr cb) came m.frm Hr) ?_
 rintro _ w20 ⟨rfl, K19, H21⟩
 refine ⟨_, _, rfl, rfl, ?_⟩
 replace K0 := K0.trans K19 (U := (fun i => i = r ∨ i = g ∨ i = cb ∨ ((Value.slice CD cdata.length cdc)).ownBlock = some i)) (fun i h1 h2 => h2) (fun i h1 h2 => by have h2 : i = r := h2; exact .inl h2)
 replace H0 := H0.k1 K19 (by omega)
 replace Hcb := Hcb.k1 K19 (by omega)
 replace H4 := H4.k1 K19 (by omega)
 replace H13 := H13.k1 K19 (by omega)
 replace hE := Ents.keep hE K19 hrT
 replace hKv := ImgK.keep hKv K19 hKr
 replace hOw := own_keep hOw K19 (fun i hi => by have := hDr i hi; omega)
 clear K19
 refine od ?_
 refine qs ?_
 refine qs ?_
 refine q_draw (fun wz => Keeps none_ w20 wz) 8 (by kernel_rfl) (by kernel_rfl) (by kernel_rfl) (fun w22 K23 _ _ => ⟨K23, ?_⟩)
 replace K0 := K0.tn K23
 replace H21 := H21.keep K23 (fun h => h)
 replace H0 := H0.keep K23 (fun h => h)
 replace Hcb := Hcb.keep K23 (fun h => h)
 replace H4 := H4.keep K23 (fun h => h)
 replace H13 := H13.keep K23 (fun h => h)
 replace hE := Ents.keep0 hE K23
 replace hKv := ImgK.keep hKv K23 (fun _ _ h => h)
 replace hOw := own_keep0 hOw K23
 refine Dr.strong (S' := (fun wz => Keeps none_ w22 wz)) (Keeps.refl w22) (fun wz hx => K23.trans hx (fun i _ h => h) (fun _ _ h => h)) ?_
 clear K23
 refine Dr.takes (fuel' := 7) (is' := _) [0] [(2, (ptr b1)), (3, (ptr b10)), (11, (Value.pointer (some ⟨b10, 5, none⟩)))] (by kernel_rfl) rfl (by kernel_rfl) ?_
 refine Dr.take (i := 1) (v := (i64 m.index)) (by kernel_rfl) (by kernel_rfl) (fun wz hS => Runs.load (t := 2) (a := ⟨b10, 5, none⟩) (by kernel_rfl) ((H13.keep hS (fun h => h)).loads (by kernel_rfl))) (d := (some 12)) (by kernel_rfl) rfl ?_
 refine Dr.take (i := 2) (v := (ptr r)) (by kernel_rfl) (by kernel_rfl) (fun wz hS => Runs.load (t := 29) (a := ⟨b1, 0, none⟩) (by kernel_rfl) ((H4.keep hS (fun h => h)).loads (by kernel_rfl))) (d := (some 13)) (by kernel_rfl) rfl ?_
 refine Dr.takes (fuel' := 2) (is' := _) [3, 4, 5] [(2, (ptr b1)), (3, (ptr b10)), (12, (i64 m.index)), (16, (Value.pointer (some ⟨r, 4, none⟩)))] (by kernel_rfl) rfl (by kernel_rfl) ?_
 refine Dr.take (i := 6) (v := (i64 s.commit)) (by kernel_rfl) (by kernel_rfl) (fun wz hS => Runs.load (t := 2) (a := ⟨r, 4, none⟩) (by kernel_rfl) ((H21.keep hS (fun h => h)).loads (by kernel_rfl))) (d := (some 17)) (by kernel_rfl) rfl ?_
 refine Dr.takes (fuel' := 0) (is' := _) [7] [(2, (ptr b1)), (3, (ptr b10)), (18, (Value.bool (decide (m.index ≤ s.commit))))] (by kernel_rfl) rfl (by kernel_rfl) ?_
 refine Dr.done (by kernel_rfl) ?_
 refine q_cond (o := .tmp 18) (b := (decide (m.index ≤ s.commit))) (by kernel_rfl) rfl (fun h24 => ?_) (fun h24 => ?_)
 ·rw [h24]
  have p25 : m.index ≤ s.commit := of_decide_eq_true h24
  refine qs ?_
  refine q_draw (fun wz => Keeps (fun i => i = r) w22 wz) 10 (by kernel_rfl) (by kernel_rfl) (by kernel_rfl) (fun w26 K27 _ _ => ⟨(K27.mono (fun _ _ h => h.elim)), ?_⟩)
  replace K0 := K0.tn K27
  replace H21 := H21.keep K27 (fun h => h)
  replace H0 := H0.keep K27 (fun h => h)
  replace Hcb := Hcb.keep K27 (fun h => h)
  replace H4 := H4.keep K27 (fun h => h)
  replace H13 := H13.keep K27 (fun h => h)
  replace hE := Ents.keep0 hE K27
  replace hKv := ImgK.keep hKv K27 (fun _ _ h => h)
  replace hOw := own_keep0 hOw K27
  refine Dr.strong (S' := (fun wz => Keeps (fun i => i = r) w26 wz)) ((Keeps.refl w26).mono (fun _ _ h => h.elim)) (fun wz hx => K27.trans hx (fun i _ h => h.elim) (fun _ _ h => h)) ?_
  clear K27
  refine Dr.take (i := 0) (v := (ptr r)) (by kernel_rfl) (by kernel_rfl) (fun wz hS => Runs.load (t := 29) (a := ⟨b1, 0, none⟩) (by kernel_rfl) ((H4.keep hS (by intro h; change b1 = r at h; omega)).loads (by kernel_rfl))) (d := (some 19)) (by kernel_rfl) rfl ?_
  refine Dr.takes (fuel' := 8) (is' := _) [1] [(2, (ptr b1)), (3, (ptr b10)), (19, (ptr r)), (20, (Value.pointer (some ⟨b10, 2, none⟩)))] (by kernel_rfl) rfl (by kernel_rfl) ?_
  refine Dr.take (i := 2) (v := (i64 m.frm)) (by kernel_rfl) (by kernel_rfl) (fun wz hS => Runs.load (t := 3) (a := ⟨b10, 2, none⟩) (by kernel_rfl) ((H13.keep hS (by intro h; change b10 = r at h; omega)).loads (by kernel_rfl))) (d := (some 21)) (by kernel_rfl) rfl ?_
  refine Dr.take (i := 3) (v := (ptr r)) (by kernel_rfl) (by kernel_rfl) (fun wz hS => Runs.load (t := 29) (a := ⟨b1, 0, none⟩) (by kernel_rfl) ((H4.keep hS (by intro h; change b1 = r at h; omega)).loads (by kernel_rfl))) (d := (some 22)) (by kernel_rfl) rfl ?_
  refine Dr.takes (fuel' := 3) (is' := _) [4, 5, 6] [(2, (ptr b1)), (3, (ptr b10)), (19, (ptr r)), (21, (i64 m.frm)), (25, (Value.pointer (some ⟨r, 4, none⟩)))] (by kernel_rfl) rfl (by kernel_rfl) ?_
  refine Dr.go (i := 7) (v := (i64 s.commit)) (by kernel_rfl) (by kernel_rfl) (Runs.load (t := 2) (a := ⟨r, 4, none⟩) (by kernel_rfl) (H21.loads (by kernel_rfl))) (d := (some 26)) (by kernel_rfl) rfl ((Keeps.refl _).mono (fun _ _ h => h.elim)) ?_
  refine Dr.takes (fuel' := 1) (is' := _) [8] [(2, (ptr b1)), (3, (ptr b10)), (19, (ptr r)), (21, (i64 m.frm)), (27, (agg [(i64 4), (i64 0), (i64 0), (i64 0), (i64 0), (i64 s.commit), (i64 0), (i64 0), (Value.bool true), (Value.slice none 0 0), (Value.slice none 0 0)]))] (by kernel_rfl) rfl (by kernel_rfl) ?_
  refine Dr.call (i := 9) (by kernel_rfl) (by kernel_rfl) (d := (some 28)) (by kernel_rfl) (fun _ => Fput_calls _ r g s.term s.voted m.frm s.commit q.group q.me q.n 0 q.timeout kv (ptr cb) came m.frm 4 s.commit 0 true H21) ?_
  rintro _ w32 ⟨ob28, cap29, rest30, rfl, K31, H33, H34, hn35⟩
  have nob28 : w.heap.size ≤ ob28 := by have := K0.size; omega
  have lob28r : r < ob28 := by have := H21.lt; omega
  have lob28g : g < ob28 := by have := H0.lt; omega
  have lob28cb : cb < ob28 := by have := Hcb.lt; omega
  have lob28b1 : b1 < ob28 := by have := H4.lt; omega
  have lob28b10 : b10 < ob28 := by have := H13.lt; omega
  have ot36 : ∀ i, T i → i ≠ ob28 := fun i hi => by have := Ents.lt hE i hi; omega
  have of37 : ∀ i, (KF kv) i → i ≠ ob28 := fun i hi => by have := ImgK.lt hKv i hi; omega
  have ob38 : ∀ i, ((Value.slice CD cdata.length cdc)).ownBlock = some i → i ≠ ob28 := fun i hi => by have := (World.ownsRow.lt hOw i hi).2; omega
  replace K0 := K0.trans K31 (U := (fun i => i = r ∨ i = g ∨ i = cb ∨ ((Value.slice CD cdata.length cdc)).ownBlock = some i)) (fun i h1 h2 => h2) (fun i h1 h2 => by have h2 : i = r := h2; exact .inl h2)
  replace H0 := H0.k1 K31 (by omega)
  replace Hcb := Hcb.k1 K31 (by omega)
  replace H4 := H4.k1 K31 (by omega)
  replace H13 := H13.k1 K31 (by omega)
  replace hE := Ents.keep hE K31 hrT
  replace hKv := ImgK.keep hKv K31 hKr
  replace hOw := own_keep hOw K31 (fun i hi => by have := hDr i hi; omega)
  refine ⟨_, _, rfl, rfl, K31, ?_⟩
  refine Dr.strong (S' := (fun wz => Keeps (fun i => i = r) w32 wz)) ((Keeps.refl w32).mono (fun _ _ h => h.elim)) (fun wz hx => K31.trans hx (fun i _ h => by have h : i = r := h; show i = r; omega) (fun _ _ h => h)) ?_
  clear K31
  refine Dr.done (by kernel_rfl) ?_
  refine q_ret (by kernel_rfl) ?_
  refine ⟨(Value.tuple #[]), retv_none rfl, ?_⟩
  exact ⟨(⟨s.term, s.voted, m.frm, s.commit, 0, s.base, s.old, (l.map EntP.key)⟩ : FolS), (Value.slice (some ⟨ob28, 0, none⟩) 1 cap29), (⟨4, m.frm, s.term, s.commit, 0, true⟩ : OutM), rfl, (K0.mono (fun i _ h => by rcases h with h | h | h | h; (rw [h]; exact hFr); (rw [h]; exact hFg); (rw [h]; exact (hC9 cb hCc).2.2); (exact (hC9 i (hCi i h).1).2.2))), ⟨g, T, (fun i => i = cb ∨ ((Value.slice CD cdata.length cdc)).ownBlock = some i), A, c, l, kv, (ptr cb), came, H33, H0, hE, rfl, hKv, ⟨fun i hi => by rcases hi with hi | hi; (rw [hi]; exact Hcb.lt); (exact (World.ownsRow.lt hOw i hi).2), .inr ⟨cb, ca, ct, CD, cdc, cdata, rfl, Hcb, own_base hOw (Nat.zero_le _), (by (try simp only [List.length_append]); (try simp only [List.length_nil]); omega), .inl rfl, (fun i hi => ⟨.inr hi, hDc i hi⟩)⟩⟩, fun i hi => ⟨hrT i hi, hT i hi, fun h => by rcases h with h | h; (exact hTcb i hi h); (exact hTD i h hi), .inl (hT7 i hi).2.2.2, Ents.lt hE i hi⟩, fun i hi => ⟨hKr i hi, hKg i hi, fun h => by rcases h with h | h; (exact hKcb i hi h); (exact hKD i h hi), .inl (hK8 i hi).2.2.2, ImgK.lt hKv i hi⟩, fun i hi => by rcases hi with hi | hi; (rw [hi]; exact ⟨by omega, by omega, .inl (hC9 cb hCc).2.2, Hcb.lt⟩); (exact ⟨hDr i hi, hDg i hi, hDF i hi, (World.ownsRow.lt hOw i hi).2⟩), by omega, ⟨.inl hFr, H33.lt⟩, ⟨.inl hFg, H0.lt⟩, ⟨by show 0 ≤ (s.base : Int) ∧ (s.base : Int) ≤ 1152921504606846976; omega, by show ((l.map EntP.key)).length ≤ 4096; rw [List.length_map]; omega, hBig, by show (s.base : Int) ≤ s.commit ∧ (s.commit : Int) ≤ 2305843009213693952; omega⟩⟩, ⟨ob28, cap29, rest30, rfl, nob28, H34⟩, rfl, rfl, by show s.commit ≤ s.commit; omega, by show (4 : Int) ≠ 2; decide⟩
 ·rw [h24]
  have p39 : ¬ (m.index ≤ s.commit) := of_decide_eq_false h24
  refine q_skip (by kernel_rfl) ?_
  refine qs ?_
  refine qs ?_
  refine qg ?_
  refine og 1 [(2, (ptr b1)), (3, (ptr b10)), (29, (Value.pointer (some ⟨b10, 7, none⟩)))] 1 ?_
  refine Ops.go (v := (i64 m.commit)) (by kernel_rfl) (Runs.load (t := 2) (a := ⟨b10, 7, none⟩) (by kernel_rfl) (H13.loads (by kernel_rfl))) (d := (some 30)) (by kernel_rfl) rfl ?_
  refine og 1 [(2, (ptr b1)), (3, (ptr b10)), (31, (Value.bool (m.commit == 0)))] 3 ?_
  refine od ?_
  refine q_cond (o := .tmp 31) (b := (m.commit == 0)) (by kernel_rfl) rfl (fun h40 => ?_) (fun h40 => ?_)
  ·rw [h40]
   have p41 : m.commit = 0 := of_beq_t h40
   refine qg ?_
   refine Ops.go (v := (ptr r)) (by kernel_rfl) (Runs.load (t := 29) (a := ⟨b1, 0, none⟩) (by kernel_rfl) (H4.loads (by kernel_rfl))) (d := (some 32)) (by kernel_rfl) rfl ?_
   refine og 1 [(2, (ptr b1)), (3, (ptr b10)), (32, (ptr r)), (33, (Value.pointer (some ⟨b10, 5, none⟩)))] 2 ?_
   refine Ops.go (v := (i64 m.index)) (by kernel_rfl) (Runs.load (t := 2) (a := ⟨b10, 5, none⟩) (by kernel_rfl) (H13.loads (by kernel_rfl))) (d := (some 34)) (by kernel_rfl) rfl ?_
   refine og 1 [(2, (ptr b1)), (3, (ptr b10)), (32, (ptr r)), (34, (i64 m.index)), (35, (Value.pointer (some ⟨b10, 6, none⟩)))] 4 ?_
   refine Ops.go (v := (i64 m.logTerm)) (by kernel_rfl) (Runs.load (t := 2) (a := ⟨b10, 6, none⟩) (by kernel_rfl) (H13.loads (by kernel_rfl))) (d := (some 36)) (by kernel_rfl) rfl ?_
   refine og 1 [(2, (ptr b1)), (3, (ptr b10)), (32, (ptr r)), (37, (agg [(i64 m.index), (i64 m.logTerm), (Value.slice none 0 0)]))] 6 ?_
   refine Ops.new (o := rowL [(i64 m.index), (i64 m.logTerm), (Value.slice none 0 0)] 110) (V := fun b => (ptr b)) (by kernel_rfl) (d := (some 38)) (by kernel_rfl) (fun b => rfl) (fun b42 w43 hb44 H45 K46 hs47 => ?_)
   have lb42r : r < b42 := by have := H21.lt; omega
   have lb42g : g < b42 := by have := H0.lt; omega
   have lb42cb : cb < b42 := by have := Hcb.lt; omega
   have lb42b1 : b1 < b42 := by have := H4.lt; omega
   have lb42b10 : b10 < b42 := by have := H13.lt; omega
   have nb42 : w.heap.size ≤ b42 := by have := K0.size; omega
   have ot48 : ∀ i, T i → i ≠ b42 := fun i hi => by have := Ents.lt hE i hi; omega
   have of49 : ∀ i, (KF kv) i → i ≠ b42 := fun i hi => by have := ImgK.lt hKv i hi; omega
   have ob50 : ∀ i, ((Value.slice CD cdata.length cdc)).ownBlock = some i → i < b42 := fun i hi => by have := (World.ownsRow.lt hOw i hi).2; omega
   replace K0 := K0.tn K46
   replace H21 := H21.keep K46 (fun h => h)
   replace H0 := H0.keep K46 (fun h => h)
   replace Hcb := Hcb.keep K46 (fun h => h)
   replace H4 := H4.keep K46 (fun h => h)
   replace H13 := H13.keep K46 (fun h => h)
   replace hE := Ents.keep0 hE K46
   replace hKv := ImgK.keep hKv K46 (fun _ _ h => h)
   replace hOw := own_keep0 hOw K46
   clear K46 hs47
   refine og 2 [(2, (ptr b1)), (3, (ptr b10)), (38, (ptr b42)), (40, (Value.pointer (some ⟨r, 15, none⟩)))] 9 ?_
   refine Ops.put (t := 82) (b := r) (off := 15) (v := (ptr b42)) (ys := [(i64 s.term), (i64 s.voted), (i64 0), (i64 m.frm), (i64 s.commit), (i64 q.group), (i64 q.me), (i64 q.n), (ptr g), (i64 0), (i64 q.timeout), (Value.slice none 0 0), (Value.map none), (Value.slice none 0 0), kv, (ptr b42), (Value.bool came), (Value.slice none 0 0)]) (by kernel_rfl) (by kernel_rfl) H21 (by kernel_rfl) (d := none) (by kernel_rfl) rfl (fun w51 H52 K53 => ?_)
   clear H21
   replace K0 := K0.trans K53 (U := (fun i => i = r ∨ i = g ∨ i = cb ∨ ((Value.slice CD cdata.length cdc)).ownBlock = some i)) (fun i h1 h2 => h2) (fun i h1 h2 => by have h2 : i = r := h2; exact .inl h2)
   replace H0 := H0.k1 K53 (by omega)
   replace Hcb := Hcb.k1 K53 (by omega)
   replace H4 := H4.k1 K53 (by omega)
   replace H13 := H13.k1 K53 (by omega)
   replace H45 := H45.k1 K53 (by omega)
   replace hE := Ents.keep hE K53 hrT
   replace hKv := ImgK.keep hKv K53 hKr
   replace hOw := own_keep hOw K53 (fun i hi => by have := hDr i hi; omega)
   clear K53
   refine od ?_
   refine qs ?_
   refine qg ?_
   refine og 2 [(2, (ptr b1)), (3, (ptr b10)), (4, (Value.func (Fn.func 65) ⟨[]⟩ ⟨[(ptr b1), (ptr b10)]⟩))] 2 ?_
   refine od ?_
   refine qs ?_
   refine qg ?_
   refine Ops.go (v := (ptr r)) (by kernel_rfl) (Runs.load (t := 29) (a := ⟨b1, 0, none⟩) (by kernel_rfl) (H4.loads (by kernel_rfl))) (d := (some 42)) (by kernel_rfl) rfl ?_
   refine og 2 [(2, (ptr b1)), (3, (ptr b10)), (4, (Value.func (Fn.func 65) ⟨[]⟩ ⟨[(ptr b1), (ptr b10)]⟩)), (44, (Value.pointer (some ⟨r, 15, none⟩)))] 3 ?_
   refine Ops.go (v := (ptr b42)) (by kernel_rfl) (Runs.load (t := 82) (a := ⟨r, 15, none⟩) (by kernel_rfl) (H52.loads (by kernel_rfl))) (d := (some 45)) (by kernel_rfl) rfl ?_
   refine og 1 [(2, (ptr b1)), (3, (ptr b10)), (4, (Value.func (Fn.func 65) ⟨[]⟩ ⟨[(ptr b1), (ptr b10)]⟩)), (5, (ptr b42))] 5 ?_
   refine od ?_
   refine qs ?_
   refine qs ?_
   refine q_draw (fun wz => Keeps none_ w51 wz) 20 (by kernel_rfl) (by kernel_rfl) (by kernel_rfl) (fun w54 K55 _ _ => ⟨K55, ?_⟩)
   replace K0 := K0.tn K55
   replace H52 := H52.keep K55 (fun h => h)
   replace H0 := H0.keep K55 (fun h => h)
   replace Hcb := Hcb.keep K55 (fun h => h)
   replace H4 := H4.keep K55 (fun h => h)
   replace H13 := H13.keep K55 (fun h => h)
   replace H45 := H45.keep K55 (fun h => h)
   replace hE := Ents.keep0 hE K55
   replace hKv := ImgK.keep hKv K55 (fun _ _ h => h)
   replace hOw := own_keep0 hOw K55
   refine Dr.strong (S' := (fun wz => Keeps none_ w54 wz)) (Keeps.refl w54) (fun wz hx => K55.trans hx (fun i _ h => h) (fun _ _ h => h)) ?_
   clear K55
   refine Dr.takes (fuel' := 14) (is' := _) [0, 1, 2, 3, 4, 5] [(2, (ptr b1)), (3, (ptr b10)), (4, (Value.func (Fn.func 65) ⟨[]⟩ ⟨[(ptr b1), (ptr b10)]⟩)), (5, (ptr b42)), (48, (Value.bool false)), (51, (ptr b42))] (by kernel_rfl) rfl (by kernel_rfl) ?_
   refine Dr.take (i := 6) (v := (i64 m.index)) (by kernel_rfl) (by kernel_rfl) (fun wz hS => Runs.load (t := 2) (a := ⟨b42, 0, none⟩) (by kernel_rfl) ((H45.keep hS (fun h => h)).loads (by kernel_rfl))) (d := (some 52)) (by kernel_rfl) rfl ?_
   refine Dr.takes (fuel' := 12) (is' := _) [7] [(2, (ptr b1)), (3, (ptr b10)), (4, (Value.func (Fn.func 65) ⟨[]⟩ ⟨[(ptr b1), (ptr b10)]⟩)), (5, (ptr b42)), (48, (Value.bool false)), (52, (i64 m.index)), (53, (Value.pointer (some ⟨b10, 5, none⟩)))] (by kernel_rfl) rfl (by kernel_rfl) ?_
   refine Dr.take (i := 8) (v := (i64 m.index)) (by kernel_rfl) (by kernel_rfl) (fun wz hS => Runs.load (t := 2) (a := ⟨b10, 5, none⟩) (by kernel_rfl) ((H13.keep hS (fun h => h)).loads (by kernel_rfl))) (d := (some 54)) (by kernel_rfl) rfl ?_
   refine Dr.takes (fuel' := 8) (is' := _) [9, 10, 11] [(2, (ptr b1)), (3, (ptr b10)), (4, (Value.func (Fn.func 65) ⟨[]⟩ ⟨[(ptr b1), (ptr b10)]⟩)), (5, (ptr b42)), (57, (Value.bool (m.index != m.index)))] (by kernel_rfl) rfl (by kernel_rfl) ?_
   have h56 : (m.index != m.index) = false := by simp
   rw [h56]
   refine Dr.takes (fuel' := 5) (is' := _) [12, 13, 14] [(2, (ptr b1)), (3, (ptr b10)), (4, (Value.func (Fn.func 65) ⟨[]⟩ ⟨[(ptr b1), (ptr b10)]⟩)), (5, (ptr b42)), (57, (Value.bool false)), (60, (Value.pointer (some ⟨b42, 1, none⟩)))] (by kernel_rfl) rfl (by kernel_rfl) ?_
   refine Dr.take (i := 15) (v := (i64 m.logTerm)) (by kernel_rfl) (by kernel_rfl) (fun wz hS => Runs.load (t := 2) (a := ⟨b42, 1, none⟩) (by kernel_rfl) ((H45.keep hS (fun h => h)).loads (by kernel_rfl))) (d := (some 61)) (by kernel_rfl) rfl ?_
   refine Dr.takes (fuel' := 3) (is' := _) [16] [(2, (ptr b1)), (3, (ptr b10)), (4, (Value.func (Fn.func 65) ⟨[]⟩ ⟨[(ptr b1), (ptr b10)]⟩)), (5, (ptr b42)), (57, (Value.bool false)), (61, (i64 m.logTerm)), (62, (Value.pointer (some ⟨b10, 6, none⟩)))] (by kernel_rfl) rfl (by kernel_rfl) ?_
   refine Dr.take (i := 17) (v := (i64 m.logTerm)) (by kernel_rfl) (by kernel_rfl) (fun wz hS => Runs.load (t := 2) (a := ⟨b10, 6, none⟩) (by kernel_rfl) ((H13.keep hS (fun h => h)).loads (by kernel_rfl))) (d := (some 63)) (by kernel_rfl) rfl ?_
   refine Dr.takes (fuel' := 0) (is' := _) [18, 19] [(2, (ptr b1)), (3, (ptr b10)), (4, (Value.func (Fn.func 65) ⟨[]⟩ ⟨[(ptr b1), (ptr b10)]⟩)), (5, (ptr b42)), (65, (Value.bool (m.logTerm != m.logTerm)))] (by kernel_rfl) rfl (by kernel_rfl) ?_
   refine Dr.done (by kernel_rfl) ?_
   have h57 : (m.logTerm != m.logTerm) = false := by simp
   rw [h57]
   refine q_else (o := .tmp 65) (by kernel_rfl) rfl ?_
   refine q_skip (by kernel_rfl) ?_
   refine qs ?_
   refine qg ?_
   refine og 3 [(2, (ptr b1)), (3, (ptr b10)), (4, (Value.func (Fn.func 65) ⟨[]⟩ ⟨[(ptr b1), (ptr b10)]⟩)), (5, (ptr b42)), (70, (Value.pointer (some ⟨b42, 2, none⟩)))] 3 ?_
   refine Ops.go (v := (Value.slice none 0 0)) (by kernel_rfl) (Runs.load (t := 37) (a := ⟨b42, 2, none⟩) (by kernel_rfl) (H45.loads (by kernel_rfl))) (d := (some 71)) (by kernel_rfl) rfl ?_
   refine og 2 [(2, (ptr b1)), (3, (ptr b10)), (4, (Value.func (Fn.func 65) ⟨[]⟩ ⟨[(ptr b1), (ptr b10)]⟩)), (5, (ptr b42)), (6, (i64 0))] 6 ?_
   refine od ?_
   refine q_block (id := 0) (by kernel_rfl) ?_
   refine qs ?_
   refine qg ?_
   refine og 2 [(2, (ptr b1)), (3, (ptr b10)), (4, (Value.func (Fn.func 65) ⟨[]⟩ ⟨[(ptr b1), (ptr b10)]⟩)), (5, (ptr b42)), (6, (i64 0)), (117, (i64 0)), (118, (Value.pointer (some ⟨b10, 7, none⟩)))] 2 ?_
   refine Ops.go (v := (i64 m.commit)) (by kernel_rfl) (Runs.load (t := 2) (a := ⟨b10, 7, none⟩) (by kernel_rfl) (H13.loads (by kernel_rfl))) (d := (some 119)) (by kernel_rfl) rfl ?_
   refine og 2 [(2, (ptr b1)), (3, (ptr b10)), (4, (Value.func (Fn.func 65) ⟨[]⟩ ⟨[(ptr b1), (ptr b10)]⟩)), (5, (ptr b42)), (6, (i64 0)), (116, (Value.bool (0 != m.commit)))] 5 ?_
   refine od ?_
   refine q_cond (o := .tmp 116) (b := (0 != m.commit)) (by kernel_rfl) rfl (fun h58 => ?_) (fun h58 => ?_)
   ·rw [h58]
    have p59 : ¬ (0 = m.commit) := of_bne_t h58
    refine qg ?_
    refine og 2 [(2, (ptr b1)), (3, (ptr b10)), (4, (Value.func (Fn.func 65) ⟨[]⟩ ⟨[(ptr b1), (ptr b10)]⟩)), (5, (ptr b42)), (6, (i64 0)), (121, (Value.func (Fn.func 65) ⟨[]⟩ ⟨[(ptr b1), (ptr b10)]⟩)), (122, (i64 0))] 2 ?_
    refine Ops.call (by kernel_rfl) (d := (some 123)) (by kernel_rfl) (has_calls _ r g s.term s.voted m.frm s.commit q.group q.me q.n 0 q.timeout kv (ptr b42) came m E ec D dc 0 b1 b10 H52 H4 H13 (by omega) (by omega)) ?_
    rintro _ w64 ⟨ob60, cap61, rest62, rfl, K63, H65, H66, hn67⟩
    have nob60 : w.heap.size ≤ ob60 := by have := K0.size; omega
    have lob60r : r < ob60 := by have := H52.lt; omega
    have lob60g : g < ob60 := by have := H0.lt; omega
    have lob60cb : cb < ob60 := by have := Hcb.lt; omega
    have lob60b1 : b1 < ob60 := by have := H4.lt; omega
    have lob60b10 : b10 < ob60 := by have := H13.lt; omega
    have lob60b42 : b42 < ob60 := by have := H45.lt; omega
    have ot68 : ∀ i, T i → i ≠ ob60 := fun i hi => by have := Ents.lt hE i hi; omega
    have of69 : ∀ i, (KF kv) i → i ≠ ob60 := fun i hi => by have := ImgK.lt hKv i hi; omega
    have ob70 : ∀ i, ((Value.slice CD cdata.length cdc)).ownBlock = some i → i ≠ ob60 := fun i hi => by have := (World.ownsRow.lt hOw i hi).2; omega
    refine ⟨_, _, rfl, rfl, ?_⟩
    replace K0 := K0.trans K63 (U := (fun i => i = r ∨ i = g ∨ i = cb ∨ ((Value.slice CD cdata.length cdc)).ownBlock = some i)) (fun i h1 h2 => h2) (fun i h1 h2 => by have h2 : i = r := h2; exact .inl h2)
    replace H0 := H0.k1 K63 (by omega)
    replace Hcb := Hcb.k1 K63 (by omega)
    replace H4 := H4.k1 K63 (by omega)
    replace H13 := H13.k1 K63 (by omega)
    replace H45 := H45.k1 K63 (by omega)
    replace hE := Ents.keep hE K63 hrT
    replace hKv := ImgK.keep hKv K63 hKr
    replace hOw := own_keep hOw K63 (fun i hi => by have := hDr i hi; omega)
    clear K63
    refine od ?_
    refine ⟨(Value.tuple #[]), retv_none rfl, ?_⟩
    exact ⟨(⟨s.term, s.voted, m.frm, s.commit, 0, s.base, s.old, (l.map EntP.key)⟩ : FolS), (Value.slice (some ⟨ob60, 0, none⟩) 1 cap61), (⟨6, m.frm, s.term, m.index, 0, false⟩ : OutM), rfl, (K0.mono (fun i _ h => by rcases h with h | h | h | h; (rw [h]; exact hFr); (rw [h]; exact hFg); (rw [h]; exact (hC9 cb hCc).2.2); (exact (hC9 i (hCi i h).1).2.2))), ⟨g, T, (fun i => i = b42 ∨ ((Value.slice none 0 0)).ownBlock = some i), A, c, l, kv, (ptr b42), came, H65, H0, hE, rfl, hKv, ⟨fun i hi => by rcases hi with hi | hi; (rw [hi]; exact H45.lt); (cases hi), .inr ⟨b42, m.index, m.logTerm, none, 0, [], rfl, H45, (World.ownsRow_nil _ _ _ _), (by (try simp only [List.length_append]); (try simp only [List.length_nil]); omega), .inl rfl, (fun i hi => by cases hi)⟩⟩, fun i hi => ⟨hrT i hi, hT i hi, fun h => by rcases h with h | h; (exact ot48 i hi h); (cases h), .inl (hT7 i hi).2.2.2, Ents.lt hE i hi⟩, fun i hi => ⟨hKr i hi, hKg i hi, fun h => by rcases h with h | h; (exact of49 i hi h); (cases h), .inl (hK8 i hi).2.2.2, ImgK.lt hKv i hi⟩, fun i hi => by rcases hi with hi | hi; (rw [hi]; exact ⟨by omega, by omega, .inr nb42, H45.lt⟩); (cases hi), by omega, ⟨.inl hFr, H65.lt⟩, ⟨.inl hFg, H0.lt⟩, ⟨by show 0 ≤ (s.base : Int) ∧ (s.base : Int) ≤ 1152921504606846976; omega, by show ((l.map EntP.key)).length ≤ 4096; rw [List.length_map]; omega, hBig, by show (s.base : Int) ≤ s.commit ∧ (s.commit : Int) ≤ 2305843009213693952; omega⟩⟩, ⟨ob60, cap61, rest62, rfl, nob60, H66⟩, rfl, rfl, by show s.commit ≤ s.commit; omega, by show (6 : Int) ≠ 2; decide⟩
   ·rw [h58]
    have p71 : 0 = m.commit := of_bne_f h58
    refine qs ?_
    refine qg ?_
    refine og 2 [(2, (ptr b1)), (3, (ptr b10)), (4, (Value.func (Fn.func 65) ⟨[]⟩ ⟨[(ptr b1), (ptr b10)]⟩)), (5, (ptr b42)), (125, (i64 0)), (126, (Value.pointer (some ⟨b10, 10, none⟩)))] 2 ?_
    refine Ops.go (v := (Value.slice D m.data.length dc)) (by kernel_rfl) (Runs.load (t := 37) (a := ⟨b10, 10, none⟩) (by kernel_rfl) (H13.loads (by kernel_rfl))) (d := (some 127)) (by kernel_rfl) rfl ?_
    refine og 2 [(2, (ptr b1)), (3, (ptr b10)), (4, (Value.func (Fn.func 65) ⟨[]⟩ ⟨[(ptr b1), (ptr b10)]⟩)), (5, (ptr b42)), (129, (i64 (IntKind.i64.wrap (0 + ((m.data.length : Nat) : Int)))))] 5 ?_
    have e72 : IntKind.i64.wrap (0 + ((m.data.length : Nat) : Int)) = ((0 + m.data.length : Nat) : Int) := by rw [wrap_i64 (by omega) (by omega)]; omega
    rw [e72]
    clear e72
    refine og 2 [(2, (ptr b1)), (3, (ptr b10)), (4, (Value.func (Fn.func 65) ⟨[]⟩ ⟨[(ptr b1), (ptr b10)]⟩)), (5, (ptr b42)), (124, (Value.bool (decide (((0 + m.data.length : Nat) : Int) > 65536))))] 7 ?_
    refine od ?_
    refine q_cond (o := .tmp 124) (b := (decide (((0 + m.data.length : Nat) : Int) > 65536))) (by kernel_rfl) rfl (fun h73 => ?_) (fun h73 => ?_)
    ·rw [h73]
     have p74 : ((0 + m.data.length : Nat) : Int) > 65536 := of_decide_eq_true h73
     refine qs ?_
     refine qg ?_
     refine Ops.go (v := (ptr r)) (by kernel_rfl) (Runs.load (t := 29) (a := ⟨b1, 0, none⟩) (by kernel_rfl) (H4.loads (by kernel_rfl))) (d := (some 131)) (by kernel_rfl) rfl ?_
     refine og 2 [(2, (ptr b1)), (3, (ptr b10)), (4, (Value.func (Fn.func 65) ⟨[]⟩ ⟨[(ptr b1), (ptr b10)]⟩)), (5, (ptr b42)), (133, (Value.pointer (some ⟨r, 15, none⟩)))] 3 ?_
     refine Ops.put (t := 82) (b := r) (off := 15) (v := (Value.pointer none)) (ys := [(i64 s.term), (i64 s.voted), (i64 0), (i64 m.frm), (i64 s.commit), (i64 q.group), (i64 q.me), (i64 q.n), (ptr g), (i64 0), (i64 q.timeout), (Value.slice none 0 0), (Value.map none), (Value.slice none 0 0), kv, (Value.pointer none), (Value.bool came), (Value.slice none 0 0)]) (by kernel_rfl) (by kernel_rfl) H52 (by kernel_rfl) (d := none) (by kernel_rfl) rfl (fun w75 H76 K77 => ?_)
     clear H52
     replace K0 := K0.trans K77 (U := (fun i => i = r ∨ i = g ∨ i = cb ∨ ((Value.slice CD cdata.length cdc)).ownBlock = some i)) (fun i h1 h2 => h2) (fun i h1 h2 => by have h2 : i = r := h2; exact .inl h2)
     replace H0 := H0.k1 K77 (by omega)
     replace Hcb := Hcb.k1 K77 (by omega)
     replace H4 := H4.k1 K77 (by omega)
     replace H13 := H13.k1 K77 (by omega)
     replace H45 := H45.k1 K77 (by omega)
     replace hE := Ents.keep hE K77 hrT
     replace hKv := ImgK.keep hKv K77 hKr
     replace hOw := own_keep hOw K77 (fun i hi => by have := hDr i hi; omega)
     clear K77
     refine od ?_
     refine qg ?_
     refine og 1 [(2, (ptr b1)), (3, (ptr b10)), (4, (Value.func (Fn.func 65) ⟨[]⟩ ⟨[(ptr b1), (ptr b10)]⟩)), (5, (ptr b42)), (134, (Value.func (Fn.func 65) ⟨[]⟩ ⟨[(ptr b1), (ptr b10)]⟩))] 1 ?_
     refine Ops.call (by kernel_rfl) (d := (some 135)) (by kernel_rfl) (has_calls _ r g s.term s.voted m.frm s.commit q.group q.me q.n 0 q.timeout kv (Value.pointer none) came m E ec D dc 0 b1 b10 H76 H4 H13 (by omega) (by omega)) ?_
     rintro _ w82 ⟨ob78, cap79, rest80, rfl, K81, H83, H84, hn85⟩
     have nob78 : w.heap.size ≤ ob78 := by have := K0.size; omega
     have lob78r : r < ob78 := by have := H76.lt; omega
     have lob78g : g < ob78 := by have := H0.lt; omega
     have lob78cb : cb < ob78 := by have := Hcb.lt; omega
     have lob78b1 : b1 < ob78 := by have := H4.lt; omega
     have lob78b10 : b10 < ob78 := by have := H13.lt; omega
     have lob78b42 : b42 < ob78 := by have := H45.lt; omega
     have ot86 : ∀ i, T i → i ≠ ob78 := fun i hi => by have := Ents.lt hE i hi; omega
     have of87 : ∀ i, (KF kv) i → i ≠ ob78 := fun i hi => by have := ImgK.lt hKv i hi; omega
     have ob88 : ∀ i, ((Value.slice CD cdata.length cdc)).ownBlock = some i → i ≠ ob78 := fun i hi => by have := (World.ownsRow.lt hOw i hi).2; omega
     refine ⟨_, _, rfl, rfl, ?_⟩
     replace K0 := K0.trans K81 (U := (fun i => i = r ∨ i = g ∨ i = cb ∨ ((Value.slice CD cdata.length cdc)).ownBlock = some i)) (fun i h1 h2 => h2) (fun i h1 h2 => by have h2 : i = r := h2; exact .inl h2)
     replace H0 := H0.k1 K81 (by omega)
     replace Hcb := Hcb.k1 K81 (by omega)
     replace H4 := H4.k1 K81 (by omega)
     replace H13 := H13.k1 K81 (by omega)
     replace H45 := H45.k1 K81 (by omega)
     replace hE := Ents.keep hE K81 hrT
     replace hKv := ImgK.keep hKv K81 hKr
     replace hOw := own_keep hOw K81 (fun i hi => by have := hDr i hi; omega)
     clear K81
     refine od ?_
     refine ⟨(Value.tuple #[]), retv_none rfl, ?_⟩
     exact ⟨(⟨s.term, s.voted, m.frm, s.commit, 0, s.base, s.old, (l.map EntP.key)⟩ : FolS), (Value.slice (some ⟨ob78, 0, none⟩) 1 cap79), (⟨6, m.frm, s.term, m.index, 0, false⟩ : OutM), rfl, (K0.mono (fun i _ h => by rcases h with h | h | h | h; (rw [h]; exact hFr); (rw [h]; exact hFg); (rw [h]; exact (hC9 cb hCc).2.2); (exact (hC9 i (hCi i h).1).2.2))), ⟨g, T, none_, A, c, l, kv, (Value.pointer none), came, H83, H0, hE, rfl, hKv, ⟨fun _ h => h.elim, .inl rfl⟩, fun i hi => ⟨hrT i hi, hT i hi, fun h => h, .inl (hT7 i hi).2.2.2, Ents.lt hE i hi⟩, fun i hi => ⟨hKr i hi, hKg i hi, fun h => h, .inl (hK8 i hi).2.2.2, ImgK.lt hKv i hi⟩, fun i hi => hi.elim, by omega, ⟨.inl hFr, H83.lt⟩, ⟨.inl hFg, H0.lt⟩, ⟨by show 0 ≤ (s.base : Int) ∧ (s.base : Int) ≤ 1152921504606846976; omega, by show ((l.map EntP.key)).length ≤ 4096; rw [List.length_map]; omega, hBig, by show (s.base : Int) ≤ s.commit ∧ (s.commit : Int) ≤ 2305843009213693952; omega⟩⟩, ⟨ob78, cap79, rest80, rfl, nob78, H84⟩, rfl, rfl, by show s.commit ≤ s.commit; omega, by show (6 : Int) ≠ 2; decide⟩
    ·rw [h73]
     have p89 : ¬ (((0 + m.data.length : Nat) : Int) > 65536) := of_decide_eq_false h73
     refine qs ?_
     refine q_draw (fun wz => Keeps (fun i => i = b42) w54 wz) 11 (by kernel_rfl) (by kernel_rfl) (by kernel_rfl) (fun w90 K91 _ _ => ⟨(K91.mono (fun _ _ h => h.elim)), ?_⟩)
     replace K0 := K0.tn K91
     replace H52 := H52.keep K91 (fun h => h)
     replace H0 := H0.keep K91 (fun h => h)
     replace Hcb := Hcb.keep K91 (fun h => h)
     replace H4 := H4.keep K91 (fun h => h)
     replace H13 := H13.keep K91 (fun h => h)
     replace H45 := H45.keep K91 (fun h => h)
     replace hE := Ents.keep0 hE K91
     replace hKv := ImgK.keep hKv K91 (fun _ _ h => h)
     replace hOw := own_keep0 hOw K91
     refine Dr.strong (S' := (fun wz => Keeps (fun i => i = b42) w90 wz)) ((Keeps.refl w90).mono (fun _ _ h => h.elim)) (fun wz hx => K91.trans hx (fun i _ h => h.elim) (fun _ _ h => h)) ?_
     clear K91
     refine Dr.takes (fuel' := 6) (is' := _) [0, 1, 2, 3, 5] [(2, (ptr b1)), (3, (ptr b10)), (4, (Value.func (Fn.func 65) ⟨[]⟩ ⟨[(ptr b1), (ptr b10)]⟩)), (5, (ptr b42)), (73, (ptr b42)), (76, (Value.pointer (some ⟨b42, 2, none⟩))), (78, (Value.pointer (some ⟨b10, 10, none⟩)))] (by kernel_rfl) rfl (by kernel_rfl) ?_
     refine Dr.take (i := 6) (v := (Value.slice D m.data.length dc)) (by kernel_rfl) (by kernel_rfl) (fun wz hS => Runs.load (t := 37) (a := ⟨b10, 10, none⟩) (by kernel_rfl) ((H13.keep hS (by intro h; change b10 = b42 at h; omega)).loads (by kernel_rfl))) (d := (some 79)) (by kernel_rfl) rfl ?_
     refine Dr.go (i := 4) (v := (Value.slice none 0 0)) (by kernel_rfl) (by kernel_rfl) (Runs.load (t := 37) (a := ⟨b42, 2, none⟩) (by kernel_rfl) (H45.loads (by kernel_rfl))) (d := (some 77)) (by kernel_rfl) rfl ((Keeps.refl _).mono (fun _ _ h => h.elim)) ?_
     obtain ⟨v92, w93, hr94, hO95, K96, hg97⟩ := OwnB.app2 (ty := 37) tyB (show OwnB w90 0 5 (.slice none 0 0) [] from World.ownsRow_nil _ _ _ _) (RdB.keepg hD K0 (fun hb i hi h => (hDU hb i hi).1 (by rcases h with h | h | h | h; (rw [h]; exact hFr); (rw [h]; exact hFg); (rw [h]; exact (hC9 cb hCc).2.2); (exact (hC9 i (hCi i h).1).2.2)))) (by (try simp only [List.length_nil]); omega) (Nat.zero_le _)
     obtain ⟨A99, c100, hf98⟩ := RdB.form (OwnB.rd hO95)
     subst hf98
     replace K96 : Keeps none_ _ _ := K96.mono (fun i _ h => by cases h)
     have ob101 : ∀ i, ((Value.slice A99 (([] ++ m.data).length) c100)).ownBlock = some i → i ≠ r := fun i hi => by rcases hg97 i hi with h | h; (cases h); (have := H52.lt; omega)
     have ob102 : ∀ i, ((Value.slice A99 (([] ++ m.data).length) c100)).ownBlock = some i → i ≠ g := fun i hi => by rcases hg97 i hi with h | h; (cases h); (have := H0.lt; omega)
     have ob103 : ∀ i, ((Value.slice A99 (([] ++ m.data).length) c100)).ownBlock = some i → i ≠ cb := fun i hi => by rcases hg97 i hi with h | h; (cases h); (have := Hcb.lt; omega)
     have ob104 : ∀ i, ((Value.slice A99 (([] ++ m.data).length) c100)).ownBlock = some i → i ≠ b1 := fun i hi => by rcases hg97 i hi with h | h; (cases h); (have := H4.lt; omega)
     have ob105 : ∀ i, ((Value.slice A99 (([] ++ m.data).length) c100)).ownBlock = some i → i ≠ b10 := fun i hi => by rcases hg97 i hi with h | h; (cases h); (have := H13.lt; omega)
     have ob106 : ∀ i, ((Value.slice A99 (([] ++ m.data).length) c100)).ownBlock = some i → i ≠ b42 := fun i hi => by rcases hg97 i hi with h | h; (cases h); (have := H45.lt; omega)
     have oo107 : ∀ i, ((Value.slice A99 (([] ++ m.data).length) c100)).ownBlock = some i → T i → False := fun i hs hi => by rcases hg97 i hs with h | h; (cases h); (have := Ents.lt hE i hi; omega)
     have oo108 : ∀ i, ((Value.slice A99 (([] ++ m.data).length) c100)).ownBlock = some i → (KF kv) i → False := fun i hs hi => by rcases hg97 i hs with h | h; (cases h); (have := ImgK.lt hKv i hi; omega)
     have oo109 : ∀ i, ((Value.slice CD cdata.length cdc)).ownBlock = some i → ((Value.slice A99 (([] ++ m.data).length) c100)).ownBlock = some i → False := fun i hi hs => by rcases hg97 i hs with h | h; (cases h); (have := (World.ownsRow.lt hOw i hi).2; omega)
     have oo110 : ∀ i, ((Value.slice A99 (([] ++ m.data).length) c100)).ownBlock = some i → ((Value.slice CD cdata.length cdc)).ownBlock = some i → False := fun i hi hs => oo109 i hs hi
     have hOF111 : ∀ i, ((Value.slice A99 (([] ++ m.data).length) c100)).ownBlock = some i → F i ∨ w.heap.size ≤ i := fun i hi => by rcases hg97 i hi with z | z; (cases z); (exact .inr (Nat.le_trans K0.size z))
     have hln112 : ([] ++ m.data).length = 0 + m.data.length := by rw [List.length_append]; rfl
     replace K0 := K0.tn K96
     replace H52 := H52.keep K96 (fun h => h)
     replace H0 := H0.keep K96 (fun h => h)
     replace Hcb := Hcb.keep K96 (fun h => h)
     replace H4 := H4.keep K96 (fun h => h)
     replace H13 := H13.keep K96 (fun h => h)
     replace H45 := H45.keep K96 (fun h => h)
     replace hE := Ents.keep0 hE K96
     replace hKv := ImgK.keep hKv K96 (fun _ _ h => h)
     replace hOw := own_keep0 hOw K96
     refine Dr.go (i := 7) (v := (Value.slice A99 (([] ++ m.data).length) c100)) (by kernel_rfl) (by kernel_rfl) (Runs.append (ts := #[37, 37]) (ty := 37) (vs := [(Value.slice none 0 0), (Value.slice D m.data.length dc)]) (by kernel_rfl) hr94) (d := (some 80)) (by kernel_rfl) rfl (K96.mono (fun _ _ h => h.elim)) ?_
     refine Dr.strong (S' := (fun wz => Keeps (fun i => i = b42) w93 wz)) ((Keeps.refl w93).mono (fun _ _ h => h.elim)) (fun wz hx => K96.trans hx (fun i _ h => h.elim) (fun _ _ h => h)) ?_
     clear K96 hr94 hg97
     refine Dr.takes (fuel' := 1) (is' := _) [8, 9] [(2, (ptr b1)), (3, (ptr b10)), (4, (Value.func (Fn.func 65) ⟨[]⟩ ⟨[(ptr b1), (ptr b10)]⟩)), (5, (ptr b42)), (80, (Value.slice A99 (([] ++ m.data).length) c100)), (82, (Value.pointer (some ⟨b42, 2, none⟩)))] (by kernel_rfl) rfl (by kernel_rfl) ?_
     refine Dr.put (i := 10) (t := 37) (b := b42) (off := 2) (v := (Value.slice A99 (([] ++ m.data).length) c100)) (ys := [(i64 m.index), (i64 m.logTerm), (Value.slice A99 (([] ++ m.data).length) c100)]) (by kernel_rfl) (by kernel_rfl) (by kernel_rfl) H45 (by kernel_rfl) (d := none) (by kernel_rfl) rfl (fun w113 H114 K115 => ?_)
     clear H45
     replace K0 := K0.trans K115 (U := (fun i => i = r ∨ i = g ∨ i = cb ∨ ((Value.slice CD cdata.length cdc)).ownBlock = some i)) (fun i h1 h2 => h2) (fun i h1 h2 => by have h2 : i = b42 := h2; exfalso; omega)
     replace H52 := H52.k1 K115 (by omega)
     replace H0 := H0.k1 K115 (by omega)
     replace Hcb := Hcb.k1 K115 (by omega)
     replace H4 := H4.k1 K115 (by omega)
     replace H13 := H13.k1 K115 (by omega)
     replace hE := Ents.keep hE K115 ot48
     replace hKv := ImgK.keep hKv K115 of49
     replace hOw := own_keep hOw K115 (fun i hi => by have := ob50 i hi; omega)
     replace hO95 := own_keep hO95 K115 (fun i hi => by have := ob106 i hi; omega)
     refine ⟨K115, ?_⟩
     refine Dr.strong (S' := (fun wz => Keeps (fun i => i = b42) w113 wz)) ((Keeps.refl w113).mono (fun _ _ h => h.elim)) (fun wz hx => K115.trans hx (fun i _ h => by have h : i = b42 := h; show i = b42; omega) (fun _ _ h => h)) ?_
     clear K115
     refine Dr.done (by kernel_rfl) ?_
     refine qs ?_
     refine qs ?_
     refine qg ?_
     refine og 1 [(2, (ptr b1)), (3, (ptr b10)), (4, (Value.func (Fn.func 65) ⟨[]⟩ ⟨[(ptr b1), (ptr b10)]⟩)), (5, (ptr b42)), (83, (Value.pointer (some ⟨b10, 8, none⟩)))] 1 ?_
     refine Ops.go (v := (Value.bool m.ok)) (by kernel_rfl) (Runs.load (t := 4) (a := ⟨b10, 8, none⟩) (by kernel_rfl) (H13.loads (by kernel_rfl))) (d := (some 84)) (by kernel_rfl) rfl ?_
     refine og 1 [(2, (ptr b1)), (3, (ptr b10)), (4, (Value.func (Fn.func 65) ⟨[]⟩ ⟨[(ptr b1), (ptr b10)]⟩)), (5, (ptr b42)), (85, (Value.bool (!m.ok)))] 3 ?_
     refine od ?_
     refine q_cond (o := .tmp 85) (b := (!m.ok)) (by kernel_rfl) rfl (fun h116 => ?_) (fun h116 => ?_)
     ·rw [h116]
      have p117 : m.ok = false := (bnot_true h116)
      refine qs ?_
      refine qg ?_
      refine og 4 [(2, (ptr b1)), (3, (ptr b10)), (4, (Value.func (Fn.func 65) ⟨[]⟩ ⟨[(ptr b1), (ptr b10)]⟩)), (5, (ptr b42)), (86, (Value.func (Fn.func 65) ⟨[]⟩ ⟨[(ptr b1), (ptr b10)]⟩)), (89, (Value.pointer (some ⟨b42, 2, none⟩)))] 4 ?_
      refine Ops.go (v := (Value.slice A99 (([] ++ m.data).length) c100)) (by kernel_rfl) (Runs.load (t := 37) (a := ⟨b42, 2, none⟩) (by kernel_rfl) (H114.loads (by kernel_rfl))) (d := (some 90)) (by kernel_rfl) rfl ?_
      refine og 1 [(2, (ptr b1)), (3, (ptr b10)), (4, (Value.func (Fn.func 65) ⟨[]⟩ ⟨[(ptr b1), (ptr b10)]⟩)), (5, (ptr b42)), (86, (Value.func (Fn.func 65) ⟨[]⟩ ⟨[(ptr b1), (ptr b10)]⟩)), (91, (i64 ((([] ++ m.data).length : Nat) : Int)))] 6 ?_
      refine Ops.call (by kernel_rfl) (d := (some 92)) (by kernel_rfl) (has_calls _ r g s.term s.voted m.frm s.commit q.group q.me q.n 0 q.timeout kv (ptr b42) came m E ec D dc ((([] ++ m.data).length : Nat) : Int) b1 b10 H52 H4 H13 (by omega) (by omega)) ?_
      rintro _ w122 ⟨ob118, cap119, rest120, rfl, K121, H123, H124, hn125⟩
      have nob118 : w.heap.size ≤ ob118 := by have := K0.size; omega
      have lob118r : r < ob118 := by have := H52.lt; omega
      have lob118g : g < ob118 := by have := H0.lt; omega
      have lob118cb : cb < ob118 := by have := Hcb.lt; omega
      have lob118b1 : b1 < ob118 := by have := H4.lt; omega
      have lob118b10 : b10 < ob118 := by have := H13.lt; omega
      have lob118b42 : b42 < ob118 := by have := H114.lt; omega
      have ot126 : ∀ i, T i → i ≠ ob118 := fun i hi => by have := Ents.lt hE i hi; omega
      have of127 : ∀ i, (KF kv) i → i ≠ ob118 := fun i hi => by have := ImgK.lt hKv i hi; omega
      have ob128 : ∀ i, ((Value.slice CD cdata.length cdc)).ownBlock = some i → i ≠ ob118 := fun i hi => by have := (World.ownsRow.lt hOw i hi).2; omega
      have ob129 : ∀ i, ((Value.slice A99 (([] ++ m.data).length) c100)).ownBlock = some i → i ≠ ob118 := fun i hi => by have := (World.ownsRow.lt hO95 i hi).2; omega
      refine ⟨_, _, rfl, rfl, ?_⟩
      replace K0 := K0.trans K121 (U := (fun i => i = r ∨ i = g ∨ i = cb ∨ ((Value.slice CD cdata.length cdc)).ownBlock = some i)) (fun i h1 h2 => h2) (fun i h1 h2 => by have h2 : i = r := h2; exact .inl h2)
      replace H0 := H0.k1 K121 (by omega)
      replace Hcb := Hcb.k1 K121 (by omega)
      replace H4 := H4.k1 K121 (by omega)
      replace H13 := H13.k1 K121 (by omega)
      replace H114 := H114.k1 K121 (by omega)
      replace hE := Ents.keep hE K121 hrT
      replace hKv := ImgK.keep hKv K121 hKr
      replace hOw := own_keep hOw K121 (fun i hi => by have := hDr i hi; omega)
      replace hO95 := own_keep hO95 K121 (fun i hi => by have := ob101 i hi; omega)
      clear K121
      refine od ?_
      refine q_ret (by kernel_rfl) ?_
      refine ⟨(Value.tuple #[]), retv_none rfl, ?_⟩
      exact ⟨(⟨s.term, s.voted, m.frm, s.commit, 0, s.base, s.old, (l.map EntP.key)⟩ : FolS), (Value.slice (some ⟨ob118, 0, none⟩) 1 cap119), (⟨6, m.frm, s.term, m.index, ((([] ++ m.data).length : Nat) : Int), false⟩ : OutM), rfl, (K0.mono (fun i _ h => by rcases h with h | h | h | h; (rw [h]; exact hFr); (rw [h]; exact hFg); (rw [h]; exact (hC9 cb hCc).2.2); (exact (hC9 i (hCi i h).1).2.2))), ⟨g, T, (fun i => i = b42 ∨ ((Value.slice A99 (([] ++ m.data).length) c100)).ownBlock = some i), A, c, l, kv, (ptr b42), came, H123, H0, hE, rfl, hKv, ⟨fun i hi => by rcases hi with hi | hi; (rw [hi]; exact H114.lt); (exact (World.ownsRow.lt hO95 i hi).2), .inr ⟨b42, m.index, m.logTerm, A99, c100, ([] ++ m.data), rfl, H114, own_base hO95 (Nat.zero_le _), (by (try simp only [List.length_append]); (try simp only [List.length_nil]); omega), .inl rfl, (fun i hi => ⟨.inr hi, ob106 i hi⟩)⟩⟩, fun i hi => ⟨hrT i hi, hT i hi, fun h => by rcases h with h | h; (exact ot48 i hi h); (exact oo107 i h hi), .inl (hT7 i hi).2.2.2, Ents.lt hE i hi⟩, fun i hi => ⟨hKr i hi, hKg i hi, fun h => by rcases h with h | h; (exact of49 i hi h); (exact oo108 i h hi), .inl (hK8 i hi).2.2.2, ImgK.lt hKv i hi⟩, fun i hi => by rcases hi with hi | hi; (rw [hi]; exact ⟨by omega, by omega, .inr nb42, H114.lt⟩); (exact ⟨ob101 i hi, ob102 i hi, hOF111 i hi, (World.ownsRow.lt hO95 i hi).2⟩), by omega, ⟨.inl hFr, H123.lt⟩, ⟨.inl hFg, H0.lt⟩, ⟨by show 0 ≤ (s.base : Int) ∧ (s.base : Int) ≤ 1152921504606846976; omega, by show ((l.map EntP.key)).length ≤ 4096; rw [List.length_map]; omega, hBig, by show (s.base : Int) ≤ s.commit ∧ (s.commit : Int) ≤ 2305843009213693952; omega⟩⟩, ⟨ob118, cap119, rest120, rfl, nob118, H124⟩, rfl, rfl, by show s.commit ≤ s.commit; omega, by show (6 : Int) ≠ 2; decide⟩
     ·rw [h116]
      have p130 : m.ok = true := (bnot_false h116)
      refine q_skip (by kernel_rfl) ?_
      refine qs ?_
      refine qg ?_
      refine Ops.go (v := (ptr r)) (by kernel_rfl) (Runs.load (t := 29) (a := ⟨b1, 0, none⟩) (by kernel_rfl) (H4.loads (by kernel_rfl))) (d := (some 93)) (by kernel_rfl) rfl ?_
      refine og 2 [(2, (ptr b1)), (3, (ptr b10)), (4, (Value.func (Fn.func 65) ⟨[]⟩ ⟨[(ptr b1), (ptr b10)]⟩)), (5, (ptr b42)), (95, (Value.pointer (some ⟨r, 15, none⟩)))] 3 ?_
      refine Ops.put (t := 82) (b := r) (off := 15) (v := (Value.pointer none)) (ys := [(i64 s.term), (i64 s.voted), (i64 0), (i64 m.frm), (i64 s.commit), (i64 q.group), (i64 q.me), (i64 q.n), (ptr g), (i64 0), (i64 q.timeout), (Value.slice none 0 0), (Value.map none), (Value.slice none 0 0), kv, (Value.pointer none), (Value.bool came), (Value.slice none 0 0)]) (by kernel_rfl) (by kernel_rfl) H52 (by kernel_rfl) (d := none) (by kernel_rfl) rfl (fun w131 H132 K133 => ?_)
      clear H52
      replace K0 := K0.trans K133 (U := (fun i => i = r ∨ i = g ∨ i = cb ∨ ((Value.slice CD cdata.length cdc)).ownBlock = some i)) (fun i h1 h2 => h2) (fun i h1 h2 => by have h2 : i = r := h2; exact .inl h2)
      replace H0 := H0.k1 K133 (by omega)
      replace Hcb := Hcb.k1 K133 (by omega)
      replace H4 := H4.k1 K133 (by omega)
      replace H13 := H13.k1 K133 (by omega)
      replace H114 := H114.k1 K133 (by omega)
      replace hE := Ents.keep hE K133 hrT
      replace hKv := ImgK.keep hKv K133 hKr
      replace hOw := own_keep hOw K133 (fun i hi => by have := hDr i hi; omega)
      replace hO95 := own_keep hO95 K133 (fun i hi => by have := ob101 i hi; omega)
      clear K133
      refine od ?_
      refine qs ?_
      refine qs ?_
      refine qg ?_
      refine og 1 [(2, (ptr b1)), (3, (ptr b10)), (4, (Value.func (Fn.func 65) ⟨[]⟩ ⟨[(ptr b1), (ptr b10)]⟩)), (5, (ptr b42)), (96, (Value.pointer (some ⟨b10, 6, none⟩)))] 1 ?_
      refine Ops.go (v := (i64 m.logTerm)) (by kernel_rfl) (Runs.load (t := 2) (a := ⟨b10, 6, none⟩) (by kernel_rfl) (H13.loads (by kernel_rfl))) (d := (some 97)) (by kernel_rfl) rfl ?_
      refine og 1 [(2, (ptr b1)), (3, (ptr b10)), (4, (Value.func (Fn.func 65) ⟨[]⟩ ⟨[(ptr b1), (ptr b10)]⟩)), (5, (ptr b42)), (97, (i64 m.logTerm)), (98, (Value.pointer (some ⟨b10, 4, none⟩)))] 3 ?_
      refine Ops.go (v := (i64 m.term)) (by kernel_rfl) (Runs.load (t := 2) (a := ⟨b10, 4, none⟩) (by kernel_rfl) (H13.loads (by kernel_rfl))) (d := (some 99)) (by kernel_rfl) rfl ?_
      refine og 2 [(2, (ptr b1)), (3, (ptr b10)), (4, (Value.func (Fn.func 65) ⟨[]⟩ ⟨[(ptr b1), (ptr b10)]⟩)), (5, (ptr b42)), (101, (Value.bool (decide (m.logTerm > m.term))))] 6 ?_
      refine Ops.split (decide (m.logTerm > m.term)) (fun h134 => ?_) (fun h134 => ?_)
      ·rw [h134]
       have p135 : m.logTerm > m.term := of_decide_eq_true h134
       refine og 5 [(2, (ptr b1)), (3, (ptr b10)), (4, (Value.func (Fn.func 65) ⟨[]⟩ ⟨[(ptr b1), (ptr b10)]⟩)), (106, (Value.bool true))] 11 ?_
       refine od ?_
       refine q_then (o := .tmp 106) (by kernel_rfl) rfl ?_
       refine qs ?_
       refine qg ?_
       refine og 1 [(2, (ptr b1)), (3, (ptr b10)), (107, (Value.func (Fn.func 65) ⟨[]⟩ ⟨[(ptr b1), (ptr b10)]⟩))] 1 ?_
       refine Ops.call (by kernel_rfl) (d := (some 108)) (by kernel_rfl) (has_calls _ r g s.term s.voted m.frm s.commit q.group q.me q.n 0 q.timeout kv (Value.pointer none) came m E ec D dc 0 b1 b10 H132 H4 H13 (by omega) (by omega)) ?_
       rintro _ w140 ⟨ob136, cap137, rest138, rfl, K139, H141, H142, hn143⟩
       have nob136 : w.heap.size ≤ ob136 := by have := K0.size; omega
       have lob136r : r < ob136 := by have := H132.lt; omega
       have lob136g : g < ob136 := by have := H0.lt; omega
       have lob136cb : cb < ob136 := by have := Hcb.lt; omega
       have lob136b1 : b1 < ob136 := by have := H4.lt; omega
       have lob136b10 : b10 < ob136 := by have := H13.lt; omega
       have lob136b42 : b42 < ob136 := by have := H114.lt; omega
       have ot144 : ∀ i, T i → i ≠ ob136 := fun i hi => by have := Ents.lt hE i hi; omega
       have of145 : ∀ i, (KF kv) i → i ≠ ob136 := fun i hi => by have := ImgK.lt hKv i hi; omega
       have ob146 : ∀ i, ((Value.slice CD cdata.length cdc)).ownBlock = some i → i ≠ ob136 := fun i hi => by have := (World.ownsRow.lt hOw i hi).2; omega
       have ob147 : ∀ i, ((Value.slice A99 (([] ++ m.data).length) c100)).ownBlock = some i → i ≠ ob136 := fun i hi => by have := (World.ownsRow.lt hO95 i hi).2; omega
       refine ⟨_, _, rfl, rfl, ?_⟩
       replace K0 := K0.trans K139 (U := (fun i => i = r ∨ i = g ∨ i = cb ∨ ((Value.slice CD cdata.length cdc)).ownBlock = some i)) (fun i h1 h2 => h2) (fun i h1 h2 => by have h2 : i = r := h2; exact .inl h2)
       replace H0 := H0.k1 K139 (by omega)
       replace Hcb := Hcb.k1 K139 (by omega)
       replace H4 := H4.k1 K139 (by omega)
       replace H13 := H13.k1 K139 (by omega)
       replace H114 := H114.k1 K139 (by omega)
       replace hE := Ents.keep hE K139 hrT
       replace hKv := ImgK.keep hKv K139 hKr
       replace hOw := own_keep hOw K139 (fun i hi => by have := hDr i hi; omega)
       replace hO95 := own_keep hO95 K139 (fun i hi => by have := ob101 i hi; omega)
       clear K139
       refine od ?_
       refine q_ret (by kernel_rfl) ?_
       refine ⟨(Value.tuple #[]), retv_none rfl, ?_⟩
       exact ⟨(⟨s.term, s.voted, m.frm, s.commit, 0, s.base, s.old, (l.map EntP.key)⟩ : FolS), (Value.slice (some ⟨ob136, 0, none⟩) 1 cap137), (⟨6, m.frm, s.term, m.index, 0, false⟩ : OutM), rfl, (K0.mono (fun i _ h => by rcases h with h | h | h | h; (rw [h]; exact hFr); (rw [h]; exact hFg); (rw [h]; exact (hC9 cb hCc).2.2); (exact (hC9 i (hCi i h).1).2.2))), ⟨g, T, none_, A, c, l, kv, (Value.pointer none), came, H141, H0, hE, rfl, hKv, ⟨fun _ h => h.elim, .inl rfl⟩, fun i hi => ⟨hrT i hi, hT i hi, fun h => h, .inl (hT7 i hi).2.2.2, Ents.lt hE i hi⟩, fun i hi => ⟨hKr i hi, hKg i hi, fun h => h, .inl (hK8 i hi).2.2.2, ImgK.lt hKv i hi⟩, fun i hi => hi.elim, by omega, ⟨.inl hFr, H141.lt⟩, ⟨.inl hFg, H0.lt⟩, ⟨by show 0 ≤ (s.base : Int) ∧ (s.base : Int) ≤ 1152921504606846976; omega, by show ((l.map EntP.key)).length ≤ 4096; rw [List.length_map]; omega, hBig, by show (s.base : Int) ≤ s.commit ∧ (s.commit : Int) ≤ 2305843009213693952; omega⟩⟩, ⟨ob136, cap137, rest138, rfl, nob136, H142⟩, rfl, rfl, by show s.commit ≤ s.commit; omega, by show (6 : Int) ≠ 2; decide⟩
      ·rw [h134]
       have p148 : ¬ (m.logTerm > m.term) := of_decide_eq_false h134
       refine Ops.go (v := (ptr r)) (by kernel_rfl) (Runs.load (t := 29) (a := ⟨b1, 0, none⟩) (by kernel_rfl) (H4.loads (by kernel_rfl))) (d := (some 102)) (by kernel_rfl) rfl ?_
       refine og 1 [(2, (ptr b1)), (3, (ptr b10)), (4, (Value.func (Fn.func 65) ⟨[]⟩ ⟨[(ptr b1), (ptr b10)]⟩)), (101, (Value.bool false)), (102, (ptr r)), (103, (ptr b42))] 8 ?_
       refine Ops.call (by kernel_rfl) (d := (some 104)) (by kernel_rfl) (install_calls _ r g s.term s.voted m.frm s.commit q.group q.me q.n 0 q.timeout kv came T s.base s.old A c l b42 m.index m.logTerm A99 (([] ++ m.data).length) c100 H132 H0 hE hT (by omega) (by omega) (by omega) hrT hBig H114 ot48 ⟨by omega, by omega⟩ (by omega) (by omega) (by omega) (by omega)) ?_
       rintro _ w160 ⟨bb149, g150, base151, old152, A153, c154, l155, T156, cm157, kv158, came159, rfl, K161, H162, H163, hE164, hl165, hb166, hT167, hg168, hr169, hB170, hc171, (rfl | rfl)⟩
       ·refine ⟨_, _, rfl, rfl, ?_⟩
        have ot172 : ∀ i, T156 i → i ≠ r := fun i hi => (hT167 i hi).2.1
        have ot173 : ∀ i, T156 i → i ≠ cb := fun i hi => by rcases (hT167 i hi).2.2 with z | z; (exact hTcb i z); (have := Hcb.lt; omega)
        have dg150cb : g150 ≠ cb := by have := Hcb.lt; omega
        have ot174 : ∀ i, T156 i → i ≠ b1 := fun i hi => by rcases (hT167 i hi).2.2 with z | z; (exact ot7 i z); (have := H4.lt; omega)
        have dg150b1 : g150 ≠ b1 := by have := H4.lt; omega
        have ot175 : ∀ i, T156 i → i ≠ b10 := fun i hi => by rcases (hT167 i hi).2.2 with z | z; (exact ot16 i z); (have := H13.lt; omega)
        have dg150b10 : g150 ≠ b10 := by have := H13.lt; omega
        have ot176 : ∀ i, T156 i → i ≠ b42 := fun i hi => by rcases (hT167 i hi).2.2 with z | z; (exact ot48 i z); (have := H114.lt; omega)
        have dg150b42 : g150 ≠ b42 := by have := H114.lt; omega
        have ot177 : ∀ i, T156 i → i ≠ g150 := fun i hi => (hT167 i hi).1
        have of178 : ∀ i, (KF kv) i → i ≠ g150 := fun i hi => by have := hKg i hi; have := ImgK.lt hKv i hi; omega
        have ob179 : ∀ i, ((Value.slice CD cdata.length cdc)).ownBlock = some i → i ≠ g150 := fun i hi => by have := hDg i hi; have := (World.ownsRow.lt hOw i hi).2; omega
        have oo180 : ∀ i, ((Value.slice CD cdata.length cdc)).ownBlock = some i → T156 i → False := fun i hs hi => by rcases (hT167 i hi).2.2 with z | z; (exact hTD i hs z); (have := (World.ownsRow.lt hOw i hs).2; omega)
        have ob181 : ∀ i, ((Value.slice A99 (([] ++ m.data).length) c100)).ownBlock = some i → i ≠ g150 := fun i hi => by have := ob102 i hi; have := (World.ownsRow.lt hO95 i hi).2; omega
        have oo182 : ∀ i, ((Value.slice A99 (([] ++ m.data).length) c100)).ownBlock = some i → T156 i → False := fun i hs hi => by rcases (hT167 i hi).2.2 with z | z; (exact oo107 i hs z); (have := (World.ownsRow.lt hO95 i hs).2; omega)
        have or183 : ∀ i, T156 i → T i ∨ w.heap.size ≤ i := fun i hi => (hT167 i hi).2.2.elim (fun z => .inl z) (fun z => .inr (Nat.le_trans K0.size z))
        have fg150 : F g150 ∨ w.heap.size ≤ g150 := by rcases hg168 with z | z; (rw [z]; exact .inl hFg); (exact .inr (Nat.le_trans K0.size z))
        replace K0 := K0.trans K161 (U := (fun i => i = r ∨ i = g ∨ i = cb ∨ ((Value.slice CD cdata.length cdc)).ownBlock = some i)) (fun i h1 h2 => h2) (fun i h1 h2 => by have h2 : i = r ∨ i = g := h2; rcases h2 with h2 | h2; (exact .inl h2); (exact .inr (.inl h2)))
        replace Hcb := Hcb.keep K161 (by intro h; change cb = r ∨ cb = g at h; omega)
        replace H4 := H4.keep K161 (by intro h; change b1 = r ∨ b1 = g at h; omega)
        replace H13 := H13.keep K161 (by intro h; change b10 = r ∨ b10 = g at h; omega)
        replace H114 := H114.keep K161 (by intro h; change b42 = r ∨ b42 = g at h; omega)
        replace hE := Ents.keep hE K161 (fun i hi hs => by have hs : i = r ∨ i = g := hs; rcases hs with hs | hs; (have := hrT i hi; omega); (have := hT i hi; omega))
        replace hKv := ImgK.keep hKv K161 (fun i hi hs => by have hs : i = r ∨ i = g := hs; rcases hs with hs | hs; (have := hKr i hi; omega); (have := hKg i hi; omega))
        replace hOw := own_keep hOw K161 (fun i hi hs => by have hs : i = r ∨ i = g := hs; rcases hs with hs | hs; (have := hDr i hi; omega); (have := hDg i hi; omega))
        replace hO95 := own_keep hO95 K161 (fun i hi hs => by have hs : i = r ∨ i = g := hs; rcases hs with hs | hs; (have := ob101 i hi; omega); (have := ob102 i hi; omega))
        clear K161
        refine og 2 [(2, (ptr b1)), (3, (ptr b10)), (4, (Value.func (Fn.func 65) ⟨[]⟩ ⟨[(ptr b1), (ptr b10)]⟩)), (106, (Value.bool (!bb149)))] 11 ?_
        refine od ?_
        refine q_cond (o := .tmp 106) (b := (!bb149)) (by kernel_rfl) rfl (fun h184 => ?_) (fun h184 => ?_)
        ·rw [h184]
         have p185 : bb149 = false := (bnot_true h184)
         try rw [p185]
         refine qs ?_
         refine qg ?_
         refine og 1 [(2, (ptr b1)), (3, (ptr b10)), (107, (Value.func (Fn.func 65) ⟨[]⟩ ⟨[(ptr b1), (ptr b10)]⟩))] 1 ?_
         refine Ops.call (by kernel_rfl) (d := (some 108)) (by kernel_rfl) (has_calls _ r g150 s.term s.voted m.frm cm157 q.group q.me q.n 0 q.timeout kv (Value.pointer none) came159 m E ec D dc 0 b1 b10 H162 H4 H13 (by omega) (by omega)) ?_
         rintro _ w190 ⟨ob186, cap187, rest188, rfl, K189, H191, H192, hn193⟩
         have nob186 : w.heap.size ≤ ob186 := by have := K0.size; omega
         have lob186r : r < ob186 := by have := H162.lt; omega
         have lob186cb : cb < ob186 := by have := Hcb.lt; omega
         have lob186b1 : b1 < ob186 := by have := H4.lt; omega
         have lob186b10 : b10 < ob186 := by have := H13.lt; omega
         have lob186b42 : b42 < ob186 := by have := H114.lt; omega
         have lob186g150 : g150 < ob186 := by have := H163.lt; omega
         have ot194 : ∀ i, T i → i ≠ ob186 := fun i hi => by have := Ents.lt hE i hi; omega
         have of195 : ∀ i, (KF kv) i → i ≠ ob186 := fun i hi => by have := ImgK.lt hKv i hi; omega
         have ob196 : ∀ i, ((Value.slice CD cdata.length cdc)).ownBlock = some i → i ≠ ob186 := fun i hi => by have := (World.ownsRow.lt hOw i hi).2; omega
         have ob197 : ∀ i, ((Value.slice A99 (([] ++ m.data).length) c100)).ownBlock = some i → i ≠ ob186 := fun i hi => by have := (World.ownsRow.lt hO95 i hi).2; omega
         have ot198 : ∀ i, T156 i → i ≠ ob186 := fun i hi => by have := Ents.lt hE164 i hi; omega
         refine ⟨_, _, rfl, rfl, ?_⟩
         replace K0 := K0.trans K189 (U := (fun i => i = r ∨ i = g ∨ i = cb ∨ ((Value.slice CD cdata.length cdc)).ownBlock = some i)) (fun i h1 h2 => h2) (fun i h1 h2 => by have h2 : i = r := h2; exact .inl h2)
         replace Hcb := Hcb.k1 K189 (by omega)
         replace H4 := H4.k1 K189 (by omega)
         replace H13 := H13.k1 K189 (by omega)
         replace H114 := H114.k1 K189 (by omega)
         replace H163 := H163.k1 K189 (by omega)
         replace hE := Ents.keep hE K189 hrT
         replace hKv := ImgK.keep hKv K189 hKr
         replace hOw := own_keep hOw K189 (fun i hi => by have := hDr i hi; omega)
         replace hO95 := own_keep hO95 K189 (fun i hi => by have := ob101 i hi; omega)
         replace hE164 := Ents.keep hE164 K189 ot172
         clear K189
         refine od ?_
         refine q_ret (by kernel_rfl) ?_
         refine ⟨(Value.tuple #[]), retv_none rfl, ?_⟩
         exact ⟨(⟨s.term, s.voted, m.frm, cm157, 0, base151, old152, (l155.map EntP.key)⟩ : FolS), (Value.slice (some ⟨ob186, 0, none⟩) 1 cap187), (⟨6, m.frm, s.term, m.index, 0, false⟩ : OutM), rfl, (K0.mono (fun i _ h => by rcases h with h | h | h | h; (rw [h]; exact hFr); (rw [h]; exact hFg); (rw [h]; exact (hC9 cb hCc).2.2); (exact (hC9 i (hCi i h).1).2.2))), ⟨g150, T156, none_, A153, c154, l155, kv, (Value.pointer none), came159, H191, H163, hE164, rfl, hKv, ⟨fun _ h => h.elim, .inl rfl⟩, fun i hi => ⟨ot172 i hi, ot177 i hi, fun h => h, (or183 i hi).imp (fun z => (hT7 i z).2.2.2) id, Ents.lt hE164 i hi⟩, fun i hi => ⟨hKr i hi, of178 i hi, fun h => h, .inl (hK8 i hi).2.2.2, ImgK.lt hKv i hi⟩, fun i hi => hi.elim, by omega, ⟨.inl hFr, H191.lt⟩, ⟨fg150, H163.lt⟩, ⟨by show 0 ≤ (base151 : Int) ∧ (base151 : Int) ≤ 1152921504606846976; omega, by show ((l155.map EntP.key)).length ≤ 4096; rw [List.length_map]; omega, hb166, by show (base151 : Int) ≤ cm157 ∧ (cm157 : Int) ≤ 2305843009213693952; omega⟩⟩, ⟨ob186, cap187, rest188, rfl, nob186, H192⟩, rfl, rfl, by show s.commit ≤ cm157; omega, by show (6 : Int) ≠ 2; decide⟩
        ·rw [h184]
         have p199 : bb149 = true := (bnot_false h184)
         try rw [p199]
         refine q_skip (by kernel_rfl) ?_
         refine qg ?_
         refine Ops.go (v := (ptr r)) (by kernel_rfl) (Runs.load (t := 29) (a := ⟨b1, 0, none⟩) (by kernel_rfl) (H4.loads (by kernel_rfl))) (d := (some 109)) (by kernel_rfl) rfl ?_
         refine og 1 [(3, (ptr b10)), (109, (ptr r)), (110, (Value.pointer (some ⟨b10, 2, none⟩)))] 2 ?_
         refine Ops.go (v := (i64 m.frm)) (by kernel_rfl) (Runs.load (t := 3) (a := ⟨b10, 2, none⟩) (by kernel_rfl) (H13.loads (by kernel_rfl))) (d := (some 111)) (by kernel_rfl) rfl ?_
         refine og 1 [(109, (ptr r)), (111, (i64 m.frm)), (112, (Value.pointer (some ⟨b10, 5, none⟩)))] 4 ?_
         refine Ops.go (v := (i64 m.index)) (by kernel_rfl) (Runs.load (t := 2) (a := ⟨b10, 5, none⟩) (by kernel_rfl) (H13.loads (by kernel_rfl))) (d := (some 113)) (by kernel_rfl) rfl ?_
         refine og 1 [(109, (ptr r)), (111, (i64 m.frm)), (114, (agg [(i64 4), (i64 0), (i64 0), (i64 0), (i64 0), (i64 m.index), (i64 0), (i64 0), (Value.bool true), (Value.slice none 0 0), (Value.slice none 0 0)]))] 6 ?_
         refine Ops.call (by kernel_rfl) (d := (some 115)) (by kernel_rfl) (Fput_calls _ r g150 s.term s.voted m.frm cm157 q.group q.me q.n 0 q.timeout kv (Value.pointer none) came159 m.frm 4 m.index 0 true H162) ?_
         rintro _ w204 ⟨ob200, cap201, rest202, rfl, K203, H205, H206, hn207⟩
         have nob200 : w.heap.size ≤ ob200 := by have := K0.size; omega
         have lob200r : r < ob200 := by have := H162.lt; omega
         have lob200cb : cb < ob200 := by have := Hcb.lt; omega
         have lob200b1 : b1 < ob200 := by have := H4.lt; omega
         have lob200b10 : b10 < ob200 := by have := H13.lt; omega
         have lob200b42 : b42 < ob200 := by have := H114.lt; omega
         have lob200g150 : g150 < ob200 := by have := H163.lt; omega
         have ot208 : ∀ i, T i → i ≠ ob200 := fun i hi => by have := Ents.lt hE i hi; omega
         have of209 : ∀ i, (KF kv) i → i ≠ ob200 := fun i hi => by have := ImgK.lt hKv i hi; omega
         have ob210 : ∀ i, ((Value.slice CD cdata.length cdc)).ownBlock = some i → i ≠ ob200 := fun i hi => by have := (World.ownsRow.lt hOw i hi).2; omega
         have ob211 : ∀ i, ((Value.slice A99 (([] ++ m.data).length) c100)).ownBlock = some i → i ≠ ob200 := fun i hi => by have := (World.ownsRow.lt hO95 i hi).2; omega
         have ot212 : ∀ i, T156 i → i ≠ ob200 := fun i hi => by have := Ents.lt hE164 i hi; omega
         refine ⟨_, _, rfl, rfl, ?_⟩
         replace K0 := K0.trans K203 (U := (fun i => i = r ∨ i = g ∨ i = cb ∨ ((Value.slice CD cdata.length cdc)).ownBlock = some i)) (fun i h1 h2 => h2) (fun i h1 h2 => by have h2 : i = r := h2; exact .inl h2)
         replace Hcb := Hcb.k1 K203 (by omega)
         replace H4 := H4.k1 K203 (by omega)
         replace H13 := H13.k1 K203 (by omega)
         replace H114 := H114.k1 K203 (by omega)
         replace H163 := H163.k1 K203 (by omega)
         replace hE := Ents.keep hE K203 hrT
         replace hKv := ImgK.keep hKv K203 hKr
         replace hOw := own_keep hOw K203 (fun i hi => by have := hDr i hi; omega)
         replace hO95 := own_keep hO95 K203 (fun i hi => by have := ob101 i hi; omega)
         replace hE164 := Ents.keep hE164 K203 ot172
         clear K203
         refine od ?_
         refine ⟨(Value.tuple #[]), retv_none rfl, ?_⟩
         exact ⟨(⟨s.term, s.voted, m.frm, cm157, 0, base151, old152, (l155.map EntP.key)⟩ : FolS), (Value.slice (some ⟨ob200, 0, none⟩) 1 cap201), (⟨4, m.frm, s.term, m.index, 0, true⟩ : OutM), rfl, (K0.mono (fun i _ h => by rcases h with h | h | h | h; (rw [h]; exact hFr); (rw [h]; exact hFg); (rw [h]; exact (hC9 cb hCc).2.2); (exact (hC9 i (hCi i h).1).2.2))), ⟨g150, T156, none_, A153, c154, l155, kv, (Value.pointer none), came159, H205, H163, hE164, rfl, hKv, ⟨fun _ h => h.elim, .inl rfl⟩, fun i hi => ⟨ot172 i hi, ot177 i hi, fun h => h, (or183 i hi).imp (fun z => (hT7 i z).2.2.2) id, Ents.lt hE164 i hi⟩, fun i hi => ⟨hKr i hi, of178 i hi, fun h => h, .inl (hK8 i hi).2.2.2, ImgK.lt hKv i hi⟩, fun i hi => hi.elim, by omega, ⟨.inl hFr, H205.lt⟩, ⟨fg150, H163.lt⟩, ⟨by show 0 ≤ (base151 : Int) ∧ (base151 : Int) ≤ 1152921504606846976; omega, by show ((l155.map EntP.key)).length ≤ 4096; rw [List.length_map]; omega, hb166, by show (base151 : Int) ≤ cm157 ∧ (cm157 : Int) ≤ 2305843009213693952; omega⟩⟩, ⟨ob200, cap201, rest202, rfl, nob200, H206⟩, rfl, rfl, by show s.commit ≤ cm157; omega, by show (4 : Int) ≠ 2; decide⟩
       ·refine ⟨_, _, rfl, rfl, ?_⟩
        have ot172 : ∀ i, T156 i → i ≠ r := fun i hi => (hT167 i hi).2.1
        have ot173 : ∀ i, T156 i → i ≠ cb := fun i hi => by rcases (hT167 i hi).2.2 with z | z; (exact hTcb i z); (have := Hcb.lt; omega)
        have dg150cb : g150 ≠ cb := by have := Hcb.lt; omega
        have ot174 : ∀ i, T156 i → i ≠ b1 := fun i hi => by rcases (hT167 i hi).2.2 with z | z; (exact ot7 i z); (have := H4.lt; omega)
        have dg150b1 : g150 ≠ b1 := by have := H4.lt; omega
        have ot175 : ∀ i, T156 i → i ≠ b10 := fun i hi => by rcases (hT167 i hi).2.2 with z | z; (exact ot16 i z); (have := H13.lt; omega)
        have dg150b10 : g150 ≠ b10 := by have := H13.lt; omega
        have ot176 : ∀ i, T156 i → i ≠ b42 := fun i hi => by rcases (hT167 i hi).2.2 with z | z; (exact ot48 i z); (have := H114.lt; omega)
        have dg150b42 : g150 ≠ b42 := by have := H114.lt; omega
        have ot177 : ∀ i, T156 i → i ≠ g150 := fun i hi => (hT167 i hi).1
        have of178 : ∀ i, (KF kv) i → i ≠ g150 := fun i hi => by have := hKg i hi; have := ImgK.lt hKv i hi; omega
        have ob179 : ∀ i, ((Value.slice CD cdata.length cdc)).ownBlock = some i → i ≠ g150 := fun i hi => by have := hDg i hi; have := (World.ownsRow.lt hOw i hi).2; omega
        have oo180 : ∀ i, ((Value.slice CD cdata.length cdc)).ownBlock = some i → T156 i → False := fun i hs hi => by rcases (hT167 i hi).2.2 with z | z; (exact hTD i hs z); (have := (World.ownsRow.lt hOw i hs).2; omega)
        have ob181 : ∀ i, ((Value.slice A99 (([] ++ m.data).length) c100)).ownBlock = some i → i ≠ g150 := fun i hi => by have := ob102 i hi; have := (World.ownsRow.lt hO95 i hi).2; omega
        have oo182 : ∀ i, ((Value.slice A99 (([] ++ m.data).length) c100)).ownBlock = some i → T156 i → False := fun i hs hi => by rcases (hT167 i hi).2.2 with z | z; (exact oo107 i hs z); (have := (World.ownsRow.lt hO95 i hs).2; omega)
        have or183 : ∀ i, T156 i → T i ∨ w.heap.size ≤ i := fun i hi => (hT167 i hi).2.2.elim (fun z => .inl z) (fun z => .inr (Nat.le_trans K0.size z))
        have fg150 : F g150 ∨ w.heap.size ≤ g150 := by rcases hg168 with z | z; (rw [z]; exact .inl hFg); (exact .inr (Nat.le_trans K0.size z))
        replace K0 := K0.trans K161 (U := (fun i => i = r ∨ i = g ∨ i = cb ∨ ((Value.slice CD cdata.length cdc)).ownBlock = some i)) (fun i h1 h2 => h2) (fun i h1 h2 => by have h2 : i = r ∨ i = g := h2; rcases h2 with h2 | h2; (exact .inl h2); (exact .inr (.inl h2)))
        replace Hcb := Hcb.keep K161 (by intro h; change cb = r ∨ cb = g at h; omega)
        replace H4 := H4.keep K161 (by intro h; change b1 = r ∨ b1 = g at h; omega)
        replace H13 := H13.keep K161 (by intro h; change b10 = r ∨ b10 = g at h; omega)
        replace H114 := H114.keep K161 (by intro h; change b42 = r ∨ b42 = g at h; omega)
        replace hE := Ents.keep hE K161 (fun i hi hs => by have hs : i = r ∨ i = g := hs; rcases hs with hs | hs; (have := hrT i hi; omega); (have := hT i hi; omega))
        replace hKv := ImgK.keep hKv K161 (fun i hi hs => by have hs : i = r ∨ i = g := hs; rcases hs with hs | hs; (have := hKr i hi; omega); (have := hKg i hi; omega))
        replace hOw := own_keep hOw K161 (fun i hi hs => by have hs : i = r ∨ i = g := hs; rcases hs with hs | hs; (have := hDr i hi; omega); (have := hDg i hi; omega))
        replace hO95 := own_keep hO95 K161 (fun i hi hs => by have hs : i = r ∨ i = g := hs; rcases hs with hs | hs; (have := ob101 i hi; omega); (have := ob102 i hi; omega))
        clear K161
        refine og 2 [(2, (ptr b1)), (3, (ptr b10)), (4, (Value.func (Fn.func 65) ⟨[]⟩ ⟨[(ptr b1), (ptr b10)]⟩)), (106, (Value.bool (!bb149)))] 11 ?_
        refine od ?_
        refine q_cond (o := .tmp 106) (b := (!bb149)) (by kernel_rfl) rfl (fun h213 => ?_) (fun h213 => ?_)
        ·rw [h213]
         have p214 : bb149 = false := (bnot_true h213)
         try rw [p214]
         refine qs ?_
         refine qg ?_
         refine og 1 [(2, (ptr b1)), (3, (ptr b10)), (107, (Value.func (Fn.func 65) ⟨[]⟩ ⟨[(ptr b1), (ptr b10)]⟩))] 1 ?_
         refine Ops.call (by kernel_rfl) (d := (some 108)) (by kernel_rfl) (has_calls _ r g150 s.term s.voted m.frm cm157 q.group q.me q.n 0 q.timeout (ptr b42) (Value.pointer none) came159 m E ec D dc 0 b1 b10 H162 H4 H13 (by omega) (by omega)) ?_
         rintro _ w219 ⟨ob215, cap216, rest217, rfl, K218, H220, H221, hn222⟩
         have nob215 : w.heap.size ≤ ob215 := by have := K0.size; omega
         have lob215r : r < ob215 := by have := H162.lt; omega
         have lob215cb : cb < ob215 := by have := Hcb.lt; omega
         have lob215b1 : b1 < ob215 := by have := H4.lt; omega
         have lob215b10 : b10 < ob215 := by have := H13.lt; omega
         have lob215b42 : b42 < ob215 := by have := H114.lt; omega
         have lob215g150 : g150 < ob215 := by have := H163.lt; omega
         have ot223 : ∀ i, T i → i ≠ ob215 := fun i hi => by have := Ents.lt hE i hi; omega
         have of224 : ∀ i, (KF kv) i → i ≠ ob215 := fun i hi => by have := ImgK.lt hKv i hi; omega
         have ob225 : ∀ i, ((Value.slice CD cdata.length cdc)).ownBlock = some i → i ≠ ob215 := fun i hi => by have := (World.ownsRow.lt hOw i hi).2; omega
         have ob226 : ∀ i, ((Value.slice A99 (([] ++ m.data).length) c100)).ownBlock = some i → i ≠ ob215 := fun i hi => by have := (World.ownsRow.lt hO95 i hi).2; omega
         have ot227 : ∀ i, T156 i → i ≠ ob215 := fun i hi => by have := Ents.lt hE164 i hi; omega
         refine ⟨_, _, rfl, rfl, ?_⟩
         replace K0 := K0.trans K218 (U := (fun i => i = r ∨ i = g ∨ i = cb ∨ ((Value.slice CD cdata.length cdc)).ownBlock = some i)) (fun i h1 h2 => h2) (fun i h1 h2 => by have h2 : i = r := h2; exact .inl h2)
         replace Hcb := Hcb.k1 K218 (by omega)
         replace H4 := H4.k1 K218 (by omega)
         replace H13 := H13.k1 K218 (by omega)
         replace H114 := H114.k1 K218 (by omega)
         replace H163 := H163.k1 K218 (by omega)
         replace hE := Ents.keep hE K218 hrT
         replace hKv := ImgK.keep hKv K218 hKr
         replace hOw := own_keep hOw K218 (fun i hi => by have := hDr i hi; omega)
         replace hO95 := own_keep hO95 K218 (fun i hi => by have := ob101 i hi; omega)
         replace hE164 := Ents.keep hE164 K218 ot172
         clear K218
         refine od ?_
         refine q_ret (by kernel_rfl) ?_
         refine ⟨(Value.tuple #[]), retv_none rfl, ?_⟩
         exact ⟨(⟨s.term, s.voted, m.frm, cm157, 0, base151, old152, (l155.map EntP.key)⟩ : FolS), (Value.slice (some ⟨ob215, 0, none⟩) 1 cap216), (⟨6, m.frm, s.term, m.index, 0, false⟩ : OutM), rfl, (K0.mono (fun i _ h => by rcases h with h | h | h | h; (rw [h]; exact hFr); (rw [h]; exact hFg); (rw [h]; exact (hC9 cb hCc).2.2); (exact (hC9 i (hCi i h).1).2.2))), ⟨g150, T156, none_, A153, c154, l155, (ptr b42), (Value.pointer none), came159, H220, H163, hE164, rfl, .inr ⟨b42, m.index, m.logTerm, A99, ([] ++ m.data).length, c100, rfl, H114⟩, ⟨fun _ h => h.elim, .inl rfl⟩, fun i hi => ⟨ot172 i hi, ot177 i hi, fun h => h, (or183 i hi).imp (fun z => (hT7 i z).2.2.2) id, Ents.lt hE164 i hi⟩, fun i hi => by have hi : ptr b42 = ptr i := hi; cases hi; exact ⟨by omega, by omega, fun h => h, .inr nb42, H114.lt⟩, fun i hi => hi.elim, by omega, ⟨.inl hFr, H220.lt⟩, ⟨fg150, H163.lt⟩, ⟨by show 0 ≤ (base151 : Int) ∧ (base151 : Int) ≤ 1152921504606846976; omega, by show ((l155.map EntP.key)).length ≤ 4096; rw [List.length_map]; omega, hb166, by show (base151 : Int) ≤ cm157 ∧ (cm157 : Int) ≤ 2305843009213693952; omega⟩⟩, ⟨ob215, cap216, rest217, rfl, nob215, H221⟩, rfl, rfl, by show s.commit ≤ cm157; omega, by show (6 : Int) ≠ 2; decide⟩
        ·rw [h213]
         have p228 : bb149 = true := (bnot_false h213)
         try rw [p228]
         refine q_skip (by kernel_rfl) ?_
         refine qg ?_
         refine Ops.go (v := (ptr r)) (by kernel_rfl) (Runs.load (t := 29) (a := ⟨b1, 0, none⟩) (by kernel_rfl) (H4.loads (by kernel_rfl))) (d := (some 109)) (by kernel_rfl) rfl ?_
         refine og 1 [(3, (ptr b10)), (109, (ptr r)), (110, (Value.pointer (some ⟨b10, 2, none⟩)))] 2 ?_
         refine Ops.go (v := (i64 m.frm)) (by kernel_rfl) (Runs.load (t := 3) (a := ⟨b10, 2, none⟩) (by kernel_rfl) (H13.loads (by kernel_rfl))) (d := (some 111)) (by kernel_rfl) rfl ?_
         refine og 1 [(109, (ptr r)), (111, (i64 m.frm)), (112, (Value.pointer (some ⟨b10, 5, none⟩)))] 4 ?_
         refine Ops.go (v := (i64 m.index)) (by kernel_rfl) (Runs.load (t := 2) (a := ⟨b10, 5, none⟩) (by kernel_rfl) (H13.loads (by kernel_rfl))) (d := (some 113)) (by kernel_rfl) rfl ?_
         refine og 1 [(109, (ptr r)), (111, (i64 m.frm)), (114, (agg [(i64 4), (i64 0), (i64 0), (i64 0), (i64 0), (i64 m.index), (i64 0), (i64 0), (Value.bool true), (Value.slice none 0 0), (Value.slice none 0 0)]))] 6 ?_
         refine Ops.call (by kernel_rfl) (d := (some 115)) (by kernel_rfl) (Fput_calls _ r g150 s.term s.voted m.frm cm157 q.group q.me q.n 0 q.timeout (ptr b42) (Value.pointer none) came159 m.frm 4 m.index 0 true H162) ?_
         rintro _ w233 ⟨ob229, cap230, rest231, rfl, K232, H234, H235, hn236⟩
         have nob229 : w.heap.size ≤ ob229 := by have := K0.size; omega
         have lob229r : r < ob229 := by have := H162.lt; omega
         have lob229cb : cb < ob229 := by have := Hcb.lt; omega
         have lob229b1 : b1 < ob229 := by have := H4.lt; omega
         have lob229b10 : b10 < ob229 := by have := H13.lt; omega
         have lob229b42 : b42 < ob229 := by have := H114.lt; omega
         have lob229g150 : g150 < ob229 := by have := H163.lt; omega
         have ot237 : ∀ i, T i → i ≠ ob229 := fun i hi => by have := Ents.lt hE i hi; omega
         have of238 : ∀ i, (KF kv) i → i ≠ ob229 := fun i hi => by have := ImgK.lt hKv i hi; omega
         have ob239 : ∀ i, ((Value.slice CD cdata.length cdc)).ownBlock = some i → i ≠ ob229 := fun i hi => by have := (World.ownsRow.lt hOw i hi).2; omega
         have ob240 : ∀ i, ((Value.slice A99 (([] ++ m.data).length) c100)).ownBlock = some i → i ≠ ob229 := fun i hi => by have := (World.ownsRow.lt hO95 i hi).2; omega
         have ot241 : ∀ i, T156 i → i ≠ ob229 := fun i hi => by have := Ents.lt hE164 i hi; omega
         refine ⟨_, _, rfl, rfl, ?_⟩
         replace K0 := K0.trans K232 (U := (fun i => i = r ∨ i = g ∨ i = cb ∨ ((Value.slice CD cdata.length cdc)).ownBlock = some i)) (fun i h1 h2 => h2) (fun i h1 h2 => by have h2 : i = r := h2; exact .inl h2)
         replace Hcb := Hcb.k1 K232 (by omega)
         replace H4 := H4.k1 K232 (by omega)
         replace H13 := H13.k1 K232 (by omega)
         replace H114 := H114.k1 K232 (by omega)
         replace H163 := H163.k1 K232 (by omega)
         replace hE := Ents.keep hE K232 hrT
         replace hKv := ImgK.keep hKv K232 hKr
         replace hOw := own_keep hOw K232 (fun i hi => by have := hDr i hi; omega)
         replace hO95 := own_keep hO95 K232 (fun i hi => by have := ob101 i hi; omega)
         replace hE164 := Ents.keep hE164 K232 ot172
         clear K232
         refine od ?_
         refine ⟨(Value.tuple #[]), retv_none rfl, ?_⟩
         exact ⟨(⟨s.term, s.voted, m.frm, cm157, 0, base151, old152, (l155.map EntP.key)⟩ : FolS), (Value.slice (some ⟨ob229, 0, none⟩) 1 cap230), (⟨4, m.frm, s.term, m.index, 0, true⟩ : OutM), rfl, (K0.mono (fun i _ h => by rcases h with h | h | h | h; (rw [h]; exact hFr); (rw [h]; exact hFg); (rw [h]; exact (hC9 cb hCc).2.2); (exact (hC9 i (hCi i h).1).2.2))), ⟨g150, T156, none_, A153, c154, l155, (ptr b42), (Value.pointer none), came159, H234, H163, hE164, rfl, .inr ⟨b42, m.index, m.logTerm, A99, ([] ++ m.data).length, c100, rfl, H114⟩, ⟨fun _ h => h.elim, .inl rfl⟩, fun i hi => ⟨ot172 i hi, ot177 i hi, fun h => h, (or183 i hi).imp (fun z => (hT7 i z).2.2.2) id, Ents.lt hE164 i hi⟩, fun i hi => by have hi : ptr b42 = ptr i := hi; cases hi; exact ⟨by omega, by omega, fun h => h, .inr nb42, H114.lt⟩, fun i hi => hi.elim, by omega, ⟨.inl hFr, H234.lt⟩, ⟨fg150, H163.lt⟩, ⟨by show 0 ≤ (base151 : Int) ∧ (base151 : Int) ≤ 1152921504606846976; omega, by show ((l155.map EntP.key)).length ≤ 4096; rw [List.length_map]; omega, hb166, by show (base151 : Int) ≤ cm157 ∧ (cm157 : Int) ≤ 2305843009213693952; omega⟩⟩, ⟨ob229, cap230, rest231, rfl, nob229, H235⟩, rfl, rfl, by show s.commit ≤ cm157; omega, by show (4 : Int) ≠ 2; decide⟩
  ·rw [h40]
   have p242 : ¬ (m.commit = 0) := of_beq_f h40
   refine q_skip (by kernel_rfl) ?_
   refine qs ?_
   refine qg ?_
   refine og 2 [(2, (ptr b1)), (3, (ptr b10)), (4, (Value.func (Fn.func 65) ⟨[]⟩ ⟨[(ptr b1), (ptr b10)]⟩))] 2 ?_
   refine od ?_
   refine qs ?_
   refine qg ?_
   refine Ops.go (v := (ptr r)) (by kernel_rfl) (Runs.load (t := 29) (a := ⟨b1, 0, none⟩) (by kernel_rfl) (H4.loads (by kernel_rfl))) (d := (some 42)) (by kernel_rfl) rfl ?_
   refine og 2 [(2, (ptr b1)), (3, (ptr b10)), (4, (Value.func (Fn.func 65) ⟨[]⟩ ⟨[(ptr b1), (ptr b10)]⟩)), (44, (Value.pointer (some ⟨r, 15, none⟩)))] 3 ?_
   refine Ops.go (v := (ptr cb)) (by kernel_rfl) (Runs.load (t := 82) (a := ⟨r, 15, none⟩) (by kernel_rfl) (H21.loads (by kernel_rfl))) (d := (some 45)) (by kernel_rfl) rfl ?_
   refine og 1 [(2, (ptr b1)), (3, (ptr b10)), (4, (Value.func (Fn.func 65) ⟨[]⟩ ⟨[(ptr b1), (ptr b10)]⟩)), (5, (ptr cb))] 5 ?_
   refine od ?_
   refine qs ?_
   refine qs ?_
   refine q_draw (fun wz => Keeps none_ w22 wz) 20 (by kernel_rfl) (by kernel_rfl) (by kernel_rfl) (fun w243 K244 _ _ => ⟨K244, ?_⟩)
   replace K0 := K0.tn K244
   replace H21 := H21.keep K244 (fun h => h)
   replace H0 := H0.keep K244 (fun h => h)
   replace Hcb := Hcb.keep K244 (fun h => h)
   replace H4 := H4.keep K244 (fun h => h)
   replace H13 := H13.keep K244 (fun h => h)
   replace hE := Ents.keep0 hE K244
   replace hKv := ImgK.keep hKv K244 (fun _ _ h => h)
   replace hOw := own_keep0 hOw K244
   refine Dr.strong (S' := (fun wz => Keeps none_ w243 wz)) (Keeps.refl w243) (fun wz hx => K244.trans hx (fun i _ h => h) (fun _ _ h => h)) ?_
   clear K244
   refine Dr.takes (fuel' := 14) (is' := _) [0, 1, 2, 3, 4, 5] [(2, (ptr b1)), (3, (ptr b10)), (4, (Value.func (Fn.func 65) ⟨[]⟩ ⟨[(ptr b1), (ptr b10)]⟩)), (5, (ptr cb)), (48, (Value.bool false)), (51, (ptr cb))] (by kernel_rfl) rfl (by kernel_rfl) ?_
   refine Dr.take (i := 6) (v := (i64 ca)) (by kernel_rfl) (by kernel_rfl) (fun wz hS => Runs.load (t := 2) (a := ⟨cb, 0, none⟩) (by kernel_rfl) ((Hcb.keep hS (fun h => h)).loads (by kernel_rfl))) (d := (some 52)) (by kernel_rfl) rfl ?_
   refine Dr.takes (fuel' := 12) (is' := _) [7] [(2, (ptr b1)), (3, (ptr b10)), (4, (Value.func (Fn.func 65) ⟨[]⟩ ⟨[(ptr b1), (ptr b10)]⟩)), (5, (ptr cb)), (48, (Value.bool false)), (52, (i64 ca)), (53, (Value.pointer (some ⟨b10, 5, none⟩)))] (by kernel_rfl) rfl (by kernel_rfl) ?_
   refine Dr.take (i := 8) (v := (i64 m.index)) (by kernel_rfl) (by kernel_rfl) (fun wz hS => Runs.load (t := 2) (a := ⟨b10, 5, none⟩) (by kernel_rfl) ((H13.keep hS (fun h => h)).loads (by kernel_rfl))) (d := (some 54)) (by kernel_rfl) rfl ?_
   refine Dr.takes (fuel' := 8) (is' := _) [9, 10, 11] [(2, (ptr b1)), (3, (ptr b10)), (4, (Value.func (Fn.func 65) ⟨[]⟩ ⟨[(ptr b1), (ptr b10)]⟩)), (5, (ptr cb)), (57, (Value.bool (ca != m.index)))] (by kernel_rfl) rfl (by kernel_rfl) ?_
   refine Dr.split (ca != m.index) (fun h245 => ?_) (fun h245 => ?_)
   ·rw [h245]
    have p246 : ¬ (ca = m.index) := of_bne_t h245
    refine Dr.takes (fuel' := 0) (is' := _) [12, 13, 14, 15, 16, 17, 18, 19] [(2, (ptr b1)), (3, (ptr b10)), (4, (Value.func (Fn.func 65) ⟨[]⟩ ⟨[(ptr b1), (ptr b10)]⟩)), (5, (ptr cb)), (65, (Value.bool true))] (by kernel_rfl) rfl (by kernel_rfl) ?_
    refine Dr.done (by kernel_rfl) ?_
    refine q_then (o := .tmp 65) (by kernel_rfl) rfl ?_
    refine qs ?_
    refine qg ?_
    refine og 1 [(2, (ptr b1)), (3, (ptr b10)), (4, (Value.func (Fn.func 65) ⟨[]⟩ ⟨[(ptr b1), (ptr b10)]⟩)), (5, (ptr cb)), (66, (Value.func (Fn.func 65) ⟨[]⟩ ⟨[(ptr b1), (ptr b10)]⟩))] 1 ?_
    refine Ops.call (by kernel_rfl) (d := (some 67)) (by kernel_rfl) (has_calls _ r g s.term s.voted m.frm s.commit q.group q.me q.n 0 q.timeout kv (ptr cb) came m E ec D dc 0 b1 b10 H21 H4 H13 (by omega) (by omega)) ?_
    rintro _ w251 ⟨ob247, cap248, rest249, rfl, K250, H252, H253, hn254⟩
    have nob247 : w.heap.size ≤ ob247 := by have := K0.size; omega
    have lob247r : r < ob247 := by have := H21.lt; omega
    have lob247g : g < ob247 := by have := H0.lt; omega
    have lob247cb : cb < ob247 := by have := Hcb.lt; omega
    have lob247b1 : b1 < ob247 := by have := H4.lt; omega
    have lob247b10 : b10 < ob247 := by have := H13.lt; omega
    have ot255 : ∀ i, T i → i ≠ ob247 := fun i hi => by have := Ents.lt hE i hi; omega
    have of256 : ∀ i, (KF kv) i → i ≠ ob247 := fun i hi => by have := ImgK.lt hKv i hi; omega
    have ob257 : ∀ i, ((Value.slice CD cdata.length cdc)).ownBlock = some i → i ≠ ob247 := fun i hi => by have := (World.ownsRow.lt hOw i hi).2; omega
    refine ⟨_, _, rfl, rfl, ?_⟩
    replace K0 := K0.trans K250 (U := (fun i => i = r ∨ i = g ∨ i = cb ∨ ((Value.slice CD cdata.length cdc)).ownBlock = some i)) (fun i h1 h2 => h2) (fun i h1 h2 => by have h2 : i = r := h2; exact .inl h2)
    replace H0 := H0.k1 K250 (by omega)
    replace Hcb := Hcb.k1 K250 (by omega)
    replace H4 := H4.k1 K250 (by omega)
    replace H13 := H13.k1 K250 (by omega)
    replace hE := Ents.keep hE K250 hrT
    replace hKv := ImgK.keep hKv K250 hKr
    replace hOw := own_keep hOw K250 (fun i hi => by have := hDr i hi; omega)
    clear K250
    refine od ?_
    refine q_ret (by kernel_rfl) ?_
    refine ⟨(Value.tuple #[]), retv_none rfl, ?_⟩
    exact ⟨(⟨s.term, s.voted, m.frm, s.commit, 0, s.base, s.old, (l.map EntP.key)⟩ : FolS), (Value.slice (some ⟨ob247, 0, none⟩) 1 cap248), (⟨6, m.frm, s.term, m.index, 0, false⟩ : OutM), rfl, (K0.mono (fun i _ h => by rcases h with h | h | h | h; (rw [h]; exact hFr); (rw [h]; exact hFg); (rw [h]; exact (hC9 cb hCc).2.2); (exact (hC9 i (hCi i h).1).2.2))), ⟨g, T, (fun i => i = cb ∨ ((Value.slice CD cdata.length cdc)).ownBlock = some i), A, c, l, kv, (ptr cb), came, H252, H0, hE, rfl, hKv, ⟨fun i hi => by rcases hi with hi | hi; (rw [hi]; exact Hcb.lt); (exact (World.ownsRow.lt hOw i hi).2), .inr ⟨cb, ca, ct, CD, cdc, cdata, rfl, Hcb, own_base hOw (Nat.zero_le _), (by (try simp only [List.length_append]); (try simp only [List.length_nil]); omega), .inl rfl, (fun i hi => ⟨.inr hi, hDc i hi⟩)⟩⟩, fun i hi => ⟨hrT i hi, hT i hi, fun h => by rcases h with h | h; (exact hTcb i hi h); (exact hTD i h hi), .inl (hT7 i hi).2.2.2, Ents.lt hE i hi⟩, fun i hi => ⟨hKr i hi, hKg i hi, fun h => by rcases h with h | h; (exact hKcb i hi h); (exact hKD i h hi), .inl (hK8 i hi).2.2.2, ImgK.lt hKv i hi⟩, fun i hi => by rcases hi with hi | hi; (rw [hi]; exact ⟨by omega, by omega, .inl (hC9 cb hCc).2.2, Hcb.lt⟩); (exact ⟨hDr i hi, hDg i hi, hDF i hi, (World.ownsRow.lt hOw i hi).2⟩), by omega, ⟨.inl hFr, H252.lt⟩, ⟨.inl hFg, H0.lt⟩, ⟨by show 0 ≤ (s.base : Int) ∧ (s.base : Int) ≤ 1152921504606846976; omega, by show ((l.map EntP.key)).length ≤ 4096; rw [List.length_map]; omega, hBig, by show (s.base : Int) ≤ s.commit ∧ (s.commit : Int) ≤ 2305843009213693952; omega⟩⟩, ⟨ob247, cap248, rest249, rfl, nob247, H253⟩, rfl, rfl, by show s.commit ≤ s.commit; omega, by show (6 : Int) ≠ 2; decide⟩
   ·rw [h245]
    have p258 : ca = m.index := of_bne_f h245
    refine Dr.takes (fuel' := 5) (is' := _) [12, 13, 14] [(2, (ptr b1)), (3, (ptr b10)), (4, (Value.func (Fn.func 65) ⟨[]⟩ ⟨[(ptr b1), (ptr b10)]⟩)), (5, (ptr cb)), (57, (Value.bool false)), (60, (Value.pointer (some ⟨cb, 1, none⟩)))] (by kernel_rfl) rfl (by kernel_rfl) ?_
    refine Dr.take (i := 15) (v := (i64 ct)) (by kernel_rfl) (by kernel_rfl) (fun wz hS => Runs.load (t := 2) (a := ⟨cb, 1, none⟩) (by kernel_rfl) ((Hcb.keep hS (fun h => h)).loads (by kernel_rfl))) (d := (some 61)) (by kernel_rfl) rfl ?_
    refine Dr.takes (fuel' := 3) (is' := _) [16] [(2, (ptr b1)), (3, (ptr b10)), (4, (Value.func (Fn.func 65) ⟨[]⟩ ⟨[(ptr b1), (ptr b10)]⟩)), (5, (ptr cb)), (57, (Value.bool false)), (61, (i64 ct)), (62, (Value.pointer (some ⟨b10, 6, none⟩)))] (by kernel_rfl) rfl (by kernel_rfl) ?_
    refine Dr.take (i := 17) (v := (i64 m.logTerm)) (by kernel_rfl) (by kernel_rfl) (fun wz hS => Runs.load (t := 2) (a := ⟨b10, 6, none⟩) (by kernel_rfl) ((H13.keep hS (fun h => h)).loads (by kernel_rfl))) (d := (some 63)) (by kernel_rfl) rfl ?_
    refine Dr.takes (fuel' := 0) (is' := _) [18, 19] [(2, (ptr b1)), (3, (ptr b10)), (4, (Value.func (Fn.func 65) ⟨[]⟩ ⟨[(ptr b1), (ptr b10)]⟩)), (5, (ptr cb)), (65, (Value.bool (ct != m.logTerm)))] (by kernel_rfl) rfl (by kernel_rfl) ?_
    refine Dr.done (by kernel_rfl) ?_
    refine q_cond (o := .tmp 65) (b := (ct != m.logTerm)) (by kernel_rfl) rfl (fun h259 => ?_) (fun h259 => ?_)
    ·rw [h259]
     have p260 : ¬ (ct = m.logTerm) := of_bne_t h259
     refine qs ?_
     refine qg ?_
     refine og 1 [(2, (ptr b1)), (3, (ptr b10)), (4, (Value.func (Fn.func 65) ⟨[]⟩ ⟨[(ptr b1), (ptr b10)]⟩)), (5, (ptr cb)), (66, (Value.func (Fn.func 65) ⟨[]⟩ ⟨[(ptr b1), (ptr b10)]⟩))] 1 ?_
     refine Ops.call (by kernel_rfl) (d := (some 67)) (by kernel_rfl) (has_calls _ r g s.term s.voted m.frm s.commit q.group q.me q.n 0 q.timeout kv (ptr cb) came m E ec D dc 0 b1 b10 H21 H4 H13 (by omega) (by omega)) ?_
     rintro _ w265 ⟨ob261, cap262, rest263, rfl, K264, H266, H267, hn268⟩
     have nob261 : w.heap.size ≤ ob261 := by have := K0.size; omega
     have lob261r : r < ob261 := by have := H21.lt; omega
     have lob261g : g < ob261 := by have := H0.lt; omega
     have lob261cb : cb < ob261 := by have := Hcb.lt; omega
     have lob261b1 : b1 < ob261 := by have := H4.lt; omega
     have lob261b10 : b10 < ob261 := by have := H13.lt; omega
     have ot269 : ∀ i, T i → i ≠ ob261 := fun i hi => by have := Ents.lt hE i hi; omega
     have of270 : ∀ i, (KF kv) i → i ≠ ob261 := fun i hi => by have := ImgK.lt hKv i hi; omega
     have ob271 : ∀ i, ((Value.slice CD cdata.length cdc)).ownBlock = some i → i ≠ ob261 := fun i hi => by have := (World.ownsRow.lt hOw i hi).2; omega
     refine ⟨_, _, rfl, rfl, ?_⟩
     replace K0 := K0.trans K264 (U := (fun i => i = r ∨ i = g ∨ i = cb ∨ ((Value.slice CD cdata.length cdc)).ownBlock = some i)) (fun i h1 h2 => h2) (fun i h1 h2 => by have h2 : i = r := h2; exact .inl h2)
     replace H0 := H0.k1 K264 (by omega)
     replace Hcb := Hcb.k1 K264 (by omega)
     replace H4 := H4.k1 K264 (by omega)
     replace H13 := H13.k1 K264 (by omega)
     replace hE := Ents.keep hE K264 hrT
     replace hKv := ImgK.keep hKv K264 hKr
     replace hOw := own_keep hOw K264 (fun i hi => by have := hDr i hi; omega)
     clear K264
     refine od ?_
     refine q_ret (by kernel_rfl) ?_
     refine ⟨(Value.tuple #[]), retv_none rfl, ?_⟩
     exact ⟨(⟨s.term, s.voted, m.frm, s.commit, 0, s.base, s.old, (l.map EntP.key)⟩ : FolS), (Value.slice (some ⟨ob261, 0, none⟩) 1 cap262), (⟨6, m.frm, s.term, m.index, 0, false⟩ : OutM), rfl, (K0.mono (fun i _ h => by rcases h with h | h | h | h; (rw [h]; exact hFr); (rw [h]; exact hFg); (rw [h]; exact (hC9 cb hCc).2.2); (exact (hC9 i (hCi i h).1).2.2))), ⟨g, T, (fun i => i = cb ∨ ((Value.slice CD cdata.length cdc)).ownBlock = some i), A, c, l, kv, (ptr cb), came, H266, H0, hE, rfl, hKv, ⟨fun i hi => by rcases hi with hi | hi; (rw [hi]; exact Hcb.lt); (exact (World.ownsRow.lt hOw i hi).2), .inr ⟨cb, ca, ct, CD, cdc, cdata, rfl, Hcb, own_base hOw (Nat.zero_le _), (by (try simp only [List.length_append]); (try simp only [List.length_nil]); omega), .inl rfl, (fun i hi => ⟨.inr hi, hDc i hi⟩)⟩⟩, fun i hi => ⟨hrT i hi, hT i hi, fun h => by rcases h with h | h; (exact hTcb i hi h); (exact hTD i h hi), .inl (hT7 i hi).2.2.2, Ents.lt hE i hi⟩, fun i hi => ⟨hKr i hi, hKg i hi, fun h => by rcases h with h | h; (exact hKcb i hi h); (exact hKD i h hi), .inl (hK8 i hi).2.2.2, ImgK.lt hKv i hi⟩, fun i hi => by rcases hi with hi | hi; (rw [hi]; exact ⟨by omega, by omega, .inl (hC9 cb hCc).2.2, Hcb.lt⟩); (exact ⟨hDr i hi, hDg i hi, hDF i hi, (World.ownsRow.lt hOw i hi).2⟩), by omega, ⟨.inl hFr, H266.lt⟩, ⟨.inl hFg, H0.lt⟩, ⟨by show 0 ≤ (s.base : Int) ∧ (s.base : Int) ≤ 1152921504606846976; omega, by show ((l.map EntP.key)).length ≤ 4096; rw [List.length_map]; omega, hBig, by show (s.base : Int) ≤ s.commit ∧ (s.commit : Int) ≤ 2305843009213693952; omega⟩⟩, ⟨ob261, cap262, rest263, rfl, nob261, H267⟩, rfl, rfl, by show s.commit ≤ s.commit; omega, by show (6 : Int) ≠ 2; decide⟩
    ·rw [h259]
     have p272 : ct = m.logTerm := of_bne_f h259
     refine q_skip (by kernel_rfl) ?_
     refine qs ?_
     refine qg ?_
     refine og 3 [(2, (ptr b1)), (3, (ptr b10)), (4, (Value.func (Fn.func 65) ⟨[]⟩ ⟨[(ptr b1), (ptr b10)]⟩)), (5, (ptr cb)), (70, (Value.pointer (some ⟨cb, 2, none⟩)))] 3 ?_
     refine Ops.go (v := (Value.slice CD cdata.length cdc)) (by kernel_rfl) (Runs.load (t := 37) (a := ⟨cb, 2, none⟩) (by kernel_rfl) (Hcb.loads (by kernel_rfl))) (d := (some 71)) (by kernel_rfl) rfl ?_
     refine og 2 [(2, (ptr b1)), (3, (ptr b10)), (4, (Value.func (Fn.func 65) ⟨[]⟩ ⟨[(ptr b1), (ptr b10)]⟩)), (5, (ptr cb)), (6, (i64 ((cdata.length : Nat) : Int)))] 6 ?_
     refine od ?_
     refine q_block (id := 0) (by kernel_rfl) ?_
     refine qs ?_
     refine qg ?_
     refine og 2 [(2, (ptr b1)), (3, (ptr b10)), (4, (Value.func (Fn.func 65) ⟨[]⟩ ⟨[(ptr b1), (ptr b10)]⟩)), (5, (ptr cb)), (6, (i64 ((cdata.length : Nat) : Int))), (117, (i64 ((cdata.length : Nat) : Int))), (118, (Value.pointer (some ⟨b10, 7, none⟩)))] 2 ?_
     refine Ops.go (v := (i64 m.commit)) (by kernel_rfl) (Runs.load (t := 2) (a := ⟨b10, 7, none⟩) (by kernel_rfl) (H13.loads (by kernel_rfl))) (d := (some 119)) (by kernel_rfl) rfl ?_
     refine og 2 [(2, (ptr b1)), (3, (ptr b10)), (4, (Value.func (Fn.func 65) ⟨[]⟩ ⟨[(ptr b1), (ptr b10)]⟩)), (5, (ptr cb)), (6, (i64 ((cdata.length : Nat) : Int))), (116, (Value.bool (((cdata.length : Nat) : Int) != m.commit)))] 5 ?_
     refine od ?_
     refine q_cond (o := .tmp 116) (b := (((cdata.length : Nat) : Int) != m.commit)) (by kernel_rfl) rfl (fun h273 => ?_) (fun h273 => ?_)
     ·rw [h273]
      have p274 : ¬ (((cdata.length : Nat) : Int) = m.commit) := of_bne_t h273
      refine qg ?_
      refine og 2 [(2, (ptr b1)), (3, (ptr b10)), (4, (Value.func (Fn.func 65) ⟨[]⟩ ⟨[(ptr b1), (ptr b10)]⟩)), (5, (ptr cb)), (6, (i64 ((cdata.length : Nat) : Int))), (121, (Value.func (Fn.func 65) ⟨[]⟩ ⟨[(ptr b1), (ptr b10)]⟩)), (122, (i64 ((cdata.length : Nat) : Int)))] 2 ?_
      refine Ops.call (by kernel_rfl) (d := (some 123)) (by kernel_rfl) (has_calls _ r g s.term s.voted m.frm s.commit q.group q.me q.n 0 q.timeout kv (ptr cb) came m E ec D dc ((cdata.length : Nat) : Int) b1 b10 H21 H4 H13 (by omega) (by omega)) ?_
      rintro _ w279 ⟨ob275, cap276, rest277, rfl, K278, H280, H281, hn282⟩
      have nob275 : w.heap.size ≤ ob275 := by have := K0.size; omega
      have lob275r : r < ob275 := by have := H21.lt; omega
      have lob275g : g < ob275 := by have := H0.lt; omega
      have lob275cb : cb < ob275 := by have := Hcb.lt; omega
      have lob275b1 : b1 < ob275 := by have := H4.lt; omega
      have lob275b10 : b10 < ob275 := by have := H13.lt; omega
      have ot283 : ∀ i, T i → i ≠ ob275 := fun i hi => by have := Ents.lt hE i hi; omega
      have of284 : ∀ i, (KF kv) i → i ≠ ob275 := fun i hi => by have := ImgK.lt hKv i hi; omega
      have ob285 : ∀ i, ((Value.slice CD cdata.length cdc)).ownBlock = some i → i ≠ ob275 := fun i hi => by have := (World.ownsRow.lt hOw i hi).2; omega
      refine ⟨_, _, rfl, rfl, ?_⟩
      replace K0 := K0.trans K278 (U := (fun i => i = r ∨ i = g ∨ i = cb ∨ ((Value.slice CD cdata.length cdc)).ownBlock = some i)) (fun i h1 h2 => h2) (fun i h1 h2 => by have h2 : i = r := h2; exact .inl h2)
      replace H0 := H0.k1 K278 (by omega)
      replace Hcb := Hcb.k1 K278 (by omega)
      replace H4 := H4.k1 K278 (by omega)
      replace H13 := H13.k1 K278 (by omega)
      replace hE := Ents.keep hE K278 hrT
      replace hKv := ImgK.keep hKv K278 hKr
      replace hOw := own_keep hOw K278 (fun i hi => by have := hDr i hi; omega)
      clear K278
      refine od ?_
      refine ⟨(Value.tuple #[]), retv_none rfl, ?_⟩
      exact ⟨(⟨s.term, s.voted, m.frm, s.commit, 0, s.base, s.old, (l.map EntP.key)⟩ : FolS), (Value.slice (some ⟨ob275, 0, none⟩) 1 cap276), (⟨6, m.frm, s.term, m.index, ((cdata.length : Nat) : Int), false⟩ : OutM), rfl, (K0.mono (fun i _ h => by rcases h with h | h | h | h; (rw [h]; exact hFr); (rw [h]; exact hFg); (rw [h]; exact (hC9 cb hCc).2.2); (exact (hC9 i (hCi i h).1).2.2))), ⟨g, T, (fun i => i = cb ∨ ((Value.slice CD cdata.length cdc)).ownBlock = some i), A, c, l, kv, (ptr cb), came, H280, H0, hE, rfl, hKv, ⟨fun i hi => by rcases hi with hi | hi; (rw [hi]; exact Hcb.lt); (exact (World.ownsRow.lt hOw i hi).2), .inr ⟨cb, ca, ct, CD, cdc, cdata, rfl, Hcb, own_base hOw (Nat.zero_le _), (by (try simp only [List.length_append]); (try simp only [List.length_nil]); omega), .inl rfl, (fun i hi => ⟨.inr hi, hDc i hi⟩)⟩⟩, fun i hi => ⟨hrT i hi, hT i hi, fun h => by rcases h with h | h; (exact hTcb i hi h); (exact hTD i h hi), .inl (hT7 i hi).2.2.2, Ents.lt hE i hi⟩, fun i hi => ⟨hKr i hi, hKg i hi, fun h => by rcases h with h | h; (exact hKcb i hi h); (exact hKD i h hi), .inl (hK8 i hi).2.2.2, ImgK.lt hKv i hi⟩, fun i hi => by rcases hi with hi | hi; (rw [hi]; exact ⟨by omega, by omega, .inl (hC9 cb hCc).2.2, Hcb.lt⟩); (exact ⟨hDr i hi, hDg i hi, hDF i hi, (World.ownsRow.lt hOw i hi).2⟩), by omega, ⟨.inl hFr, H280.lt⟩, ⟨.inl hFg, H0.lt⟩, ⟨by show 0 ≤ (s.base : Int) ∧ (s.base : Int) ≤ 1152921504606846976; omega, by show ((l.map EntP.key)).length ≤ 4096; rw [List.length_map]; omega, hBig, by show (s.base : Int) ≤ s.commit ∧ (s.commit : Int) ≤ 2305843009213693952; omega⟩⟩, ⟨ob275, cap276, rest277, rfl, nob275, H281⟩, rfl, rfl, by show s.commit ≤ s.commit; omega, by show (6 : Int) ≠ 2; decide⟩
     ·rw [h273]
      have p286 : ((cdata.length : Nat) : Int) = m.commit := of_bne_f h273
      refine qs ?_
      refine qg ?_
      refine og 2 [(2, (ptr b1)), (3, (ptr b10)), (4, (Value.func (Fn.func 65) ⟨[]⟩ ⟨[(ptr b1), (ptr b10)]⟩)), (5, (ptr cb)), (125, (i64 ((cdata.length : Nat) : Int))), (126, (Value.pointer (some ⟨b10, 10, none⟩)))] 2 ?_
      refine Ops.go (v := (Value.slice D m.data.length dc)) (by kernel_rfl) (Runs.load (t := 37) (a := ⟨b10, 10, none⟩) (by kernel_rfl) (H13.loads (by kernel_rfl))) (d := (some 127)) (by kernel_rfl) rfl ?_
      refine og 2 [(2, (ptr b1)), (3, (ptr b10)), (4, (Value.func (Fn.func 65) ⟨[]⟩ ⟨[(ptr b1), (ptr b10)]⟩)), (5, (ptr cb)), (129, (i64 (IntKind.i64.wrap (((cdata.length : Nat) : Int) + ((m.data.length : Nat) : Int)))))] 5 ?_
      have e287 : IntKind.i64.wrap (((cdata.length : Nat) : Int) + ((m.data.length : Nat) : Int)) = ((cdata.length + m.data.length : Nat) : Int) := by rw [wrap_i64 (by omega) (by omega)]; omega
      rw [e287]
      clear e287
      refine og 2 [(2, (ptr b1)), (3, (ptr b10)), (4, (Value.func (Fn.func 65) ⟨[]⟩ ⟨[(ptr b1), (ptr b10)]⟩)), (5, (ptr cb)), (124, (Value.bool (decide (((cdata.length + m.data.length : Nat) : Int) > 65536))))] 7 ?_
      refine od ?_
      refine q_cond (o := .tmp 124) (b := (decide (((cdata.length + m.data.length : Nat) : Int) > 65536))) (by kernel_rfl) rfl (fun h288 => ?_) (fun h288 => ?_)
      ·rw [h288]
       have p289 : ((cdata.length + m.data.length : Nat) : Int) > 65536 := of_decide_eq_true h288
       refine qs ?_
       refine qg ?_
       refine Ops.go (v := (ptr r)) (by kernel_rfl) (Runs.load (t := 29) (a := ⟨b1, 0, none⟩) (by kernel_rfl) (H4.loads (by kernel_rfl))) (d := (some 131)) (by kernel_rfl) rfl ?_
       refine og 2 [(2, (ptr b1)), (3, (ptr b10)), (4, (Value.func (Fn.func 65) ⟨[]⟩ ⟨[(ptr b1), (ptr b10)]⟩)), (5, (ptr cb)), (133, (Value.pointer (some ⟨r, 15, none⟩)))] 3 ?_
       refine Ops.put (t := 82) (b := r) (off := 15) (v := (Value.pointer none)) (ys := [(i64 s.term), (i64 s.voted), (i64 0), (i64 m.frm), (i64 s.commit), (i64 q.group), (i64 q.me), (i64 q.n), (ptr g), (i64 0), (i64 q.timeout), (Value.slice none 0 0), (Value.map none), (Value.slice none 0 0), kv, (Value.pointer none), (Value.bool came), (Value.slice none 0 0)]) (by kernel_rfl) (by kernel_rfl) H21 (by kernel_rfl) (d := none) (by kernel_rfl) rfl (fun w290 H291 K292 => ?_)
       clear H21
       replace K0 := K0.trans K292 (U := (fun i => i = r ∨ i = g ∨ i = cb ∨ ((Value.slice CD cdata.length cdc)).ownBlock = some i)) (fun i h1 h2 => h2) (fun i h1 h2 => by have h2 : i = r := h2; exact .inl h2)
       replace H0 := H0.k1 K292 (by omega)
       replace Hcb := Hcb.k1 K292 (by omega)
       replace H4 := H4.k1 K292 (by omega)
       replace H13 := H13.k1 K292 (by omega)
       replace hE := Ents.keep hE K292 hrT
       replace hKv := ImgK.keep hKv K292 hKr
       replace hOw := own_keep hOw K292 (fun i hi => by have := hDr i hi; omega)
       clear K292
       refine od ?_
       refine qg ?_
       refine og 1 [(2, (ptr b1)), (3, (ptr b10)), (4, (Value.func (Fn.func 65) ⟨[]⟩ ⟨[(ptr b1), (ptr b10)]⟩)), (5, (ptr cb)), (134, (Value.func (Fn.func 65) ⟨[]⟩ ⟨[(ptr b1), (ptr b10)]⟩))] 1 ?_
       refine Ops.call (by kernel_rfl) (d := (some 135)) (by kernel_rfl) (has_calls _ r g s.term s.voted m.frm s.commit q.group q.me q.n 0 q.timeout kv (Value.pointer none) came m E ec D dc 0 b1 b10 H291 H4 H13 (by omega) (by omega)) ?_
       rintro _ w297 ⟨ob293, cap294, rest295, rfl, K296, H298, H299, hn300⟩
       have nob293 : w.heap.size ≤ ob293 := by have := K0.size; omega
       have lob293r : r < ob293 := by have := H291.lt; omega
       have lob293g : g < ob293 := by have := H0.lt; omega
       have lob293cb : cb < ob293 := by have := Hcb.lt; omega
       have lob293b1 : b1 < ob293 := by have := H4.lt; omega
       have lob293b10 : b10 < ob293 := by have := H13.lt; omega
       have ot301 : ∀ i, T i → i ≠ ob293 := fun i hi => by have := Ents.lt hE i hi; omega
       have of302 : ∀ i, (KF kv) i → i ≠ ob293 := fun i hi => by have := ImgK.lt hKv i hi; omega
       have ob303 : ∀ i, ((Value.slice CD cdata.length cdc)).ownBlock = some i → i ≠ ob293 := fun i hi => by have := (World.ownsRow.lt hOw i hi).2; omega
       refine ⟨_, _, rfl, rfl, ?_⟩
       replace K0 := K0.trans K296 (U := (fun i => i = r ∨ i = g ∨ i = cb ∨ ((Value.slice CD cdata.length cdc)).ownBlock = some i)) (fun i h1 h2 => h2) (fun i h1 h2 => by have h2 : i = r := h2; exact .inl h2)
       replace H0 := H0.k1 K296 (by omega)
       replace Hcb := Hcb.k1 K296 (by omega)
       replace H4 := H4.k1 K296 (by omega)
       replace H13 := H13.k1 K296 (by omega)
       replace hE := Ents.keep hE K296 hrT
       replace hKv := ImgK.keep hKv K296 hKr
       replace hOw := own_keep hOw K296 (fun i hi => by have := hDr i hi; omega)
       clear K296
       refine od ?_
       refine ⟨(Value.tuple #[]), retv_none rfl, ?_⟩
       exact ⟨(⟨s.term, s.voted, m.frm, s.commit, 0, s.base, s.old, (l.map EntP.key)⟩ : FolS), (Value.slice (some ⟨ob293, 0, none⟩) 1 cap294), (⟨6, m.frm, s.term, m.index, 0, false⟩ : OutM), rfl, (K0.mono (fun i _ h => by rcases h with h | h | h | h; (rw [h]; exact hFr); (rw [h]; exact hFg); (rw [h]; exact (hC9 cb hCc).2.2); (exact (hC9 i (hCi i h).1).2.2))), ⟨g, T, none_, A, c, l, kv, (Value.pointer none), came, H298, H0, hE, rfl, hKv, ⟨fun _ h => h.elim, .inl rfl⟩, fun i hi => ⟨hrT i hi, hT i hi, fun h => h, .inl (hT7 i hi).2.2.2, Ents.lt hE i hi⟩, fun i hi => ⟨hKr i hi, hKg i hi, fun h => h, .inl (hK8 i hi).2.2.2, ImgK.lt hKv i hi⟩, fun i hi => hi.elim, by omega, ⟨.inl hFr, H298.lt⟩, ⟨.inl hFg, H0.lt⟩, ⟨by show 0 ≤ (s.base : Int) ∧ (s.base : Int) ≤ 1152921504606846976; omega, by show ((l.map EntP.key)).length ≤ 4096; rw [List.length_map]; omega, hBig, by show (s.base : Int) ≤ s.commit ∧ (s.commit : Int) ≤ 2305843009213693952; omega⟩⟩, ⟨ob293, cap294, rest295, rfl, nob293, H299⟩, rfl, rfl, by show s.commit ≤ s.commit; omega, by show (6 : Int) ≠ 2; decide⟩
      ·rw [h288]
       have p304 : ¬ (((cdata.length + m.data.length : Nat) : Int) > 65536) := of_decide_eq_false h288
       refine qs ?_
       refine q_draw (fun wz => Keeps (fun i => ((Value.slice CD cdata.length cdc)).ownBlock = some i ∨ i = cb) w243 wz) 11 (by kernel_rfl) (by kernel_rfl) (by kernel_rfl) (fun w305 K306 _ _ => ⟨(K306.mono (fun _ _ h => h.elim)), ?_⟩)
       replace K0 := K0.tn K306
       replace H21 := H21.keep K306 (fun h => h)
       replace H0 := H0.keep K306 (fun h => h)
       replace Hcb := Hcb.keep K306 (fun h => h)
       replace H4 := H4.keep K306 (fun h => h)
       replace H13 := H13.keep K306 (fun h => h)
       replace hE := Ents.keep0 hE K306
       replace hKv := ImgK.keep hKv K306 (fun _ _ h => h)
       replace hOw := own_keep0 hOw K306
       refine Dr.strong (S' := (fun wz => Keeps (fun i => ((Value.slice CD cdata.length cdc)).ownBlock = some i ∨ i = cb) w305 wz)) ((Keeps.refl w305).mono (fun _ _ h => h.elim)) (fun wz hx => K306.trans hx (fun i _ h => h.elim) (fun _ _ h => h)) ?_
       clear K306
       refine Dr.takes (fuel' := 6) (is' := _) [0, 1, 2, 3, 5] [(2, (ptr b1)), (3, (ptr b10)), (4, (Value.func (Fn.func 65) ⟨[]⟩ ⟨[(ptr b1), (ptr b10)]⟩)), (5, (ptr cb)), (73, (ptr cb)), (76, (Value.pointer (some ⟨cb, 2, none⟩))), (78, (Value.pointer (some ⟨b10, 10, none⟩)))] (by kernel_rfl) rfl (by kernel_rfl) ?_
       refine Dr.take (i := 6) (v := (Value.slice D m.data.length dc)) (by kernel_rfl) (by kernel_rfl) (fun wz hS => Runs.load (t := 37) (a := ⟨b10, 10, none⟩) (by kernel_rfl) ((H13.keep hS (by intro h; change ((Value.slice CD cdata.length cdc)).ownBlock = some b10 ∨ b10 = cb at h; rcases h with h | h; (have := ob18 b10 h; omega); (omega))).loads (by kernel_rfl))) (d := (some 79)) (by kernel_rfl) rfl ?_
       refine Dr.go (i := 4) (v := (Value.slice CD cdata.length cdc)) (by kernel_rfl) (by kernel_rfl) (Runs.load (t := 37) (a := ⟨cb, 2, none⟩) (by kernel_rfl) (Hcb.loads (by kernel_rfl))) (d := (some 77)) (by kernel_rfl) rfl ((Keeps.refl _).mono (fun _ _ h => h.elim)) ?_
       obtain ⟨v307, w308, hr309, hO310, K311, hg312⟩ := OwnB.app2 (ty := 37) tyB hOw (RdB.keepg hD K0 (fun hb i hi h => (hDU hb i hi).1 (by rcases h with h | h | h | h; (rw [h]; exact hFr); (rw [h]; exact hFg); (rw [h]; exact (hC9 cb hCc).2.2); (exact (hC9 i (hCi i h).1).2.2)))) (by (try simp only [List.length_nil]); omega) (Nat.zero_le _)
       obtain ⟨A314, c315, hf313⟩ := RdB.form (OwnB.rd hO310)
       subst hf313
       have ob316 : ∀ i, ((Value.slice A314 ((cdata ++ m.data).length) c315)).ownBlock = some i → i ≠ r := fun i hi => by rcases hg312 i hi with h | h; (have := hDr i h; omega); (have := H21.lt; omega)
       have ob317 : ∀ i, ((Value.slice A314 ((cdata ++ m.data).length) c315)).ownBlock = some i → i ≠ g := fun i hi => by rcases hg312 i hi with h | h; (have := hDg i h; omega); (have := H0.lt; omega)
       have ob318 : ∀ i, ((Value.slice A314 ((cdata ++ m.data).length) c315)).ownBlock = some i → i ≠ cb := fun i hi => by rcases hg312 i hi with h | h; (have := hDc i h; omega); (have := Hcb.lt; omega)
       have ob319 : ∀ i, ((Value.slice A314 ((cdata ++ m.data).length) c315)).ownBlock = some i → i ≠ b1 := fun i hi => by rcases hg312 i hi with h | h; (have := ob9 i h; omega); (have := H4.lt; omega)
       have ob320 : ∀ i, ((Value.slice A314 ((cdata ++ m.data).length) c315)).ownBlock = some i → i ≠ b10 := fun i hi => by rcases hg312 i hi with h | h; (have := ob18 i h; omega); (have := H13.lt; omega)
       have oo321 : ∀ i, ((Value.slice A314 ((cdata ++ m.data).length) c315)).ownBlock = some i → T i → False := fun i hs hi => by rcases hg312 i hs with h | h; (exact hTD i h hi); (have := Ents.lt hE i hi; omega)
       have oo322 : ∀ i, ((Value.slice A314 ((cdata ++ m.data).length) c315)).ownBlock = some i → (KF kv) i → False := fun i hs hi => by rcases hg312 i hs with h | h; (exact hKD i h hi); (have := ImgK.lt hKv i hi; omega)
       have hOF323 : ∀ i, ((Value.slice A314 ((cdata ++ m.data).length) c315)).ownBlock = some i → F i ∨ w.heap.size ≤ i := fun i hi => by rcases hg312 i hi with z | z; (exact hDF i z); (exact .inr (Nat.le_trans K0.size z))
       have hln324 : (cdata ++ m.data).length = cdata.length + m.data.length := by rw [List.length_append]
       replace K0 := K0.trans K311 (U := (fun i => i = r ∨ i = g ∨ i = cb ∨ ((Value.slice CD cdata.length cdc)).ownBlock = some i)) (fun i h1 h2 => h2) (fun i h1 h2 => by have h2 : ((Value.slice CD cdata.length cdc)).ownBlock = some i := h2; exact .inr (.inr (.inr (h2))))
       replace H21 := H21.keep K311 (by intro h; change ((Value.slice CD cdata.length cdc)).ownBlock = some r at h; have := hDr r h; omega)
       replace H0 := H0.keep K311 (by intro h; change ((Value.slice CD cdata.length cdc)).ownBlock = some g at h; have := hDg g h; omega)
       replace Hcb := Hcb.keep K311 (by intro h; change ((Value.slice CD cdata.length cdc)).ownBlock = some cb at h; have := hDc cb h; omega)
       replace H4 := H4.keep K311 (by intro h; change ((Value.slice CD cdata.length cdc)).ownBlock = some b1 at h; have := ob9 b1 h; omega)
       replace H13 := H13.keep K311 (by intro h; change ((Value.slice CD cdata.length cdc)).ownBlock = some b10 at h; have := ob18 b10 h; omega)
       replace hE := Ents.keep hE K311 (fun i hi hs => by have hs : ((Value.slice CD cdata.length cdc)).ownBlock = some i := hs; exact hTD i hs hi)
       replace hKv := ImgK.keep hKv K311 (fun i hi hs => by have hs : ((Value.slice CD cdata.length cdc)).ownBlock = some i := hs; exact hKD i hs hi)
       clear hOw
       refine Dr.go (i := 7) (v := (Value.slice A314 ((cdata ++ m.data).length) c315)) (by kernel_rfl) (by kernel_rfl) (Runs.append (ts := #[37, 37]) (ty := 37) (vs := [(Value.slice CD cdata.length cdc), (Value.slice D m.data.length dc)]) (by kernel_rfl) hr309) (d := (some 80)) (by kernel_rfl) rfl (K311.mono (fun i _ h => by have h : ((Value.slice CD cdata.length cdc)).ownBlock = some i := h; show ((Value.slice CD cdata.length cdc)).ownBlock = some i ∨ i = cb; exact (.inl h))) ?_
       refine Dr.strong (S' := (fun wz => Keeps (fun i => ((Value.slice CD cdata.length cdc)).ownBlock = some i ∨ i = cb) w308 wz)) ((Keeps.refl w308).mono (fun _ _ h => h.elim)) (fun wz hx => K311.trans hx (fun i _ h => by have h : ((Value.slice CD cdata.length cdc)).ownBlock = some i := h; show ((Value.slice CD cdata.length cdc)).ownBlock = some i ∨ i = cb; exact (.inl h)) (fun _ _ h => h)) ?_
       clear K311 hr309 hg312
       refine Dr.takes (fuel' := 1) (is' := _) [8, 9] [(2, (ptr b1)), (3, (ptr b10)), (4, (Value.func (Fn.func 65) ⟨[]⟩ ⟨[(ptr b1), (ptr b10)]⟩)), (5, (ptr cb)), (80, (Value.slice A314 ((cdata ++ m.data).length) c315)), (82, (Value.pointer (some ⟨cb, 2, none⟩)))] (by kernel_rfl) rfl (by kernel_rfl) ?_
       refine Dr.put (i := 10) (t := 37) (b := cb) (off := 2) (v := (Value.slice A314 ((cdata ++ m.data).length) c315)) (ys := [(i64 ca), (i64 ct), (Value.slice A314 ((cdata ++ m.data).length) c315)]) (by kernel_rfl) (by kernel_rfl) (by kernel_rfl) Hcb (by kernel_rfl) (d := none) (by kernel_rfl) rfl (fun w325 H326 K327 => ?_)
       clear Hcb
       replace K0 := K0.trans K327 (U := (fun i => i = r ∨ i = g ∨ i = cb ∨ ((Value.slice CD cdata.length cdc)).ownBlock = some i)) (fun i h1 h2 => h2) (fun i h1 h2 => by have h2 : i = cb := h2; exact .inr (.inr (.inl h2)))
       replace H21 := H21.k1 K327 (by omega)
       replace H0 := H0.k1 K327 (by omega)
       replace H4 := H4.k1 K327 (by omega)
       replace H13 := H13.k1 K327 (by omega)
       replace hE := Ents.keep hE K327 hTcb
       replace hKv := ImgK.keep hKv K327 hKcb
       replace hO310 := own_keep hO310 K327 (fun i hi => by have := ob318 i hi; omega)
       refine ⟨(K327.mono (fun i _ h => by have h : i = cb := h; show ((Value.slice CD cdata.length cdc)).ownBlock = some i ∨ i = cb; exact (.inr h))), ?_⟩
       refine Dr.strong (S' := (fun wz => Keeps (fun i => ((Value.slice CD cdata.length cdc)).ownBlock = some i ∨ i = cb) w325 wz)) ((Keeps.refl w325).mono (fun _ _ h => h.elim)) (fun wz hx => K327.trans hx (fun i _ h => by have h : i = cb := h; show ((Value.slice CD cdata.length cdc)).ownBlock = some i ∨ i = cb; exact (.inr h)) (fun _ _ h => h)) ?_
       clear K327
       refine Dr.done (by kernel_rfl) ?_
       refine qs ?_
       refine qs ?_
       refine qg ?_
       refine og 1 [(2, (ptr b1)), (3, (ptr b10)), (4, (Value.func (Fn.func 65) ⟨[]⟩ ⟨[(ptr b1), (ptr b10)]⟩)), (5, (ptr cb)), (83, (Value.pointer (some ⟨b10, 8, none⟩)))] 1 ?_
       refine Ops.go (v := (Value.bool m.ok)) (by kernel_rfl) (Runs.load (t := 4) (a := ⟨b10, 8, none⟩) (by kernel_rfl) (H13.loads (by kernel_rfl))) (d := (some 84)) (by kernel_rfl) rfl ?_
       refine og 1 [(2, (ptr b1)), (3, (ptr b10)), (4, (Value.func (Fn.func 65) ⟨[]⟩ ⟨[(ptr b1), (ptr b10)]⟩)), (5, (ptr cb)), (85, (Value.bool (!m.ok)))] 3 ?_
       refine od ?_
       refine q_cond (o := .tmp 85) (b := (!m.ok)) (by kernel_rfl) rfl (fun h328 => ?_) (fun h328 => ?_)
       ·rw [h328]
        have p329 : m.ok = false := (bnot_true h328)
        refine qs ?_
        refine qg ?_
        refine og 4 [(2, (ptr b1)), (3, (ptr b10)), (4, (Value.func (Fn.func 65) ⟨[]⟩ ⟨[(ptr b1), (ptr b10)]⟩)), (5, (ptr cb)), (86, (Value.func (Fn.func 65) ⟨[]⟩ ⟨[(ptr b1), (ptr b10)]⟩)), (89, (Value.pointer (some ⟨cb, 2, none⟩)))] 4 ?_
        refine Ops.go (v := (Value.slice A314 ((cdata ++ m.data).length) c315)) (by kernel_rfl) (Runs.load (t := 37) (a := ⟨cb, 2, none⟩) (by kernel_rfl) (H326.loads (by kernel_rfl))) (d := (some 90)) (by kernel_rfl) rfl ?_
        refine og 1 [(2, (ptr b1)), (3, (ptr b10)), (4, (Value.func (Fn.func 65) ⟨[]⟩ ⟨[(ptr b1), (ptr b10)]⟩)), (5, (ptr cb)), (86, (Value.func (Fn.func 65) ⟨[]⟩ ⟨[(ptr b1), (ptr b10)]⟩)), (91, (i64 (((cdata ++ m.data).length : Nat) : Int)))] 6 ?_
        refine Ops.call (by kernel_rfl) (d := (some 92)) (by kernel_rfl) (has_calls _ r g s.term s.voted m.frm s.commit q.group q.me q.n 0 q.timeout kv (ptr cb) came m E ec D dc (((cdata ++ m.data).length : Nat) : Int) b1 b10 H21 H4 H13 (by omega) (by omega)) ?_
        rintro _ w334 ⟨ob330, cap331, rest332, rfl, K333, H335, H336, hn337⟩
        have nob330 : w.heap.size ≤ ob330 := by have := K0.size; omega
        have lob330r : r < ob330 := by have := H21.lt; omega
        have lob330g : g < ob330 := by have := H0.lt; omega
        have lob330cb : cb < ob330 := by have := H326.lt; omega
        have lob330b1 : b1 < ob330 := by have := H4.lt; omega
        have lob330b10 : b10 < ob330 := by have := H13.lt; omega
        have ot338 : ∀ i, T i → i ≠ ob330 := fun i hi => by have := Ents.lt hE i hi; omega
        have of339 : ∀ i, (KF kv) i → i ≠ ob330 := fun i hi => by have := ImgK.lt hKv i hi; omega
        have ob340 : ∀ i, ((Value.slice A314 ((cdata ++ m.data).length) c315)).ownBlock = some i → i ≠ ob330 := fun i hi => by have := (World.ownsRow.lt hO310 i hi).2; omega
        refine ⟨_, _, rfl, rfl, ?_⟩
        replace K0 := K0.trans K333 (U := (fun i => i = r ∨ i = g ∨ i = cb ∨ ((Value.slice CD cdata.length cdc)).ownBlock = some i)) (fun i h1 h2 => h2) (fun i h1 h2 => by have h2 : i = r := h2; exact .inl h2)
        replace H0 := H0.k1 K333 (by omega)
        replace H326 := H326.k1 K333 (by omega)
        replace H4 := H4.k1 K333 (by omega)
        replace H13 := H13.k1 K333 (by omega)
        replace hE := Ents.keep hE K333 hrT
        replace hKv := ImgK.keep hKv K333 hKr
        replace hO310 := own_keep hO310 K333 (fun i hi => by have := ob316 i hi; omega)
        clear K333
        refine od ?_
        refine q_ret (by kernel_rfl) ?_
        refine ⟨(Value.tuple #[]), retv_none rfl, ?_⟩
        exact ⟨(⟨s.term, s.voted, m.frm, s.commit, 0, s.base, s.old, (l.map EntP.key)⟩ : FolS), (Value.slice (some ⟨ob330, 0, none⟩) 1 cap331), (⟨6, m.frm, s.term, m.index, (((cdata ++ m.data).length : Nat) : Int), false⟩ : OutM), rfl, (K0.mono (fun i _ h => by rcases h with h | h | h | h; (rw [h]; exact hFr); (rw [h]; exact hFg); (rw [h]; exact (hC9 cb hCc).2.2); (exact (hC9 i (hCi i h).1).2.2))), ⟨g, T, (fun i => i = cb ∨ ((Value.slice A314 ((cdata ++ m.data).length) c315)).ownBlock = some i), A, c, l, kv, (ptr cb), came, H335, H0, hE, rfl, hKv, ⟨fun i hi => by rcases hi with hi | hi; (rw [hi]; exact H326.lt); (exact (World.ownsRow.lt hO310 i hi).2), .inr ⟨cb, ca, ct, A314, c315, (cdata ++ m.data), rfl, H326, own_base hO310 (Nat.zero_le _), (by (try simp only [List.length_append]); (try simp only [List.length_nil]); omega), .inl rfl, (fun i hi => ⟨.inr hi, ob318 i hi⟩)⟩⟩, fun i hi => ⟨hrT i hi, hT i hi, fun h => by rcases h with h | h; (exact hTcb i hi h); (exact oo321 i h hi), .inl (hT7 i hi).2.2.2, Ents.lt hE i hi⟩, fun i hi => ⟨hKr i hi, hKg i hi, fun h => by rcases h with h | h; (exact hKcb i hi h); (exact oo322 i h hi), .inl (hK8 i hi).2.2.2, ImgK.lt hKv i hi⟩, fun i hi => by rcases hi with hi | hi; (rw [hi]; exact ⟨by omega, by omega, .inl (hC9 cb hCc).2.2, H326.lt⟩); (exact ⟨ob316 i hi, ob317 i hi, hOF323 i hi, (World.ownsRow.lt hO310 i hi).2⟩), by omega, ⟨.inl hFr, H335.lt⟩, ⟨.inl hFg, H0.lt⟩, ⟨by show 0 ≤ (s.base : Int) ∧ (s.base : Int) ≤ 1152921504606846976; omega, by show ((l.map EntP.key)).length ≤ 4096; rw [List.length_map]; omega, hBig, by show (s.base : Int) ≤ s.commit ∧ (s.commit : Int) ≤ 2305843009213693952; omega⟩⟩, ⟨ob330, cap331, rest332, rfl, nob330, H336⟩, rfl, rfl, by show s.commit ≤ s.commit; omega, by show (6 : Int) ≠ 2; decide⟩
       ·rw [h328]
        have p341 : m.ok = true := (bnot_false h328)
        refine q_skip (by kernel_rfl) ?_
        refine qs ?_
        refine qg ?_
        refine Ops.go (v := (ptr r)) (by kernel_rfl) (Runs.load (t := 29) (a := ⟨b1, 0, none⟩) (by kernel_rfl) (H4.loads (by kernel_rfl))) (d := (some 93)) (by kernel_rfl) rfl ?_
        refine og 2 [(2, (ptr b1)), (3, (ptr b10)), (4, (Value.func (Fn.func 65) ⟨[]⟩ ⟨[(ptr b1), (ptr b10)]⟩)), (5, (ptr cb)), (95, (Value.pointer (some ⟨r, 15, none⟩)))] 3 ?_
        refine Ops.put (t := 82) (b := r) (off := 15) (v := (Value.pointer none)) (ys := [(i64 s.term), (i64 s.voted), (i64 0), (i64 m.frm), (i64 s.commit), (i64 q.group), (i64 q.me), (i64 q.n), (ptr g), (i64 0), (i64 q.timeout), (Value.slice none 0 0), (Value.map none), (Value.slice none 0 0), kv, (Value.pointer none), (Value.bool came), (Value.slice none 0 0)]) (by kernel_rfl) (by kernel_rfl) H21 (by kernel_rfl) (d := none) (by kernel_rfl) rfl (fun w342 H343 K344 => ?_)
        clear H21
        replace K0 := K0.trans K344 (U := (fun i => i = r ∨ i = g ∨ i = cb ∨ ((Value.slice CD cdata.length cdc)).ownBlock = some i)) (fun i h1 h2 => h2) (fun i h1 h2 => by have h2 : i = r := h2; exact .inl h2)
        replace H0 := H0.k1 K344 (by omega)
        replace H326 := H326.k1 K344 (by omega)
        replace H4 := H4.k1 K344 (by omega)
        replace H13 := H13.k1 K344 (by omega)
        replace hE := Ents.keep hE K344 hrT
        replace hKv := ImgK.keep hKv K344 hKr
        replace hO310 := own_keep hO310 K344 (fun i hi => by have := ob316 i hi; omega)
        clear K344
        refine od ?_
        refine qs ?_
        refine qs ?_
        refine qg ?_
        refine og 1 [(2, (ptr b1)), (3, (ptr b10)), (4, (Value.func (Fn.func 65) ⟨[]⟩ ⟨[(ptr b1), (ptr b10)]⟩)), (5, (ptr cb)), (96, (Value.pointer (some ⟨b10, 6, none⟩)))] 1 ?_
        refine Ops.go (v := (i64 m.logTerm)) (by kernel_rfl) (Runs.load (t := 2) (a := ⟨b10, 6, none⟩) (by kernel_rfl) (H13.loads (by kernel_rfl))) (d := (some 97)) (by kernel_rfl) rfl ?_
        refine og 1 [(2, (ptr b1)), (3, (ptr b10)), (4, (Value.func (Fn.func 65) ⟨[]⟩ ⟨[(ptr b1), (ptr b10)]⟩)), (5, (ptr cb)), (97, (i64 m.logTerm)), (98, (Value.pointer (some ⟨b10, 4, none⟩)))] 3 ?_
        refine Ops.go (v := (i64 m.term)) (by kernel_rfl) (Runs.load (t := 2) (a := ⟨b10, 4, none⟩) (by kernel_rfl) (H13.loads (by kernel_rfl))) (d := (some 99)) (by kernel_rfl) rfl ?_
        refine og 2 [(2, (ptr b1)), (3, (ptr b10)), (4, (Value.func (Fn.func 65) ⟨[]⟩ ⟨[(ptr b1), (ptr b10)]⟩)), (5, (ptr cb)), (101, (Value.bool (decide (m.logTerm > m.term))))] 6 ?_
        refine Ops.split (decide (m.logTerm > m.term)) (fun h345 => ?_) (fun h345 => ?_)
        ·rw [h345]
         have p346 : m.logTerm > m.term := of_decide_eq_true h345
         refine og 5 [(2, (ptr b1)), (3, (ptr b10)), (4, (Value.func (Fn.func 65) ⟨[]⟩ ⟨[(ptr b1), (ptr b10)]⟩)), (106, (Value.bool true))] 11 ?_
         refine od ?_
         refine q_then (o := .tmp 106) (by kernel_rfl) rfl ?_
         refine qs ?_
         refine qg ?_
         refine og 1 [(2, (ptr b1)), (3, (ptr b10)), (107, (Value.func (Fn.func 65) ⟨[]⟩ ⟨[(ptr b1), (ptr b10)]⟩))] 1 ?_
         refine Ops.call (by kernel_rfl) (d := (some 108)) (by kernel_rfl) (has_calls _ r g s.term s.voted m.frm s.commit q.group q.me q.n 0 q.timeout kv (Value.pointer none) came m E ec D dc 0 b1 b10 H343 H4 H13 (by omega) (by omega)) ?_
         rintro _ w351 ⟨ob347, cap348, rest349, rfl, K350, H352, H353, hn354⟩
         have nob347 : w.heap.size ≤ ob347 := by have := K0.size; omega
         have lob347r : r < ob347 := by have := H343.lt; omega
         have lob347g : g < ob347 := by have := H0.lt; omega
         have lob347cb : cb < ob347 := by have := H326.lt; omega
         have lob347b1 : b1 < ob347 := by have := H4.lt; omega
         have lob347b10 : b10 < ob347 := by have := H13.lt; omega
         have ot355 : ∀ i, T i → i ≠ ob347 := fun i hi => by have := Ents.lt hE i hi; omega
         have of356 : ∀ i, (KF kv) i → i ≠ ob347 := fun i hi => by have := ImgK.lt hKv i hi; omega
         have ob357 : ∀ i, ((Value.slice A314 ((cdata ++ m.data).length) c315)).ownBlock = some i → i ≠ ob347 := fun i hi => by have := (World.ownsRow.lt hO310 i hi).2; omega
         refine ⟨_, _, rfl, rfl, ?_⟩
         replace K0 := K0.trans K350 (U := (fun i => i = r ∨ i = g ∨ i = cb ∨ ((Value.slice CD cdata.length cdc)).ownBlock = some i)) (fun i h1 h2 => h2) (fun i h1 h2 => by have h2 : i = r := h2; exact .inl h2)
         replace H0 := H0.k1 K350 (by omega)
         replace H326 := H326.k1 K350 (by omega)
         replace H4 := H4.k1 K350 (by omega)
         replace H13 := H13.k1 K350 (by omega)
         replace hE := Ents.keep hE K350 hrT
         replace hKv := ImgK.keep hKv K350 hKr
         replace hO310 := own_keep hO310 K350 (fun i hi => by have := ob316 i hi; omega)
         clear K350
         refine od ?_
         refine q_ret (by kernel_rfl) ?_
         refine ⟨(Value.tuple #[]), retv_none rfl, ?_⟩
         exact ⟨(⟨s.term, s.voted, m.frm, s.commit, 0, s.base, s.old, (l.map EntP.key)⟩ : FolS), (Value.slice (some ⟨ob347, 0, none⟩) 1 cap348), (⟨6, m.frm, s.term, m.index, 0, false⟩ : OutM), rfl, (K0.mono (fun i _ h => by rcases h with h | h | h | h; (rw [h]; exact hFr); (rw [h]; exact hFg); (rw [h]; exact (hC9 cb hCc).2.2); (exact (hC9 i (hCi i h).1).2.2))), ⟨g, T, none_, A, c, l, kv, (Value.pointer none), came, H352, H0, hE, rfl, hKv, ⟨fun _ h => h.elim, .inl rfl⟩, fun i hi => ⟨hrT i hi, hT i hi, fun h => h, .inl (hT7 i hi).2.2.2, Ents.lt hE i hi⟩, fun i hi => ⟨hKr i hi, hKg i hi, fun h => h, .inl (hK8 i hi).2.2.2, ImgK.lt hKv i hi⟩, fun i hi => hi.elim, by omega, ⟨.inl hFr, H352.lt⟩, ⟨.inl hFg, H0.lt⟩, ⟨by show 0 ≤ (s.base : Int) ∧ (s.base : Int) ≤ 1152921504606846976; omega, by show ((l.map EntP.key)).length ≤ 4096; rw [List.length_map]; omega, hBig, by show (s.base : Int) ≤ s.commit ∧ (s.commit : Int) ≤ 2305843009213693952; omega⟩⟩, ⟨ob347, cap348, rest349, rfl, nob347, H353⟩, rfl, rfl, by show s.commit ≤ s.commit; omega, by show (6 : Int) ≠ 2; decide⟩
        ·rw [h345]
         have p358 : ¬ (m.logTerm > m.term) := of_decide_eq_false h345
         refine Ops.go (v := (ptr r)) (by kernel_rfl) (Runs.load (t := 29) (a := ⟨b1, 0, none⟩) (by kernel_rfl) (H4.loads (by kernel_rfl))) (d := (some 102)) (by kernel_rfl) rfl ?_
         refine og 1 [(2, (ptr b1)), (3, (ptr b10)), (4, (Value.func (Fn.func 65) ⟨[]⟩ ⟨[(ptr b1), (ptr b10)]⟩)), (101, (Value.bool false)), (102, (ptr r)), (103, (ptr cb))] 8 ?_
         refine Ops.call (by kernel_rfl) (d := (some 104)) (by kernel_rfl) (install_calls _ r g s.term s.voted m.frm s.commit q.group q.me q.n 0 q.timeout kv came T s.base s.old A c l cb ca ct A314 ((cdata ++ m.data).length) c315 H343 H0 hE hT (by omega) (by omega) (by omega) hrT hBig H326 hTcb ⟨by omega, by omega⟩ (by omega) (by omega) (by omega) (by omega)) ?_
         rintro _ w370 ⟨bb359, g360, base361, old362, A363, c364, l365, T366, cm367, kv368, came369, rfl, K371, H372, H373, hE374, hl375, hb376, hT377, hg378, hr379, hB380, hc381, (rfl | rfl)⟩
         ·refine ⟨_, _, rfl, rfl, ?_⟩
          have ot382 : ∀ i, T366 i → i ≠ r := fun i hi => (hT377 i hi).2.1
          have ot383 : ∀ i, T366 i → i ≠ cb := fun i hi => by rcases (hT377 i hi).2.2 with z | z; (exact hTcb i z); (have := H326.lt; omega)
          have dg360cb : g360 ≠ cb := by have := H326.lt; omega
          have ot384 : ∀ i, T366 i → i ≠ b1 := fun i hi => by rcases (hT377 i hi).2.2 with z | z; (exact ot7 i z); (have := H4.lt; omega)
          have dg360b1 : g360 ≠ b1 := by have := H4.lt; omega
          have ot385 : ∀ i, T366 i → i ≠ b10 := fun i hi => by rcases (hT377 i hi).2.2 with z | z; (exact ot16 i z); (have := H13.lt; omega)
          have dg360b10 : g360 ≠ b10 := by have := H13.lt; omega
          have ot386 : ∀ i, T366 i → i ≠ g360 := fun i hi => (hT377 i hi).1
          have of387 : ∀ i, (KF kv) i → i ≠ g360 := fun i hi => by have := hKg i hi; have := ImgK.lt hKv i hi; omega
          have ob388 : ∀ i, ((Value.slice A314 ((cdata ++ m.data).length) c315)).ownBlock = some i → i ≠ g360 := fun i hi => by have := ob317 i hi; have := (World.ownsRow.lt hO310 i hi).2; omega
          have oo389 : ∀ i, ((Value.slice A314 ((cdata ++ m.data).length) c315)).ownBlock = some i → T366 i → False := fun i hs hi => by rcases (hT377 i hi).2.2 with z | z; (exact oo321 i hs z); (have := (World.ownsRow.lt hO310 i hs).2; omega)
          have or390 : ∀ i, T366 i → T i ∨ w.heap.size ≤ i := fun i hi => (hT377 i hi).2.2.elim (fun z => .inl z) (fun z => .inr (Nat.le_trans K0.size z))
          have fg360 : F g360 ∨ w.heap.size ≤ g360 := by rcases hg378 with z | z; (rw [z]; exact .inl hFg); (exact .inr (Nat.le_trans K0.size z))
          replace K0 := K0.trans K371 (U := (fun i => i = r ∨ i = g ∨ i = cb ∨ ((Value.slice CD cdata.length cdc)).ownBlock = some i)) (fun i h1 h2 => h2) (fun i h1 h2 => by have h2 : i = r ∨ i = g := h2; rcases h2 with h2 | h2; (exact .inl h2); (exact .inr (.inl h2)))
          replace H326 := H326.keep K371 (by intro h; change cb = r ∨ cb = g at h; omega)
          replace H4 := H4.keep K371 (by intro h; change b1 = r ∨ b1 = g at h; omega)
          replace H13 := H13.keep K371 (by intro h; change b10 = r ∨ b10 = g at h; omega)
          replace hE := Ents.keep hE K371 (fun i hi hs => by have hs : i = r ∨ i = g := hs; rcases hs with hs | hs; (have := hrT i hi; omega); (have := hT i hi; omega))
          replace hKv := ImgK.keep hKv K371 (fun i hi hs => by have hs : i = r ∨ i = g := hs; rcases hs with hs | hs; (have := hKr i hi; omega); (have := hKg i hi; omega))
          replace hO310 := own_keep hO310 K371 (fun i hi hs => by have hs : i = r ∨ i = g := hs; rcases hs with hs | hs; (have := ob316 i hi; omega); (have := ob317 i hi; omega))
          clear K371
          refine og 2 [(2, (ptr b1)), (3, (ptr b10)), (4, (Value.func (Fn.func 65) ⟨[]⟩ ⟨[(ptr b1), (ptr b10)]⟩)), (106, (Value.bool (!bb359)))] 11 ?_
          refine od ?_
          refine q_cond (o := .tmp 106) (b := (!bb359)) (by kernel_rfl) rfl (fun h391 => ?_) (fun h391 => ?_)
          ·rw [h391]
           have p392 : bb359 = false := (bnot_true h391)
           try rw [p392]
           refine qs ?_
           refine qg ?_
           refine og 1 [(2, (ptr b1)), (3, (ptr b10)), (107, (Value.func (Fn.func 65) ⟨[]⟩ ⟨[(ptr b1), (ptr b10)]⟩))] 1 ?_
           refine Ops.call (by kernel_rfl) (d := (some 108)) (by kernel_rfl) (has_calls _ r g360 s.term s.voted m.frm cm367 q.group q.me q.n 0 q.timeout kv (Value.pointer none) came369 m E ec D dc 0 b1 b10 H372 H4 H13 (by omega) (by omega)) ?_
           rintro _ w397 ⟨ob393, cap394, rest395, rfl, K396, H398, H399, hn400⟩
           have nob393 : w.heap.size ≤ ob393 := by have := K0.size; omega
           have lob393r : r < ob393 := by have := H372.lt; omega
           have lob393cb : cb < ob393 := by have := H326.lt; omega
           have lob393b1 : b1 < ob393 := by have := H4.lt; omega
           have lob393b10 : b10 < ob393 := by have := H13.lt; omega
           have lob393g360 : g360 < ob393 := by have := H373.lt; omega
           have ot401 : ∀ i, T i → i ≠ ob393 := fun i hi => by have := Ents.lt hE i hi; omega
           have of402 : ∀ i, (KF kv) i → i ≠ ob393 := fun i hi => by have := ImgK.lt hKv i hi; omega
           have ob403 : ∀ i, ((Value.slice A314 ((cdata ++ m.data).length) c315)).ownBlock = some i → i ≠ ob393 := fun i hi => by have := (World.ownsRow.lt hO310 i hi).2; omega
           have ot404 : ∀ i, T366 i → i ≠ ob393 := fun i hi => by have := Ents.lt hE374 i hi; omega
           refine ⟨_, _, rfl, rfl, ?_⟩
           replace K0 := K0.trans K396 (U := (fun i => i = r ∨ i = g ∨ i = cb ∨ ((Value.slice CD cdata.length cdc)).ownBlock = some i)) (fun i h1 h2 => h2) (fun i h1 h2 => by have h2 : i = r := h2; exact .inl h2)
           replace H326 := H326.k1 K396 (by omega)
           replace H4 := H4.k1 K396 (by omega)
           replace H13 := H13.k1 K396 (by omega)
           replace H373 := H373.k1 K396 (by omega)
           replace hE := Ents.keep hE K396 hrT
           replace hKv := ImgK.keep hKv K396 hKr
           replace hO310 := own_keep hO310 K396 (fun i hi => by have := ob316 i hi; omega)
           replace hE374 := Ents.keep hE374 K396 ot382
           clear K396
           refine od ?_
           refine q_ret (by kernel_rfl) ?_
           refine ⟨(Value.tuple #[]), retv_none rfl, ?_⟩
           exact ⟨(⟨s.term, s.voted, m.frm, cm367, 0, base361, old362, (l365.map EntP.key)⟩ : FolS), (Value.slice (some ⟨ob393, 0, none⟩) 1 cap394), (⟨6, m.frm, s.term, m.index, 0, false⟩ : OutM), rfl, (K0.mono (fun i _ h => by rcases h with h | h | h | h; (rw [h]; exact hFr); (rw [h]; exact hFg); (rw [h]; exact (hC9 cb hCc).2.2); (exact (hC9 i (hCi i h).1).2.2))), ⟨g360, T366, none_, A363, c364, l365, kv, (Value.pointer none), came369, H398, H373, hE374, rfl, hKv, ⟨fun _ h => h.elim, .inl rfl⟩, fun i hi => ⟨ot382 i hi, ot386 i hi, fun h => h, (or390 i hi).imp (fun z => (hT7 i z).2.2.2) id, Ents.lt hE374 i hi⟩, fun i hi => ⟨hKr i hi, of387 i hi, fun h => h, .inl (hK8 i hi).2.2.2, ImgK.lt hKv i hi⟩, fun i hi => hi.elim, by omega, ⟨.inl hFr, H398.lt⟩, ⟨fg360, H373.lt⟩, ⟨by show 0 ≤ (base361 : Int) ∧ (base361 : Int) ≤ 1152921504606846976; omega, by show ((l365.map EntP.key)).length ≤ 4096; rw [List.length_map]; omega, hb376, by show (base361 : Int) ≤ cm367 ∧ (cm367 : Int) ≤ 2305843009213693952; omega⟩⟩, ⟨ob393, cap394, rest395, rfl, nob393, H399⟩, rfl, rfl, by show s.commit ≤ cm367; omega, by show (6 : Int) ≠ 2; decide⟩
          ·rw [h391]
           have p405 : bb359 = true := (bnot_false h391)
           try rw [p405]
           refine q_skip (by kernel_rfl) ?_
           refine qg ?_
           refine Ops.go (v := (ptr r)) (by kernel_rfl) (Runs.load (t := 29) (a := ⟨b1, 0, none⟩) (by kernel_rfl) (H4.loads (by kernel_rfl))) (d := (some 109)) (by kernel_rfl) rfl ?_
           refine og 1 [(3, (ptr b10)), (109, (ptr r)), (110, (Value.pointer (some ⟨b10, 2, none⟩)))] 2 ?_
           refine Ops.go (v := (i64 m.frm)) (by kernel_rfl) (Runs.load (t := 3) (a := ⟨b10, 2, none⟩) (by kernel_rfl) (H13.loads (by kernel_rfl))) (d := (some 111)) (by kernel_rfl) rfl ?_
           refine og 1 [(109, (ptr r)), (111, (i64 m.frm)), (112, (Value.pointer (some ⟨b10, 5, none⟩)))] 4 ?_
           refine Ops.go (v := (i64 m.index)) (by kernel_rfl) (Runs.load (t := 2) (a := ⟨b10, 5, none⟩) (by kernel_rfl) (H13.loads (by kernel_rfl))) (d := (some 113)) (by kernel_rfl) rfl ?_
           refine og 1 [(109, (ptr r)), (111, (i64 m.frm)), (114, (agg [(i64 4), (i64 0), (i64 0), (i64 0), (i64 0), (i64 m.index), (i64 0), (i64 0), (Value.bool true), (Value.slice none 0 0), (Value.slice none 0 0)]))] 6 ?_
           refine Ops.call (by kernel_rfl) (d := (some 115)) (by kernel_rfl) (Fput_calls _ r g360 s.term s.voted m.frm cm367 q.group q.me q.n 0 q.timeout kv (Value.pointer none) came369 m.frm 4 m.index 0 true H372) ?_
           rintro _ w410 ⟨ob406, cap407, rest408, rfl, K409, H411, H412, hn413⟩
           have nob406 : w.heap.size ≤ ob406 := by have := K0.size; omega
           have lob406r : r < ob406 := by have := H372.lt; omega
           have lob406cb : cb < ob406 := by have := H326.lt; omega
           have lob406b1 : b1 < ob406 := by have := H4.lt; omega
           have lob406b10 : b10 < ob406 := by have := H13.lt; omega
           have lob406g360 : g360 < ob406 := by have := H373.lt; omega
           have ot414 : ∀ i, T i → i ≠ ob406 := fun i hi => by have := Ents.lt hE i hi; omega
           have of415 : ∀ i, (KF kv) i → i ≠ ob406 := fun i hi => by have := ImgK.lt hKv i hi; omega
           have ob416 : ∀ i, ((Value.slice A314 ((cdata ++ m.data).length) c315)).ownBlock = some i → i ≠ ob406 := fun i hi => by have := (World.ownsRow.lt hO310 i hi).2; omega
           have ot417 : ∀ i, T366 i → i ≠ ob406 := fun i hi => by have := Ents.lt hE374 i hi; omega
           refine ⟨_, _, rfl, rfl, ?_⟩
           replace K0 := K0.trans K409 (U := (fun i => i = r ∨ i = g ∨ i = cb ∨ ((Value.slice CD cdata.length cdc)).ownBlock = some i)) (fun i h1 h2 => h2) (fun i h1 h2 => by have h2 : i = r := h2; exact .inl h2)
           replace H326 := H326.k1 K409 (by omega)
           replace H4 := H4.k1 K409 (by omega)
           replace H13 := H13.k1 K409 (by omega)
           replace H373 := H373.k1 K409 (by omega)
           replace hE := Ents.keep hE K409 hrT
           replace hKv := ImgK.keep hKv K409 hKr
           replace hO310 := own_keep hO310 K409 (fun i hi => by have := ob316 i hi; omega)
           replace hE374 := Ents.keep hE374 K409 ot382
           clear K409
           refine od ?_
           refine ⟨(Value.tuple #[]), retv_none rfl, ?_⟩
           exact ⟨(⟨s.term, s.voted, m.frm, cm367, 0, base361, old362, (l365.map EntP.key)⟩ : FolS), (Value.slice (some ⟨ob406, 0, none⟩) 1 cap407), (⟨4, m.frm, s.term, m.index, 0, true⟩ : OutM), rfl, (K0.mono (fun i _ h => by rcases h with h | h | h | h; (rw [h]; exact hFr); (rw [h]; exact hFg); (rw [h]; exact (hC9 cb hCc).2.2); (exact (hC9 i (hCi i h).1).2.2))), ⟨g360, T366, none_, A363, c364, l365, kv, (Value.pointer none), came369, H411, H373, hE374, rfl, hKv, ⟨fun _ h => h.elim, .inl rfl⟩, fun i hi => ⟨ot382 i hi, ot386 i hi, fun h => h, (or390 i hi).imp (fun z => (hT7 i z).2.2.2) id, Ents.lt hE374 i hi⟩, fun i hi => ⟨hKr i hi, of387 i hi, fun h => h, .inl (hK8 i hi).2.2.2, ImgK.lt hKv i hi⟩, fun i hi => hi.elim, by omega, ⟨.inl hFr, H411.lt⟩, ⟨fg360, H373.lt⟩, ⟨by show 0 ≤ (base361 : Int) ∧ (base361 : Int) ≤ 1152921504606846976; omega, by show ((l365.map EntP.key)).length ≤ 4096; rw [List.length_map]; omega, hb376, by show (base361 : Int) ≤ cm367 ∧ (cm367 : Int) ≤ 2305843009213693952; omega⟩⟩, ⟨ob406, cap407, rest408, rfl, nob406, H412⟩, rfl, rfl, by show s.commit ≤ cm367; omega, by show (4 : Int) ≠ 2; decide⟩
         ·refine ⟨_, _, rfl, rfl, ?_⟩
          have ot382 : ∀ i, T366 i → i ≠ r := fun i hi => (hT377 i hi).2.1
          have ot383 : ∀ i, T366 i → i ≠ cb := fun i hi => by rcases (hT377 i hi).2.2 with z | z; (exact hTcb i z); (have := H326.lt; omega)
          have dg360cb : g360 ≠ cb := by have := H326.lt; omega
          have ot384 : ∀ i, T366 i → i ≠ b1 := fun i hi => by rcases (hT377 i hi).2.2 with z | z; (exact ot7 i z); (have := H4.lt; omega)
          have dg360b1 : g360 ≠ b1 := by have := H4.lt; omega
          have ot385 : ∀ i, T366 i → i ≠ b10 := fun i hi => by rcases (hT377 i hi).2.2 with z | z; (exact ot16 i z); (have := H13.lt; omega)
          have dg360b10 : g360 ≠ b10 := by have := H13.lt; omega
          have ot386 : ∀ i, T366 i → i ≠ g360 := fun i hi => (hT377 i hi).1
          have of387 : ∀ i, (KF kv) i → i ≠ g360 := fun i hi => by have := hKg i hi; have := ImgK.lt hKv i hi; omega
          have ob388 : ∀ i, ((Value.slice A314 ((cdata ++ m.data).length) c315)).ownBlock = some i → i ≠ g360 := fun i hi => by have := ob317 i hi; have := (World.ownsRow.lt hO310 i hi).2; omega
          have oo389 : ∀ i, ((Value.slice A314 ((cdata ++ m.data).length) c315)).ownBlock = some i → T366 i → False := fun i hs hi => by rcases (hT377 i hi).2.2 with z | z; (exact oo321 i hs z); (have := (World.ownsRow.lt hO310 i hs).2; omega)
          have or390 : ∀ i, T366 i → T i ∨ w.heap.size ≤ i := fun i hi => (hT377 i hi).2.2.elim (fun z => .inl z) (fun z => .inr (Nat.le_trans K0.size z))
          have fg360 : F g360 ∨ w.heap.size ≤ g360 := by rcases hg378 with z | z; (rw [z]; exact .inl hFg); (exact .inr (Nat.le_trans K0.size z))
          replace K0 := K0.trans K371 (U := (fun i => i = r ∨ i = g ∨ i = cb ∨ ((Value.slice CD cdata.length cdc)).ownBlock = some i)) (fun i h1 h2 => h2) (fun i h1 h2 => by have h2 : i = r ∨ i = g := h2; rcases h2 with h2 | h2; (exact .inl h2); (exact .inr (.inl h2)))
          replace H326 := H326.keep K371 (by intro h; change cb = r ∨ cb = g at h; omega)
          replace H4 := H4.keep K371 (by intro h; change b1 = r ∨ b1 = g at h; omega)
          replace H13 := H13.keep K371 (by intro h; change b10 = r ∨ b10 = g at h; omega)
          replace hE := Ents.keep hE K371 (fun i hi hs => by have hs : i = r ∨ i = g := hs; rcases hs with hs | hs; (have := hrT i hi; omega); (have := hT i hi; omega))
          replace hKv := ImgK.keep hKv K371 (fun i hi hs => by have hs : i = r ∨ i = g := hs; rcases hs with hs | hs; (have := hKr i hi; omega); (have := hKg i hi; omega))
          replace hO310 := own_keep hO310 K371 (fun i hi hs => by have hs : i = r ∨ i = g := hs; rcases hs with hs | hs; (have := ob316 i hi; omega); (have := ob317 i hi; omega))
          clear K371
          refine og 2 [(2, (ptr b1)), (3, (ptr b10)), (4, (Value.func (Fn.func 65) ⟨[]⟩ ⟨[(ptr b1), (ptr b10)]⟩)), (106, (Value.bool (!bb359)))] 11 ?_
          refine od ?_
          refine q_cond (o := .tmp 106) (b := (!bb359)) (by kernel_rfl) rfl (fun h418 => ?_) (fun h418 => ?_)
          ·rw [h418]
           have p419 : bb359 = false := (bnot_true h418)
           try rw [p419]
           refine qs ?_
           refine qg ?_
           refine og 1 [(2, (ptr b1)), (3, (ptr b10)), (107, (Value.func (Fn.func 65) ⟨[]⟩ ⟨[(ptr b1), (ptr b10)]⟩))] 1 ?_
           refine Ops.call (by kernel_rfl) (d := (some 108)) (by kernel_rfl) (has_calls _ r g360 s.term s.voted m.frm cm367 q.group q.me q.n 0 q.timeout (ptr cb) (Value.pointer none) came369 m E ec D dc 0 b1 b10 H372 H4 H13 (by omega) (by omega)) ?_
           rintro _ w424 ⟨ob420, cap421, rest422, rfl, K423, H425, H426, hn427⟩
           have nob420 : w.heap.size ≤ ob420 := by have := K0.size; omega
           have lob420r : r < ob420 := by have := H372.lt; omega
           have lob420cb : cb < ob420 := by have := H326.lt; omega
           have lob420b1 : b1 < ob420 := by have := H4.lt; omega
           have lob420b10 : b10 < ob420 := by have := H13.lt; omega
           have lob420g360 : g360 < ob420 := by have := H373.lt; omega
           have ot428 : ∀ i, T i → i ≠ ob420 := fun i hi => by have := Ents.lt hE i hi; omega
           have of429 : ∀ i, (KF kv) i → i ≠ ob420 := fun i hi => by have := ImgK.lt hKv i hi; omega
           have ob430 : ∀ i, ((Value.slice A314 ((cdata ++ m.data).length) c315)).ownBlock = some i → i ≠ ob420 := fun i hi => by have := (World.ownsRow.lt hO310 i hi).2; omega
           have ot431 : ∀ i, T366 i → i ≠ ob420 := fun i hi => by have := Ents.lt hE374 i hi; omega
           refine ⟨_, _, rfl, rfl, ?_⟩
           replace K0 := K0.trans K423 (U := (fun i => i = r ∨ i = g ∨ i = cb ∨ ((Value.slice CD cdata.length cdc)).ownBlock = some i)) (fun i h1 h2 => h2) (fun i h1 h2 => by have h2 : i = r := h2; exact .inl h2)
           replace H326 := H326.k1 K423 (by omega)
           replace H4 := H4.k1 K423 (by omega)
           replace H13 := H13.k1 K423 (by omega)
           replace H373 := H373.k1 K423 (by omega)
           replace hE := Ents.keep hE K423 hrT
           replace hKv := ImgK.keep hKv K423 hKr
           replace hO310 := own_keep hO310 K423 (fun i hi => by have := ob316 i hi; omega)
           replace hE374 := Ents.keep hE374 K423 ot382
           clear K423
           refine od ?_
           refine q_ret (by kernel_rfl) ?_
           refine ⟨(Value.tuple #[]), retv_none rfl, ?_⟩
           exact ⟨(⟨s.term, s.voted, m.frm, cm367, 0, base361, old362, (l365.map EntP.key)⟩ : FolS), (Value.slice (some ⟨ob420, 0, none⟩) 1 cap421), (⟨6, m.frm, s.term, m.index, 0, false⟩ : OutM), rfl, (K0.mono (fun i _ h => by rcases h with h | h | h | h; (rw [h]; exact hFr); (rw [h]; exact hFg); (rw [h]; exact (hC9 cb hCc).2.2); (exact (hC9 i (hCi i h).1).2.2))), ⟨g360, T366, none_, A363, c364, l365, (ptr cb), (Value.pointer none), came369, H425, H373, hE374, rfl, .inr ⟨cb, ca, ct, A314, (cdata ++ m.data).length, c315, rfl, H326⟩, ⟨fun _ h => h.elim, .inl rfl⟩, fun i hi => ⟨ot382 i hi, ot386 i hi, fun h => h, (or390 i hi).imp (fun z => (hT7 i z).2.2.2) id, Ents.lt hE374 i hi⟩, fun i hi => by have hi : ptr cb = ptr i := hi; cases hi; exact ⟨by omega, by omega, fun h => h, .inl (hC9 cb hCc).2.2, H326.lt⟩, fun i hi => hi.elim, by omega, ⟨.inl hFr, H425.lt⟩, ⟨fg360, H373.lt⟩, ⟨by show 0 ≤ (base361 : Int) ∧ (base361 : Int) ≤ 1152921504606846976; omega, by show ((l365.map EntP.key)).length ≤ 4096; rw [List.length_map]; omega, hb376, by show (base361 : Int) ≤ cm367 ∧ (cm367 : Int) ≤ 2305843009213693952; omega⟩⟩, ⟨ob420, cap421, rest422, rfl, nob420, H426⟩, rfl, rfl, by show s.commit ≤ cm367; omega, by show (6 : Int) ≠ 2; decide⟩
          ·rw [h418]
           have p432 : bb359 = true := (bnot_false h418)
           try rw [p432]
           refine q_skip (by kernel_rfl) ?_
           refine qg ?_
           refine Ops.go (v := (ptr r)) (by kernel_rfl) (Runs.load (t := 29) (a := ⟨b1, 0, none⟩) (by kernel_rfl) (H4.loads (by kernel_rfl))) (d := (some 109)) (by kernel_rfl) rfl ?_
           refine og 1 [(3, (ptr b10)), (109, (ptr r)), (110, (Value.pointer (some ⟨b10, 2, none⟩)))] 2 ?_
           refine Ops.go (v := (i64 m.frm)) (by kernel_rfl) (Runs.load (t := 3) (a := ⟨b10, 2, none⟩) (by kernel_rfl) (H13.loads (by kernel_rfl))) (d := (some 111)) (by kernel_rfl) rfl ?_
           refine og 1 [(109, (ptr r)), (111, (i64 m.frm)), (112, (Value.pointer (some ⟨b10, 5, none⟩)))] 4 ?_
           refine Ops.go (v := (i64 m.index)) (by kernel_rfl) (Runs.load (t := 2) (a := ⟨b10, 5, none⟩) (by kernel_rfl) (H13.loads (by kernel_rfl))) (d := (some 113)) (by kernel_rfl) rfl ?_
           refine og 1 [(109, (ptr r)), (111, (i64 m.frm)), (114, (agg [(i64 4), (i64 0), (i64 0), (i64 0), (i64 0), (i64 m.index), (i64 0), (i64 0), (Value.bool true), (Value.slice none 0 0), (Value.slice none 0 0)]))] 6 ?_
           refine Ops.call (by kernel_rfl) (d := (some 115)) (by kernel_rfl) (Fput_calls _ r g360 s.term s.voted m.frm cm367 q.group q.me q.n 0 q.timeout (ptr cb) (Value.pointer none) came369 m.frm 4 m.index 0 true H372) ?_
           rintro _ w437 ⟨ob433, cap434, rest435, rfl, K436, H438, H439, hn440⟩
           have nob433 : w.heap.size ≤ ob433 := by have := K0.size; omega
           have lob433r : r < ob433 := by have := H372.lt; omega
           have lob433cb : cb < ob433 := by have := H326.lt; omega
           have lob433b1 : b1 < ob433 := by have := H4.lt; omega
           have lob433b10 : b10 < ob433 := by have := H13.lt; omega
           have lob433g360 : g360 < ob433 := by have := H373.lt; omega
           have ot441 : ∀ i, T i → i ≠ ob433 := fun i hi => by have := Ents.lt hE i hi; omega
           have of442 : ∀ i, (KF kv) i → i ≠ ob433 := fun i hi => by have := ImgK.lt hKv i hi; omega
           have ob443 : ∀ i, ((Value.slice A314 ((cdata ++ m.data).length) c315)).ownBlock = some i → i ≠ ob433 := fun i hi => by have := (World.ownsRow.lt hO310 i hi).2; omega
           have ot444 : ∀ i, T366 i → i ≠ ob433 := fun i hi => by have := Ents.lt hE374 i hi; omega
           refine ⟨_, _, rfl, rfl, ?_⟩
           replace K0 := K0.trans K436 (U := (fun i => i = r ∨ i = g ∨ i = cb ∨ ((Value.slice CD cdata.length cdc)).ownBlock = some i)) (fun i h1 h2 => h2) (fun i h1 h2 => by have h2 : i = r := h2; exact .inl h2)
           replace H326 := H326.k1 K436 (by omega)
           replace H4 := H4.k1 K436 (by omega)
           replace H13 := H13.k1 K436 (by omega)
           replace H373 := H373.k1 K436 (by omega)
           replace hE := Ents.keep hE K436 hrT
           replace hKv := ImgK.keep hKv K436 hKr
           replace hO310 := own_keep hO310 K436 (fun i hi => by have := ob316 i hi; omega)
           replace hE374 := Ents.keep hE374 K436 ot382
           clear K436
           refine od ?_
           refine ⟨(Value.tuple #[]), retv_none rfl, ?_⟩
           exact ⟨(⟨s.term, s.voted, m.frm, cm367, 0, base361, old362, (l365.map EntP.key)⟩ : FolS), (Value.slice (some ⟨ob433, 0, none⟩) 1 cap434), (⟨4, m.frm, s.term, m.index, 0, true⟩ : OutM), rfl, (K0.mono (fun i _ h => by rcases h with h | h | h | h; (rw [h]; exact hFr); (rw [h]; exact hFg); (rw [h]; exact (hC9 cb hCc).2.2); (exact (hC9 i (hCi i h).1).2.2))), ⟨g360, T366, none_, A363, c364, l365, (ptr cb), (Value.pointer none), came369, H438, H373, hE374, rfl, .inr ⟨cb, ca, ct, A314, (cdata ++ m.data).length, c315, rfl, H326⟩, ⟨fun _ h => h.elim, .inl rfl⟩, fun i hi => ⟨ot382 i hi, ot386 i hi, fun h => h, (or390 i hi).imp (fun z => (hT7 i z).2.2.2) id, Ents.lt hE374 i hi⟩, fun i hi => by have hi : ptr cb = ptr i := hi; cases hi; exact ⟨by omega, by omega, fun h => h, .inl (hC9 cb hCc).2.2, H326.lt⟩, fun i hi => hi.elim, by omega, ⟨.inl hFr, H438.lt⟩, ⟨fg360, H373.lt⟩, ⟨by show 0 ≤ (base361 : Int) ∧ (base361 : Int) ≤ 1152921504606846976; omega, by show ((l365.map EntP.key)).length ≤ 4096; rw [List.length_map]; omega, hb376, by show (base361 : Int) ≤ cm367 ∧ (cm367 : Int) ≤ 2305843009213693952; omega⟩⟩, ⟨ob433, cap434, rest435, rfl, nob433, H439⟩, rfl, rfl, by show s.commit ≤ cm367; omega, by show (4 : Int) ≠ 2; decide⟩

theorem snap_calls (w : World) (F : Nat → Prop) (r : Nat) (q : FolQ) (s : FolS) (m : MsgP) (E : Option Addr) (ec : Nat) (D : Option Addr) (dc : Nat) (hF : Fol w F r q s (.slice none 0 0)) (hD : RdB w (.slice D m.data.length dc) m.data) (hDU : m.data ≠ [] → ∀ i, (Value.slice D m.data.length dc).ownBlock = some i → ¬ F i ∧ i < w.heap.size) (hdb : m.data.length ≤ 140737488351232) (hmi : 0 ≤ m.index ∧ m.index ≤ 1152921504606846976 ∧ 0 ≤ m.commit ∧ m.commit ≤ 1152921504606846976) : Calls Try.prog 51 ⟨[ptr r, (MV m.kind m.ok m E ec D dc)]⟩ w (fun e w' => ∃ (s' : FolS) (ov : Value) (o : OutM), e = .returned (.tuple #[]) ∧ Keeps F w w' ∧ Fol w' (fun i => (F i ∨ w.heap.size ≤ i) ∧ i < w'.heap.size) r q s' ov ∧ OutIs w' w.heap.size q ov (some o) ∧ s'.term = s.term ∧ s'.voted = s.voted ∧ s.commit ≤ s'.commit ∧ o.kind ≠ 2) := by
 obtain ⟨g, T, CF, A, c, l, kv, cv, came, Hr, H0, hE, hK, hKv, ⟨hC0, hCv⟩, hT7, hK8, hC9, hrg, hFr, hFg, hOk⟩ := hF
 rcases hCv with rfl | ⟨cb, ca, ct, CD, cdc, cdata, rfl, Hcb, hOw, hcl, hCc, hCi⟩
 ·exact snap_none w F r q s g T CF A c l kv came m E ec D dc Hr H0 hE hK hKv hC0 hT7 hK8 hC9 hrg hFr hFg hOk hD hDU hdb hmi
 ·exact snap_some w F r q s g T CF A c l kv came cb ca ct CD cdc cdata m E ec D dc Hr H0 hE hK hKv hC0 hT7 hK8 hC9 hrg hFr hFg hOk Hcb hOw hcl hCc hCi hD hDU hdb hmi
end Go.Proofs.Ytnmpepjikfbpdaa
