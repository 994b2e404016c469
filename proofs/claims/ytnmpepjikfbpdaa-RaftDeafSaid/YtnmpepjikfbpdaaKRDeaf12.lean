/- What the claim stands on, part 12: rules of the walk, contracts of the functions, plain laws. -/
import Derived.Test.YtnmpepjikfbpdaaProg
import Derived.Test.YtnmpepjikfbpdaaKRDeaf9
import Derived.Test.YtnmpepjikfbpdaaKRDeaf11
import Derived.Test.YtnmpepjikfbpdaaKRDeaf5
import Derived.Test.YtnmpepjikfbpdaaKRDeaf7
import Derived.Test.YtnmpepjikfbpdaaKRDeaf8
set_option linter.unusedVariables false
namespace Go.Proofs.Ytnmpepjikfbpdaa
open Go.Q Go.RowKit

def badM (q : FolQ) (m : MsgP) : Prop := m.group ≠ q.group ∨ m.to ≠ q.me ∨ m.frm = q.me ∨ m.frm < 0 ∨ q.n ≤ m.frm ∨ m.kind < 1 ∨ 6 < m.kind ∨ m.term < 1 ∨ 1152921504606846976 < m.term ∨ m.index < 0 ∨ 1152921504606846976 < m.index ∨ m.logTerm < 0 ∨ 1152921504606846976 < m.logTerm ∨ m.commit < 0 ∨ 1152921504606846976 < m.commit
/-- What a message does to a follower. -/
def StepRel (q : FolQ) (m : MsgP) (s s' : FolS) (o : Option OutM) : Prop :=
 (badM q m ∧ s' = s ∧ o = none) ∨ (¬ badM q m ∧ m.term ≤ s'.term ∧ s.term ≤ s'.term ∧ s.commit ≤ s'.commit ∧ (s'.term = s.term → 0 ≤ s.voted → s'.voted = s.voted) ∧
  ∀ x, o = some x → x.kind = 2 → x.ok = true → x.term = s'.term ∧ x.to = s'.voted ∧ 0 ≤ s'.voted ∧ s'.base = s.base ∧ s'.old = s.old ∧ s'.ks = s.ks ∧ (lastK s.base s.old s.ks < m.logTerm ∨ m.logTerm = lastK s.base s.old s.ks ∧ s.base + ((s.ks.length : Nat) : Int) ≤ m.index))
theorem flushF_calls (w : World) (F : Nat → Prop) (r : Nat) (q : FolQ) (s : FolS) (ov : Value) (hF : Fol w F r q s ov) : Calls Try.prog 39 ⟨[ptr r]⟩ w (fun e w' => e = .returned ov ∧ Keeps (fun i => i = r) w w' ∧ Fol w' F r q s (.slice none 0 0)) := by
 obtain ⟨g, T, CF, A, c, l, kv, cv, came, Hr, H0, hE, hK, hKv, hCv, hT7, hK8, hC9, hrg, hFr, hFg, hOk⟩ := hF
 refine (Fflush_calls w r g s.term s.voted s.leader s.commit q.group q.me q.n s.elapsed q.timeout kv cv came ov Hr).mono ?_
 rintro e w' ⟨rfl, K, H⟩
 exact ⟨rfl, K, g, T, CF, A, c, l, kv, cv, came, H, H0.keep K (fun h => hrg h.symm), hE.keep K (fun i hi h => (hT7 i hi).1 h), hK, hKv.keep K (fun i hi h => (hK8 i hi).1 h), hCv.keep K (fun i hi h => (hC9 i hi).1 h), hT7, hK8, hC9, hrg, hFr, hFg, hOk⟩

theorem kindX_calls (w : World) (m : MsgP) (E : Option Addr) (ec : Nat) (D : Option Addr) (dc : Nat) (hk : ¬ (m.kind < 1 ∨ 6 < m.kind)) : Calls Try.prog 44 ⟨[(MV m.kind m.ok m E ec D dc)]⟩ w (fun e w' => ∃ t x, e = .returned (.iface t x) ∧ Keeps none_ w w' ∧ ((m.kind = 1 ∧ t = 98 ∧ x = (MV 1 m.ok m E ec D dc)) ∨ (m.kind = 2 ∧ t = 101 ∧ x = (MV 2 m.ok m E ec D dc)) ∨ (m.kind = 3 ∧ t = 103 ∧ x = (MV 3 m.ok m E ec D dc)) ∨ (m.kind = 4 ∧ t = 105 ∧ x = (MV 4 m.ok m E ec D dc)) ∨ (m.kind = 5 ∧ t = 106 ∧ x = (MV 5 m.ok m E ec D dc)) ∨ (m.kind = 6 ∧ t = 107 ∧ x = (MV 6 m.ok m E ec D dc)))) := by
 have h6 : m.kind = 1 ∨ m.kind = 2 ∨ m.kind = 3 ∨ m.kind = 4 ∨ m.kind = 5 ∨ m.kind = 6 := by omega
 rcases h6 with h | h | h | h | h | h
 ·rw [h]; exact (kind1_calls w m E ec D dc).mono fun e w' ⟨h1, h2⟩ => ⟨_, _, h1, h2, .inl ⟨rfl, rfl, rfl⟩⟩
 ·rw [h]; exact (kind2_calls w m E ec D dc).mono fun e w' ⟨h1, h2⟩ => ⟨_, _, h1, h2, .inr (.inl ⟨rfl, rfl, rfl⟩)⟩
 ·rw [h]; exact (kind3_calls w m E ec D dc).mono fun e w' ⟨h1, h2⟩ => ⟨_, _, h1, h2, .inr (.inr (.inl ⟨rfl, rfl, rfl⟩))⟩
 ·rw [h]; exact (kind4_calls w m E ec D dc).mono fun e w' ⟨h1, h2⟩ => ⟨_, _, h1, h2, .inr (.inr (.inr (.inl ⟨rfl, rfl, rfl⟩)))⟩
 ·rw [h]; exact (kind5_calls w m E ec D dc).mono fun e w' ⟨h1, h2⟩ => ⟨_, _, h1, h2, .inr (.inr (.inr (.inr (.inl ⟨rfl, rfl, rfl⟩))))⟩
 ·rw [h]; exact (kind6_calls w m E ec D dc).mono fun e w' ⟨h1, h2⟩ => ⟨_, _, h1, h2, .inr (.inr (.inr (.inr (.inr (⟨rfl, rfl, rfl⟩)))))⟩

set_option maxHeartbeats 4000000 in
theorem Step_bad1 (w : World) (F : Nat → Prop) (r : Nat) (q : FolQ) (s : FolS) (m : MsgP) (E : Option Addr) (ec : Nat) (D : Option Addr) (dc : Nat) (U : Nat → Prop) (hF : Fol w F r q s (.slice none 0 0)) (hFl : ∀ i, F i → i < w.heap.size) (hY : Ents w U (.slice E m.entries.length ec) m.entries) (hBigY : BigK (m.entries.map EntP.key)) (hYl : m.entries.length * 32 ≤ 140737488351232) (hm : m.Ok) (hUF : ∀ i, U i → ¬ F i) (hD : RdB w (.slice D m.data.length dc) m.data) (hDU : m.data ≠ [] → ∀ i, (Value.slice D m.data.length dc).ownBlock = some i → ¬ F i ∧ i < w.heap.size) (hdb : m.data.length ≤ 140737488351232) (hp : (m.group ≠ q.group ∨ m.to ≠ q.me ∨ m.frm = q.me ∨ m.frm < 0 ∨ q.n ≤ m.frm)) : Calls Try.prog 20 ⟨[(ptr r), (MV m.kind m.ok m E ec D dc)]⟩ w (fun e w' => ∃ (s' : FolS) (ov : Value) (o : Option OutM), e = .returned ov ∧ Keeps F w w' ∧ Fol w' (fun i => (F i ∨ w.heap.size ≤ i) ∧ i < w'.heap.size) r q s' (.slice none 0 0) ∧ OutIs w' w.heap.size q ov o ∧ StepRel q m s s' o) := by
 have hF0 := hF
 obtain ⟨g, T, CF, A, c, l, kv, cv, came, Hr, H0, hE, hK, hKv, hCv, hT7, hK8, hC9, hrg, hFr, hFg, hOk⟩ := hF
 have Hg := H0.lt
 have Hrl := Hr.lt
 have hi0 := hm.kind
 have hi1 := hm.group
 have hi2 := hm.frm
 have hi3 := hm.to
 have hi4 := hm.term
 have hi5 := hm.index
 have hi6 := hm.logTerm
 have hi7 := hm.commit
 have K0 : Keeps none_ w w := Keeps.refl w
 refine q_calls Try.func20 (by kernel_rfl) (by kernel_rfl) ?_
 refine qs ?_
 refine qg ?_
 refine Ops.new (o := rowL [(i64 m.kind), (i64 m.group), (i64 m.frm), (i64 m.to), (i64 m.term), (i64 m.index), (i64 m.logTerm), (i64 m.commit), (Value.bool m.ok), (Value.slice E m.entries.length ec), (Value.slice D m.data.length dc)] 46) (V := fun b => (ptr b)) (by kernel_rfl) (d := (some 3)) (by kernel_rfl) (fun b => rfl) (fun b1 w2 hb3 H4 K5 hs6 => ?_)
 have lb1r : r < b1 := by have := Hr.lt; omega
 have lb1g : g < b1 := by have := H0.lt; omega
 have nb1 : w.heap.size ≤ b1 := by have := K0.size; omega
 replace K0 := K0.t0 K5
 replace Hr := Hr.keep K5 (fun h => h)
 replace H0 := H0.keep K5 (fun h => h)
 clear K5 hs6
 refine og 1 [(0, (ptr r)), (3, (ptr b1)), (4, (Value.slice none 0 0))] 2 ?_
 refine od ?_
 refine qs ?_
 refine qs ?_
 refine q_draw (fun wz => Keeps none_ w2 wz) 43 (by kernel_rfl) (by kernel_rfl) (by kernel_rfl) (fun w7 K8 _ _ => ⟨K8, ?_⟩)
 replace K0 := K0.t0 K8
 replace Hr := Hr.keep K8 (fun h => h)
 replace H0 := H0.keep K8 (fun h => h)
 replace H4 := H4.keep K8 (fun h => h)
 refine Dr.strong (S' := (fun wz => Keeps none_ w7 wz)) (Keeps.refl w7) (fun wz hx => K8.trans hx (fun i _ h => h) (fun _ _ h => h)) ?_
 clear K8
 refine Dr.takes (fuel' := 39) (is' := _) [0, 1, 2, 3] [(0, (ptr r)), (3, (ptr b1)), (4, (Value.slice none 0 0)), (17, (Value.bool false)), (18, (Value.pointer (some ⟨b1, 1, none⟩)))] (by kernel_rfl) rfl (by kernel_rfl) ?_
 refine Dr.take (i := 4) (v := (i64 m.group)) (by kernel_rfl) (by kernel_rfl) (fun wz hS => Runs.load (t := 3) (a := ⟨b1, 1, none⟩) (by kernel_rfl) ((H4.keep hS (fun h => h)).loads (by kernel_rfl))) (d := (some 19)) (by kernel_rfl) rfl ?_
 refine Dr.takes (fuel' := 35) (is' := _) [5, 6, 7] [(0, (ptr r)), (3, (ptr b1)), (4, (Value.slice none 0 0)), (17, (Value.bool false)), (19, (i64 m.group)), (22, (Value.pointer (some ⟨r, 5, none⟩)))] (by kernel_rfl) rfl (by kernel_rfl) ?_
 refine Dr.take (i := 8) (v := (i64 q.group)) (by kernel_rfl) (by kernel_rfl) (fun wz hS => Runs.load (t := 3) (a := ⟨r, 5, none⟩) (by kernel_rfl) ((Hr.keep hS (fun h => h)).loads (by kernel_rfl))) (d := (some 23)) (by kernel_rfl) rfl ?_
 refine Dr.takes (fuel' := 31) (is' := _) [9, 10, 11] [(0, (ptr r)), (3, (ptr b1)), (4, (Value.slice none 0 0)), (26, (Value.bool (m.group != q.group)))] (by kernel_rfl) rfl (by kernel_rfl) ?_
 refine Dr.split (m.group != q.group) (fun h9 => ?_) (fun h9 => ?_)
 ·rw [h9]
  have p10 : ¬ (m.group = q.group) := of_bne_t h9
  refine Dr.takes (fuel' := 0) (is' := _) [12, 13, 14, 15, 16, 17, 18, 19, 20, 21, 22, 23, 24, 25, 26, 27, 28, 29, 30, 31, 32, 33, 34, 35, 36, 37, 38, 39, 40, 41, 42] [(0, (ptr r)), (3, (ptr b1)), (4, (Value.slice none 0 0)), (57, (Value.bool true))] (by kernel_rfl) rfl (by kernel_rfl) ?_
  refine Dr.done (by kernel_rfl) ?_
  refine q_then (o := .tmp 57) (by kernel_rfl) rfl ?_
  refine qs ?_
  refine qg ?_
  refine og 1 [(0, (ptr r)), (3, (ptr b1)), (4, (Value.slice none 0 0))] 1 ?_
  refine od ?_
  refine q_ret (by kernel_rfl) ?_
  refine ⟨(Value.slice none 0 0), retv_tmp rfl rfl, ?_⟩
  exact ⟨s, .slice none 0 0, none, rfl, K0.mono (fun _ _ h => h.elim), (hF0.keep K0 (fun _ _ h => h)).wide (fun i hi => ⟨.inl hi, Nat.lt_of_lt_of_le (hFl i hi) K0.size⟩), rfl, .inl ⟨by unfold badM; omega, rfl, rfl⟩⟩
 ·rw [h9]
  have p11 : m.group = q.group := of_bne_f h9
  refine Dr.takes (fuel' := 30) (is' := _) [12] [(0, (ptr r)), (3, (ptr b1)), (4, (Value.slice none 0 0)), (26, (Value.bool false)), (27, (Value.pointer (some ⟨b1, 3, none⟩)))] (by kernel_rfl) rfl (by kernel_rfl) ?_
  refine Dr.take (i := 13) (v := (i64 m.to)) (by kernel_rfl) (by kernel_rfl) (fun wz hS => Runs.load (t := 3) (a := ⟨b1, 3, none⟩) (by kernel_rfl) ((H4.keep hS (fun h => h)).loads (by kernel_rfl))) (d := (some 28)) (by kernel_rfl) rfl ?_
  refine Dr.takes (fuel' := 26) (is' := _) [14, 15, 16] [(0, (ptr r)), (3, (ptr b1)), (4, (Value.slice none 0 0)), (26, (Value.bool false)), (28, (i64 m.to)), (31, (Value.pointer (some ⟨r, 6, none⟩)))] (by kernel_rfl) rfl (by kernel_rfl) ?_
  refine Dr.take (i := 17) (v := (i64 q.me)) (by kernel_rfl) (by kernel_rfl) (fun wz hS => Runs.load (t := 3) (a := ⟨r, 6, none⟩) (by kernel_rfl) ((Hr.keep hS (fun h => h)).loads (by kernel_rfl))) (d := (some 32)) (by kernel_rfl) rfl ?_
  refine Dr.takes (fuel' := 22) (is' := _) [18, 19, 20] [(0, (ptr r)), (3, (ptr b1)), (4, (Value.slice none 0 0)), (35, (Value.bool (m.to != q.me)))] (by kernel_rfl) rfl (by kernel_rfl) ?_
  refine Dr.split (m.to != q.me) (fun h12 => ?_) (fun h12 => ?_)
  ·rw [h12]
   have p13 : ¬ (m.to = q.me) := of_bne_t h12
   refine Dr.takes (fuel' := 0) (is' := _) [21, 22, 23, 24, 25, 26, 27, 28, 29, 30, 31, 32, 33, 34, 35, 36, 37, 38, 39, 40, 41, 42] [(0, (ptr r)), (3, (ptr b1)), (4, (Value.slice none 0 0)), (57, (Value.bool true))] (by kernel_rfl) rfl (by kernel_rfl) ?_
   refine Dr.done (by kernel_rfl) ?_
   refine q_then (o := .tmp 57) (by kernel_rfl) rfl ?_
   refine qs ?_
   refine qg ?_
   refine og 1 [(0, (ptr r)), (3, (ptr b1)), (4, (Value.slice none 0 0))] 1 ?_
   refine od ?_
   refine q_ret (by kernel_rfl) ?_
   refine ⟨(Value.slice none 0 0), retv_tmp rfl rfl, ?_⟩
   exact ⟨s, .slice none 0 0, none, rfl, K0.mono (fun _ _ h => h.elim), (hF0.keep K0 (fun _ _ h => h)).wide (fun i hi => ⟨.inl hi, Nat.lt_of_lt_of_le (hFl i hi) K0.size⟩), rfl, .inl ⟨by unfold badM; omega, rfl, rfl⟩⟩
  ·rw [h12]
   have p14 : m.to = q.me := of_bne_f h12
   refine Dr.takes (fuel' := 21) (is' := _) [21] [(0, (ptr r)), (3, (ptr b1)), (4, (Value.slice none 0 0)), (35, (Value.bool false)), (36, (Value.pointer (some ⟨b1, 2, none⟩)))] (by kernel_rfl) rfl (by kernel_rfl) ?_
   refine Dr.take (i := 22) (v := (i64 m.frm)) (by kernel_rfl) (by kernel_rfl) (fun wz hS => Runs.load (t := 3) (a := ⟨b1, 2, none⟩) (by kernel_rfl) ((H4.keep hS (fun h => h)).loads (by kernel_rfl))) (d := (some 37)) (by kernel_rfl) rfl ?_
   refine Dr.takes (fuel' := 17) (is' := _) [23, 24, 25] [(0, (ptr r)), (3, (ptr b1)), (4, (Value.slice none 0 0)), (35, (Value.bool false)), (37, (i64 m.frm)), (40, (Value.pointer (some ⟨r, 6, none⟩)))] (by kernel_rfl) rfl (by kernel_rfl) ?_
   refine Dr.take (i := 26) (v := (i64 q.me)) (by kernel_rfl) (by kernel_rfl) (fun wz hS => Runs.load (t := 3) (a := ⟨r, 6, none⟩) (by kernel_rfl) ((Hr.keep hS (fun h => h)).loads (by kernel_rfl))) (d := (some 41)) (by kernel_rfl) rfl ?_
   refine Dr.takes (fuel' := 13) (is' := _) [27, 28, 29] [(0, (ptr r)), (3, (ptr b1)), (4, (Value.slice none 0 0)), (44, (Value.bool (m.frm == q.me)))] (by kernel_rfl) rfl (by kernel_rfl) ?_
   refine Dr.split (m.frm == q.me) (fun h15 => ?_) (fun h15 => ?_)
   ·rw [h15]
    have p16 : m.frm = q.me := of_beq_t h15
    refine Dr.takes (fuel' := 0) (is' := _) [30, 31, 32, 33, 34, 35, 36, 37, 38, 39, 40, 41, 42] [(0, (ptr r)), (3, (ptr b1)), (4, (Value.slice none 0 0)), (57, (Value.bool true))] (by kernel_rfl) rfl (by kernel_rfl) ?_
    refine Dr.done (by kernel_rfl) ?_
    refine q_then (o := .tmp 57) (by kernel_rfl) rfl ?_
    refine qs ?_
    refine qg ?_
    refine og 1 [(0, (ptr r)), (3, (ptr b1)), (4, (Value.slice none 0 0))] 1 ?_
    refine od ?_
    refine q_ret (by kernel_rfl) ?_
    refine ⟨(Value.slice none 0 0), retv_tmp rfl rfl, ?_⟩
    exact ⟨s, .slice none 0 0, none, rfl, K0.mono (fun _ _ h => h.elim), (hF0.keep K0 (fun _ _ h => h)).wide (fun i hi => ⟨.inl hi, Nat.lt_of_lt_of_le (hFl i hi) K0.size⟩), rfl, .inl ⟨by unfold badM; omega, rfl, rfl⟩⟩
   ·rw [h15]
    have p17 : ¬ (m.frm = q.me) := of_beq_f h15
    refine Dr.takes (fuel' := 12) (is' := _) [30] [(0, (ptr r)), (3, (ptr b1)), (4, (Value.slice none 0 0)), (44, (Value.bool false)), (45, (Value.pointer (some ⟨b1, 2, none⟩)))] (by kernel_rfl) rfl (by kernel_rfl) ?_
    refine Dr.take (i := 31) (v := (i64 m.frm)) (by kernel_rfl) (by kernel_rfl) (fun wz hS => Runs.load (t := 3) (a := ⟨b1, 2, none⟩) (by kernel_rfl) ((H4.keep hS (fun h => h)).loads (by kernel_rfl))) (d := (some 46)) (by kernel_rfl) rfl ?_
    refine Dr.takes (fuel' := 8) (is' := _) [32, 33, 34] [(0, (ptr r)), (3, (ptr b1)), (4, (Value.slice none 0 0)), (49, (Value.bool (decide (m.frm < 0))))] (by kernel_rfl) rfl (by kernel_rfl) ?_
    refine Dr.split (decide (m.frm < 0)) (fun h18 => ?_) (fun h18 => ?_)
    ·rw [h18]
     have p19 : m.frm < 0 := of_decide_eq_true h18
     refine Dr.takes (fuel' := 0) (is' := _) [35, 36, 37, 38, 39, 40, 41, 42] [(0, (ptr r)), (3, (ptr b1)), (4, (Value.slice none 0 0)), (57, (Value.bool true))] (by kernel_rfl) rfl (by kernel_rfl) ?_
     refine Dr.done (by kernel_rfl) ?_
     refine q_then (o := .tmp 57) (by kernel_rfl) rfl ?_
     refine qs ?_
     refine qg ?_
     refine og 1 [(0, (ptr r)), (3, (ptr b1)), (4, (Value.slice none 0 0))] 1 ?_
     refine od ?_
     refine q_ret (by kernel_rfl) ?_
     refine ⟨(Value.slice none 0 0), retv_tmp rfl rfl, ?_⟩
     exact ⟨s, .slice none 0 0, none, rfl, K0.mono (fun _ _ h => h.elim), (hF0.keep K0 (fun _ _ h => h)).wide (fun i hi => ⟨.inl hi, Nat.lt_of_lt_of_le (hFl i hi) K0.size⟩), rfl, .inl ⟨by unfold badM; omega, rfl, rfl⟩⟩
    ·rw [h18]
     have p20 : ¬ (m.frm < 0) := of_decide_eq_false h18
     refine Dr.takes (fuel' := 7) (is' := _) [35] [(0, (ptr r)), (3, (ptr b1)), (4, (Value.slice none 0 0)), (49, (Value.bool false)), (50, (Value.pointer (some ⟨b1, 2, none⟩)))] (by kernel_rfl) rfl (by kernel_rfl) ?_
     refine Dr.take (i := 36) (v := (i64 m.frm)) (by kernel_rfl) (by kernel_rfl) (fun wz hS => Runs.load (t := 3) (a := ⟨b1, 2, none⟩) (by kernel_rfl) ((H4.keep hS (fun h => h)).loads (by kernel_rfl))) (d := (some 51)) (by kernel_rfl) rfl ?_
     refine Dr.takes (fuel' := 3) (is' := _) [37, 38, 39] [(0, (ptr r)), (3, (ptr b1)), (4, (Value.slice none 0 0)), (49, (Value.bool false)), (51, (i64 m.frm)), (54, (Value.pointer (some ⟨r, 7, none⟩)))] (by kernel_rfl) rfl (by kernel_rfl) ?_
     refine Dr.take (i := 40) (v := (i64 q.n)) (by kernel_rfl) (by kernel_rfl) (fun wz hS => Runs.load (t := 3) (a := ⟨r, 7, none⟩) (by kernel_rfl) ((Hr.keep hS (fun h => h)).loads (by kernel_rfl))) (d := (some 55)) (by kernel_rfl) rfl ?_
     refine Dr.takes (fuel' := 0) (is' := _) [41, 42] [(0, (ptr r)), (3, (ptr b1)), (4, (Value.slice none 0 0)), (57, (Value.bool (decide (m.frm ≥ q.n))))] (by kernel_rfl) rfl (by kernel_rfl) ?_
     refine Dr.done (by kernel_rfl) ?_
     have h21 : (decide (m.frm ≥ q.n)) = true := decide_eq_true (by omega)
     rw [h21]
     refine q_then (o := .tmp 57) (by kernel_rfl) rfl ?_
     refine qs ?_
     refine qg ?_
     refine og 1 [(0, (ptr r)), (3, (ptr b1)), (4, (Value.slice none 0 0))] 1 ?_
     refine od ?_
     refine q_ret (by kernel_rfl) ?_
     refine ⟨(Value.slice none 0 0), retv_tmp rfl rfl, ?_⟩
     exact ⟨s, .slice none 0 0, none, rfl, K0.mono (fun _ _ h => h.elim), (hF0.keep K0 (fun _ _ h => h)).wide (fun i hi => ⟨.inl hi, Nat.lt_of_lt_of_le (hFl i hi) K0.size⟩), rfl, .inl ⟨by unfold badM; omega, rfl, rfl⟩⟩

set_option maxHeartbeats 4000000 in
theorem Step_bad2 (w : World) (F : Nat → Prop) (r : Nat) (q : FolQ) (s : FolS) (m : MsgP) (E : Option Addr) (ec : Nat) (D : Option Addr) (dc : Nat) (U : Nat → Prop) (hF : Fol w F r q s (.slice none 0 0)) (hFl : ∀ i, F i → i < w.heap.size) (hY : Ents w U (.slice E m.entries.length ec) m.entries) (hBigY : BigK (m.entries.map EntP.key)) (hYl : m.entries.length * 32 ≤ 140737488351232) (hm : m.Ok) (hUF : ∀ i, U i → ¬ F i) (hD : RdB w (.slice D m.data.length dc) m.data) (hDU : m.data ≠ [] → ∀ i, (Value.slice D m.data.length dc).ownBlock = some i → ¬ F i ∧ i < w.heap.size) (hdb : m.data.length ≤ 140737488351232) (hp : ¬ (m.group ≠ q.group ∨ m.to ≠ q.me ∨ m.frm = q.me ∨ m.frm < 0 ∨ q.n ≤ m.frm)) (hk : (m.kind < 1 ∨ 6 < m.kind)) : Calls Try.prog 20 ⟨[(ptr r), (MV m.kind m.ok m E ec D dc)]⟩ w (fun e w' => ∃ (s' : FolS) (ov : Value) (o : Option OutM), e = .returned ov ∧ Keeps F w w' ∧ Fol w' (fun i => (F i ∨ w.heap.size ≤ i) ∧ i < w'.heap.size) r q s' (.slice none 0 0) ∧ OutIs w' w.heap.size q ov o ∧ StepRel q m s s' o) := by
 have hF0 := hF
 obtain ⟨g, T, CF, A, c, l, kv, cv, came, Hr, H0, hE, hK, hKv, hCv, hT7, hK8, hC9, hrg, hFr, hFg, hOk⟩ := hF
 have Hg := H0.lt
 have Hrl := Hr.lt
 have hi0 := hm.kind
 have hi1 := hm.group
 have hi2 := hm.frm
 have hi3 := hm.to
 have hi4 := hm.term
 have hi5 := hm.index
 have hi6 := hm.logTerm
 have hi7 := hm.commit
 have K0 : Keeps none_ w w := Keeps.refl w
 refine q_calls Try.func20 (by kernel_rfl) (by kernel_rfl) ?_
 refine qs ?_
 refine qg ?_
 refine Ops.new (o := rowL [(i64 m.kind), (i64 m.group), (i64 m.frm), (i64 m.to), (i64 m.term), (i64 m.index), (i64 m.logTerm), (i64 m.commit), (Value.bool m.ok), (Value.slice E m.entries.length ec), (Value.slice D m.data.length dc)] 46) (V := fun b => (ptr b)) (by kernel_rfl) (d := (some 3)) (by kernel_rfl) (fun b => rfl) (fun b1 w2 hb3 H4 K5 hs6 => ?_)
 have lb1r : r < b1 := by have := Hr.lt; omega
 have lb1g : g < b1 := by have := H0.lt; omega
 have nb1 : w.heap.size ≤ b1 := by have := K0.size; omega
 replace K0 := K0.t0 K5
 replace Hr := Hr.keep K5 (fun h => h)
 replace H0 := H0.keep K5 (fun h => h)
 clear K5 hs6
 refine og 1 [(0, (ptr r)), (3, (ptr b1)), (4, (Value.slice none 0 0))] 2 ?_
 refine od ?_
 refine qs ?_
 refine qs ?_
 refine q_draw (fun wz => Keeps none_ w2 wz) 43 (by kernel_rfl) (by kernel_rfl) (by kernel_rfl) (fun w7 K8 _ _ => ⟨K8, ?_⟩)
 replace K0 := K0.t0 K8
 replace Hr := Hr.keep K8 (fun h => h)
 replace H0 := H0.keep K8 (fun h => h)
 replace H4 := H4.keep K8 (fun h => h)
 refine Dr.strong (S' := (fun wz => Keeps none_ w7 wz)) (Keeps.refl w7) (fun wz hx => K8.trans hx (fun i _ h => h) (fun _ _ h => h)) ?_
 clear K8
 refine Dr.takes (fuel' := 39) (is' := _) [0, 1, 2, 3] [(0, (ptr r)), (3, (ptr b1)), (4, (Value.slice none 0 0)), (17, (Value.bool false)), (18, (Value.pointer (some ⟨b1, 1, none⟩)))] (by kernel_rfl) rfl (by kernel_rfl) ?_
 refine Dr.take (i := 4) (v := (i64 m.group)) (by kernel_rfl) (by kernel_rfl) (fun wz hS => Runs.load (t := 3) (a := ⟨b1, 1, none⟩) (by kernel_rfl) ((H4.keep hS (fun h => h)).loads (by kernel_rfl))) (d := (some 19)) (by kernel_rfl) rfl ?_
 refine Dr.takes (fuel' := 35) (is' := _) [5, 6, 7] [(0, (ptr r)), (3, (ptr b1)), (4, (Value.slice none 0 0)), (17, (Value.bool false)), (19, (i64 m.group)), (22, (Value.pointer (some ⟨r, 5, none⟩)))] (by kernel_rfl) rfl (by kernel_rfl) ?_
 refine Dr.take (i := 8) (v := (i64 q.group)) (by kernel_rfl) (by kernel_rfl) (fun wz hS => Runs.load (t := 3) (a := ⟨r, 5, none⟩) (by kernel_rfl) ((Hr.keep hS (fun h => h)).loads (by kernel_rfl))) (d := (some 23)) (by kernel_rfl) rfl ?_
 refine Dr.takes (fuel' := 31) (is' := _) [9, 10, 11] [(0, (ptr r)), (3, (ptr b1)), (4, (Value.slice none 0 0)), (26, (Value.bool (m.group != q.group)))] (by kernel_rfl) rfl (by kernel_rfl) ?_
 have h9 : (m.group != q.group) = false := bne_f (by omega)
 rw [h9]
 refine Dr.takes (fuel' := 30) (is' := _) [12] [(0, (ptr r)), (3, (ptr b1)), (4, (Value.slice none 0 0)), (26, (Value.bool false)), (27, (Value.pointer (some ⟨b1, 3, none⟩)))] (by kernel_rfl) rfl (by kernel_rfl) ?_
 refine Dr.take (i := 13) (v := (i64 m.to)) (by kernel_rfl) (by kernel_rfl) (fun wz hS => Runs.load (t := 3) (a := ⟨b1, 3, none⟩) (by kernel_rfl) ((H4.keep hS (fun h => h)).loads (by kernel_rfl))) (d := (some 28)) (by kernel_rfl) rfl ?_
 refine Dr.takes (fuel' := 26) (is' := _) [14, 15, 16] [(0, (ptr r)), (3, (ptr b1)), (4, (Value.slice none 0 0)), (26, (Value.bool false)), (28, (i64 m.to)), (31, (Value.pointer (some ⟨r, 6, none⟩)))] (by kernel_rfl) rfl (by kernel_rfl) ?_
 refine Dr.take (i := 17) (v := (i64 q.me)) (by kernel_rfl) (by kernel_rfl) (fun wz hS => Runs.load (t := 3) (a := ⟨r, 6, none⟩) (by kernel_rfl) ((Hr.keep hS (fun h => h)).loads (by kernel_rfl))) (d := (some 32)) (by kernel_rfl) rfl ?_
 refine Dr.takes (fuel' := 22) (is' := _) [18, 19, 20] [(0, (ptr r)), (3, (ptr b1)), (4, (Value.slice none 0 0)), (35, (Value.bool (m.to != q.me)))] (by kernel_rfl) rfl (by kernel_rfl) ?_
 have h10 : (m.to != q.me) = false := bne_f (by omega)
 rw [h10]
 refine Dr.takes (fuel' := 21) (is' := _) [21] [(0, (ptr r)), (3, (ptr b1)), (4, (Value.slice none 0 0)), (35, (Value.bool false)), (36, (Value.pointer (some ⟨b1, 2, none⟩)))] (by kernel_rfl) rfl (by kernel_rfl) ?_
 refine Dr.take (i := 22) (v := (i64 m.frm)) (by kernel_rfl) (by kernel_rfl) (fun wz hS => Runs.load (t := 3) (a := ⟨b1, 2, none⟩) (by kernel_rfl) ((H4.keep hS (fun h => h)).loads (by kernel_rfl))) (d := (some 37)) (by kernel_rfl) rfl ?_
 refine Dr.takes (fuel' := 17) (is' := _) [23, 24, 25] [(0, (ptr r)), (3, (ptr b1)), (4, (Value.slice none 0 0)), (35, (Value.bool false)), (37, (i64 m.frm)), (40, (Value.pointer (some ⟨r, 6, none⟩)))] (by kernel_rfl) rfl (by kernel_rfl) ?_
 refine Dr.take (i := 26) (v := (i64 q.me)) (by kernel_rfl) (by kernel_rfl) (fun wz hS => Runs.load (t := 3) (a := ⟨r, 6, none⟩) (by kernel_rfl) ((Hr.keep hS (fun h => h)).loads (by kernel_rfl))) (d := (some 41)) (by kernel_rfl) rfl ?_
 refine Dr.takes (fuel' := 13) (is' := _) [27, 28, 29] [(0, (ptr r)), (3, (ptr b1)), (4, (Value.slice none 0 0)), (44, (Value.bool (m.frm == q.me)))] (by kernel_rfl) rfl (by kernel_rfl) ?_
 have h11 : (m.frm == q.me) = false := beq_f (by omega)
 rw [h11]
 refine Dr.takes (fuel' := 12) (is' := _) [30] [(0, (ptr r)), (3, (ptr b1)), (4, (Value.slice none 0 0)), (44, (Value.bool false)), (45, (Value.pointer (some ⟨b1, 2, none⟩)))] (by kernel_rfl) rfl (by kernel_rfl) ?_
 refine Dr.take (i := 31) (v := (i64 m.frm)) (by kernel_rfl) (by kernel_rfl) (fun wz hS => Runs.load (t := 3) (a := ⟨b1, 2, none⟩) (by kernel_rfl) ((H4.keep hS (fun h => h)).loads (by kernel_rfl))) (d := (some 46)) (by kernel_rfl) rfl ?_
 refine Dr.takes (fuel' := 8) (is' := _) [32, 33, 34] [(0, (ptr r)), (3, (ptr b1)), (4, (Value.slice none 0 0)), (49, (Value.bool (decide (m.frm < 0))))] (by kernel_rfl) rfl (by kernel_rfl) ?_
 have h12 : (decide (m.frm < 0)) = false := decide_eq_false (by omega)
 rw [h12]
 refine Dr.takes (fuel' := 7) (is' := _) [35] [(0, (ptr r)), (3, (ptr b1)), (4, (Value.slice none 0 0)), (49, (Value.bool false)), (50, (Value.pointer (some ⟨b1, 2, none⟩)))] (by kernel_rfl) rfl (by kernel_rfl) ?_
 refine Dr.take (i := 36) (v := (i64 m.frm)) (by kernel_rfl) (by kernel_rfl) (fun wz hS => Runs.load (t := 3) (a := ⟨b1, 2, none⟩) (by kernel_rfl) ((H4.keep hS (fun h => h)).loads (by kernel_rfl))) (d := (some 51)) (by kernel_rfl) rfl ?_
 refine Dr.takes (fuel' := 3) (is' := _) [37, 38, 39] [(0, (ptr r)), (3, (ptr b1)), (4, (Value.slice none 0 0)), (49, (Value.bool false)), (51, (i64 m.frm)), (54, (Value.pointer (some ⟨r, 7, none⟩)))] (by kernel_rfl) rfl (by kernel_rfl) ?_
 refine Dr.take (i := 40) (v := (i64 q.n)) (by kernel_rfl) (by kernel_rfl) (fun wz hS => Runs.load (t := 3) (a := ⟨r, 7, none⟩) (by kernel_rfl) ((Hr.keep hS (fun h => h)).loads (by kernel_rfl))) (d := (some 55)) (by kernel_rfl) rfl ?_
 refine Dr.takes (fuel' := 0) (is' := _) [41, 42] [(0, (ptr r)), (3, (ptr b1)), (4, (Value.slice none 0 0)), (57, (Value.bool (decide (m.frm ≥ q.n))))] (by kernel_rfl) rfl (by kernel_rfl) ?_
 refine Dr.done (by kernel_rfl) ?_
 have h13 : (decide (m.frm ≥ q.n)) = false := decide_eq_false (by omega)
 rw [h13]
 refine q_else (o := .tmp 57) (by kernel_rfl) rfl ?_
 refine q_skip (by kernel_rfl) ?_
 refine qs ?_
 refine qg ?_
 refine Ops.go (v := (MV m.kind m.ok m E ec D dc)) (by kernel_rfl) (Runs.load (t := 46) (a := ⟨b1, 0, none⟩) (by kernel_rfl) (H4.loads (by kernel_rfl))) (d := (some 58)) (by kernel_rfl) rfl ?_
 refine Ops.call (by kernel_rfl) (d := (some 59)) (by kernel_rfl) (kind0_calls _ m E ec D dc (by omega)) ?_
 rintro _ w15 ⟨rfl, K14⟩
 refine ⟨_, _, rfl, rfl, ?_⟩
 replace K0 := K0.t0 K14
 replace Hr := Hr.keep K14 (fun h => h)
 replace H0 := H0.keep K14 (fun h => h)
 replace H4 := H4.keep K14 (fun h => h)
 clear K14
 refine og 1 [(0, (ptr r)), (3, (ptr b1)), (4, (Value.slice none 0 0)), (5, Value.nilIface)] 3 ?_
 refine od ?_
 refine qs ?_
 refine qs ?_
 refine qg ?_
 refine og 26 [(0, (ptr r)), (3, (ptr b1)), (4, (Value.slice none 0 0)), (5, Value.nilIface), (85, (Value.bool true))] 26 ?_
 refine od ?_
 refine q_then (o := .tmp 85) (by kernel_rfl) rfl ?_
 refine qs ?_
 refine qg ?_
 refine og 1 [(0, (ptr r)), (3, (ptr b1)), (4, (Value.slice none 0 0)), (5, Value.nilIface)] 1 ?_
 refine od ?_
 refine q_ret (by kernel_rfl) ?_
 refine ⟨(Value.slice none 0 0), retv_tmp rfl rfl, ?_⟩
 exact ⟨s, .slice none 0 0, none, rfl, K0.mono (fun _ _ h => h.elim), (hF0.keep K0 (fun _ _ h => h)).wide (fun i hi => ⟨.inl hi, Nat.lt_of_lt_of_le (hFl i hi) K0.size⟩), rfl, .inl ⟨by unfold badM; omega, rfl, rfl⟩⟩

set_option maxHeartbeats 4000000 in
theorem Step_bad3 (w : World) (F : Nat → Prop) (r : Nat) (q : FolQ) (s : FolS) (m : MsgP) (E : Option Addr) (ec : Nat) (D : Option Addr) (dc : Nat) (U : Nat → Prop) (hF : Fol w F r q s (.slice none 0 0)) (hFl : ∀ i, F i → i < w.heap.size) (hY : Ents w U (.slice E m.entries.length ec) m.entries) (hBigY : BigK (m.entries.map EntP.key)) (hYl : m.entries.length * 32 ≤ 140737488351232) (hm : m.Ok) (hUF : ∀ i, U i → ¬ F i) (hD : RdB w (.slice D m.data.length dc) m.data) (hDU : m.data ≠ [] → ∀ i, (Value.slice D m.data.length dc).ownBlock = some i → ¬ F i ∧ i < w.heap.size) (hdb : m.data.length ≤ 140737488351232) (hp : ¬ (m.group ≠ q.group ∨ m.to ≠ q.me ∨ m.frm = q.me ∨ m.frm < 0 ∨ q.n ≤ m.frm)) (hk : ¬ (m.kind < 1 ∨ 6 < m.kind)) (hw : (m.term < 1 ∨ 1152921504606846976 < m.term ∨ m.index < 0 ∨ 1152921504606846976 < m.index ∨ m.logTerm < 0 ∨ 1152921504606846976 < m.logTerm ∨ m.commit < 0 ∨ 1152921504606846976 < m.commit)) : Calls Try.prog 20 ⟨[(ptr r), (MV m.kind m.ok m E ec D dc)]⟩ w (fun e w' => ∃ (s' : FolS) (ov : Value) (o : Option OutM), e = .returned ov ∧ Keeps F w w' ∧ Fol w' (fun i => (F i ∨ w.heap.size ≤ i) ∧ i < w'.heap.size) r q s' (.slice none 0 0) ∧ OutIs w' w.heap.size q ov o ∧ StepRel q m s s' o) := by
 have hF0 := hF
 obtain ⟨g, T, CF, A, c, l, kv, cv, came, Hr, H0, hE, hK, hKv, hCv, hT7, hK8, hC9, hrg, hFr, hFg, hOk⟩ := hF
 have Hg := H0.lt
 have Hrl := Hr.lt
 have hi0 := hm.kind
 have hi1 := hm.group
 have hi2 := hm.frm
 have hi3 := hm.to
 have hi4 := hm.term
 have hi5 := hm.index
 have hi6 := hm.logTerm
 have hi7 := hm.commit
 have K0 : Keeps none_ w w := Keeps.refl w
 refine q_calls Try.func20 (by kernel_rfl) (by kernel_rfl) ?_
 refine qs ?_
 refine qg ?_
 refine Ops.new (o := rowL [(i64 m.kind), (i64 m.group), (i64 m.frm), (i64 m.to), (i64 m.term), (i64 m.index), (i64 m.logTerm), (i64 m.commit), (Value.bool m.ok), (Value.slice E m.entries.length ec), (Value.slice D m.data.length dc)] 46) (V := fun b => (ptr b)) (by kernel_rfl) (d := (some 3)) (by kernel_rfl) (fun b => rfl) (fun b1 w2 hb3 H4 K5 hs6 => ?_)
 have lb1r : r < b1 := by have := Hr.lt; omega
 have lb1g : g < b1 := by have := H0.lt; omega
 have nb1 : w.heap.size ≤ b1 := by have := K0.size; omega
 replace K0 := K0.t0 K5
 replace Hr := Hr.keep K5 (fun h => h)
 replace H0 := H0.keep K5 (fun h => h)
 clear K5 hs6
 refine og 1 [(0, (ptr r)), (3, (ptr b1)), (4, (Value.slice none 0 0))] 2 ?_
 refine od ?_
 refine qs ?_
 refine qs ?_
 refine q_draw (fun wz => Keeps none_ w2 wz) 43 (by kernel_rfl) (by kernel_rfl) (by kernel_rfl) (fun w7 K8 _ _ => ⟨K8, ?_⟩)
 replace K0 := K0.t0 K8
 replace Hr := Hr.keep K8 (fun h => h)
 replace H0 := H0.keep K8 (fun h => h)
 replace H4 := H4.keep K8 (fun h => h)
 refine Dr.strong (S' := (fun wz => Keeps none_ w7 wz)) (Keeps.refl w7) (fun wz hx => K8.trans hx (fun i _ h => h) (fun _ _ h => h)) ?_
 clear K8
 refine Dr.takes (fuel' := 39) (is' := _) [0, 1, 2, 3] [(0, (ptr r)), (3, (ptr b1)), (4, (Value.slice none 0 0)), (17, (Value.bool false)), (18, (Value.pointer (some ⟨b1, 1, none⟩)))] (by kernel_rfl) rfl (by kernel_rfl) ?_
 refine Dr.take (i := 4) (v := (i64 m.group)) (by kernel_rfl) (by kernel_rfl) (fun wz hS => Runs.load (t := 3) (a := ⟨b1, 1, none⟩) (by kernel_rfl) ((H4.keep hS (fun h => h)).loads (by kernel_rfl))) (d := (some 19)) (by kernel_rfl) rfl ?_
 refine Dr.takes (fuel' := 35) (is' := _) [5, 6, 7] [(0, (ptr r)), (3, (ptr b1)), (4, (Value.slice none 0 0)), (17, (Value.bool false)), (19, (i64 m.group)), (22, (Value.pointer (some ⟨r, 5, none⟩)))] (by kernel_rfl) rfl (by kernel_rfl) ?_
 refine Dr.take (i := 8) (v := (i64 q.group)) (by kernel_rfl) (by kernel_rfl) (fun wz hS => Runs.load (t := 3) (a := ⟨r, 5, none⟩) (by kernel_rfl) ((Hr.keep hS (fun h => h)).loads (by kernel_rfl))) (d := (some 23)) (by kernel_rfl) rfl ?_
 refine Dr.takes (fuel' := 31) (is' := _) [9, 10, 11] [(0, (ptr r)), (3, (ptr b1)), (4, (Value.slice none 0 0)), (26, (Value.bool (m.group != q.group)))] (by kernel_rfl) rfl (by kernel_rfl) ?_
 have h9 : (m.group != q.group) = false := bne_f (by omega)
 rw [h9]
 refine Dr.takes (fuel' := 30) (is' := _) [12] [(0, (ptr r)), (3, (ptr b1)), (4, (Value.slice none 0 0)), (26, (Value.bool false)), (27, (Value.pointer (some ⟨b1, 3, none⟩)))] (by kernel_rfl) rfl (by kernel_rfl) ?_
 refine Dr.take (i := 13) (v := (i64 m.to)) (by kernel_rfl) (by kernel_rfl) (fun wz hS => Runs.load (t := 3) (a := ⟨b1, 3, none⟩) (by kernel_rfl) ((H4.keep hS (fun h => h)).loads (by kernel_rfl))) (d := (some 28)) (by kernel_rfl) rfl ?_
 refine Dr.takes (fuel' := 26) (is' := _) [14, 15, 16] [(0, (ptr r)), (3, (ptr b1)), (4, (Value.slice none 0 0)), (26, (Value.bool false)), (28, (i64 m.to)), (31, (Value.pointer (some ⟨r, 6, none⟩)))] (by kernel_rfl) rfl (by kernel_rfl) ?_
 refine Dr.take (i := 17) (v := (i64 q.me)) (by kernel_rfl) (by kernel_rfl) (fun wz hS => Runs.load (t := 3) (a := ⟨r, 6, none⟩) (by kernel_rfl) ((Hr.keep hS (fun h => h)).loads (by kernel_rfl))) (d := (some 32)) (by kernel_rfl) rfl ?_
 refine Dr.takes (fuel' := 22) (is' := _) [18, 19, 20] [(0, (ptr r)), (3, (ptr b1)), (4, (Value.slice none 0 0)), (35, (Value.bool (m.to != q.me)))] (by kernel_rfl) rfl (by kernel_rfl) ?_
 have h10 : (m.to != q.me) = false := bne_f (by omega)
 rw [h10]
 refine Dr.takes (fuel' := 21) (is' := _) [21] [(0, (ptr r)), (3, (ptr b1)), (4, (Value.slice none 0 0)), (35, (Value.bool false)), (36, (Value.pointer (some ⟨b1, 2, none⟩)))] (by kernel_rfl) rfl (by kernel_rfl) ?_
 refine Dr.take (i := 22) (v := (i64 m.frm)) (by kernel_rfl) (by kernel_rfl) (fun wz hS => Runs.load (t := 3) (a := ⟨b1, 2, none⟩) (by kernel_rfl) ((H4.keep hS (fun h => h)).loads (by kernel_rfl))) (d := (some 37)) (by kernel_rfl) rfl ?_
 refine Dr.takes (fuel' := 17) (is' := _) [23, 24, 25] [(0, (ptr r)), (3, (ptr b1)), (4, (Value.slice none 0 0)), (35, (Value.bool false)), (37, (i64 m.frm)), (40, (Value.pointer (some ⟨r, 6, none⟩)))] (by kernel_rfl) rfl (by kernel_rfl) ?_
 refine Dr.take (i := 26) (v := (i64 q.me)) (by kernel_rfl) (by kernel_rfl) (fun wz hS => Runs.load (t := 3) (a := ⟨r, 6, none⟩) (by kernel_rfl) ((Hr.keep hS (fun h => h)).loads (by kernel_rfl))) (d := (some 41)) (by kernel_rfl) rfl ?_
 refine Dr.takes (fuel' := 13) (is' := _) [27, 28, 29] [(0, (ptr r)), (3, (ptr b1)), (4, (Value.slice none 0 0)), (44, (Value.bool (m.frm == q.me)))] (by kernel_rfl) rfl (by kernel_rfl) ?_
 have h11 : (m.frm == q.me) = false := beq_f (by omega)
 rw [h11]
 refine Dr.takes (fuel' := 12) (is' := _) [30] [(0, (ptr r)), (3, (ptr b1)), (4, (Value.slice none 0 0)), (44, (Value.bool false)), (45, (Value.pointer (some ⟨b1, 2, none⟩)))] (by kernel_rfl) rfl (by kernel_rfl) ?_
 refine Dr.take (i := 31) (v := (i64 m.frm)) (by kernel_rfl) (by kernel_rfl) (fun wz hS => Runs.load (t := 3) (a := ⟨b1, 2, none⟩) (by kernel_rfl) ((H4.keep hS (fun h => h)).loads (by kernel_rfl))) (d := (some 46)) (by kernel_rfl) rfl ?_
 refine Dr.takes (fuel' := 8) (is' := _) [32, 33, 34] [(0, (ptr r)), (3, (ptr b1)), (4, (Value.slice none 0 0)), (49, (Value.bool (decide (m.frm < 0))))] (by kernel_rfl) rfl (by kernel_rfl) ?_
 have h12 : (decide (m.frm < 0)) = false := decide_eq_false (by omega)
 rw [h12]
 refine Dr.takes (fuel' := 7) (is' := _) [35] [(0, (ptr r)), (3, (ptr b1)), (4, (Value.slice none 0 0)), (49, (Value.bool false)), (50, (Value.pointer (some ⟨b1, 2, none⟩)))] (by kernel_rfl) rfl (by kernel_rfl) ?_
 refine Dr.take (i := 36) (v := (i64 m.frm)) (by kernel_rfl) (by kernel_rfl) (fun wz hS => Runs.load (t := 3) (a := ⟨b1, 2, none⟩) (by kernel_rfl) ((H4.keep hS (fun h => h)).loads (by kernel_rfl))) (d := (some 51)) (by kernel_rfl) rfl ?_
 refine Dr.takes (fuel' := 3) (is' := _) [37, 38, 39] [(0, (ptr r)), (3, (ptr b1)), (4, (Value.slice none 0 0)), (49, (Value.bool false)), (51, (i64 m.frm)), (54, (Value.pointer (some ⟨r, 7, none⟩)))] (by kernel_rfl) rfl (by kernel_rfl) ?_
 refine Dr.take (i := 40) (v := (i64 q.n)) (by kernel_rfl) (by kernel_rfl) (fun wz hS => Runs.load (t := 3) (a := ⟨r, 7, none⟩) (by kernel_rfl) ((Hr.keep hS (fun h => h)).loads (by kernel_rfl))) (d := (some 55)) (by kernel_rfl) rfl ?_
 refine Dr.takes (fuel' := 0) (is' := _) [41, 42] [(0, (ptr r)), (3, (ptr b1)), (4, (Value.slice none 0 0)), (57, (Value.bool (decide (m.frm ≥ q.n))))] (by kernel_rfl) rfl (by kernel_rfl) ?_
 refine Dr.done (by kernel_rfl) ?_
 have h13 : (decide (m.frm ≥ q.n)) = false := decide_eq_false (by omega)
 rw [h13]
 refine q_else (o := .tmp 57) (by kernel_rfl) rfl ?_
 refine q_skip (by kernel_rfl) ?_
 refine qs ?_
 refine qg ?_
 refine Ops.go (v := (MV m.kind m.ok m E ec D dc)) (by kernel_rfl) (Runs.load (t := 46) (a := ⟨b1, 0, none⟩) (by kernel_rfl) (H4.loads (by kernel_rfl))) (d := (some 58)) (by kernel_rfl) rfl ?_
 refine Ops.call (by kernel_rfl) (d := (some 59)) (by kernel_rfl) (kindX_calls _ m E ec D dc hk) ?_
 rintro _ w15 ⟨t9, x9, rfl, K14, hki⟩
 refine ⟨_, _, rfl, rfl, ?_⟩
 replace K0 := K0.t0 K14
 replace Hr := Hr.keep K14 (fun h => h)
 replace H0 := H0.keep K14 (fun h => h)
 replace H4 := H4.keep K14 (fun h => h)
 clear K14
 refine og 1 [(0, (ptr r)), (3, (ptr b1)), (4, (Value.slice none 0 0)), (5, (Value.iface t9 x9))] 3 ?_
 refine od ?_
 refine qs ?_
 refine qs ?_
 refine qg ?_
 refine og 4 [(0, (ptr r)), (3, (ptr b1)), (4, (Value.slice none 0 0)), (5, (Value.iface t9 x9)), (62, (Value.bool false)), (63, (Value.pointer (some ⟨b1, 4, none⟩)))] 4 ?_
 refine Ops.go (v := (i64 m.term)) (by kernel_rfl) (Runs.load (t := 2) (a := ⟨b1, 4, none⟩) (by kernel_rfl) (H4.loads (by kernel_rfl))) (d := (some 64)) (by kernel_rfl) rfl ?_
 refine Ops.call (by kernel_rfl) (d := (some 65)) (by kernel_rfl) (within_calls _ m.term 1 1152921504606846976) ?_
 rintro _ w19 ⟨t16, rfl, ht17, K18⟩
 refine ⟨_, _, rfl, rfl, ?_⟩
 replace K0 := K0.t0 K18
 replace Hr := Hr.keep K18 (fun h => h)
 replace H0 := H0.keep K18 (fun h => h)
 replace H4 := H4.keep K18 (fun h => h)
 clear K18
 refine og 3 [(0, (ptr r)), (3, (ptr b1)), (4, (Value.slice none 0 0)), (5, (Value.iface t9 x9)), (68, (Value.bool (!t16)))] 9 ?_
 refine Ops.split (!t16) (fun h20 => ?_) (fun h20 => ?_)
 ·rw [h20]
  have p21 : t16 = false := (bnot_true h20)
  try rw [p21]
  have hwt16 := mt ht17.2 (by rw [(bnot_true h20)]; decide)
  refine og 17 [(0, (ptr r)), (3, (ptr b1)), (4, (Value.slice none 0 0)), (5, (Value.iface t9 x9)), (85, (Value.bool true))] 26 ?_
  refine od ?_
  refine q_then (o := .tmp 85) (by kernel_rfl) rfl ?_
  refine qs ?_
  refine qg ?_
  refine og 1 [(0, (ptr r)), (3, (ptr b1)), (4, (Value.slice none 0 0)), (5, (Value.iface t9 x9))] 1 ?_
  refine od ?_
  refine q_ret (by kernel_rfl) ?_
  refine ⟨(Value.slice none 0 0), retv_tmp rfl rfl, ?_⟩
  exact ⟨s, .slice none 0 0, none, rfl, K0.mono (fun _ _ h => h.elim), (hF0.keep K0 (fun _ _ h => h)).wide (fun i hi => ⟨.inl hi, Nat.lt_of_lt_of_le (hFl i hi) K0.size⟩), rfl, .inl ⟨by unfold badM; omega, rfl, rfl⟩⟩
 ·rw [h20]
  have p22 : t16 = true := (bnot_false h20)
  try rw [p22]
  have hwt16 := ht17.1 (bnot_false h20)
  refine og 1 [(0, (ptr r)), (3, (ptr b1)), (4, (Value.slice none 0 0)), (5, (Value.iface t9 x9)), (68, (Value.bool false)), (69, (Value.pointer (some ⟨b1, 5, none⟩)))] 10 ?_
  refine Ops.go (v := (i64 m.index)) (by kernel_rfl) (Runs.load (t := 2) (a := ⟨b1, 5, none⟩) (by kernel_rfl) (H4.loads (by kernel_rfl))) (d := (some 70)) (by kernel_rfl) rfl ?_
  refine Ops.call (by kernel_rfl) (d := (some 71)) (by kernel_rfl) (within_calls _ m.index 0 1152921504606846976) ?_
  rintro _ w26 ⟨t23, rfl, ht24, K25⟩
  refine ⟨_, _, rfl, rfl, ?_⟩
  replace K0 := K0.t0 K25
  replace Hr := Hr.keep K25 (fun h => h)
  replace H0 := H0.keep K25 (fun h => h)
  replace H4 := H4.keep K25 (fun h => h)
  clear K25
  refine og 3 [(0, (ptr r)), (3, (ptr b1)), (4, (Value.slice none 0 0)), (5, (Value.iface t9 x9)), (74, (Value.bool (!t23)))] 15 ?_
  refine Ops.split (!t23) (fun h27 => ?_) (fun h27 => ?_)
  ·rw [h27]
   have p28 : t23 = false := (bnot_true h27)
   try rw [p28]
   have hwt23 := mt ht24.2 (by rw [(bnot_true h27)]; decide)
   refine og 11 [(0, (ptr r)), (3, (ptr b1)), (4, (Value.slice none 0 0)), (5, (Value.iface t9 x9)), (85, (Value.bool true))] 26 ?_
   refine od ?_
   refine q_then (o := .tmp 85) (by kernel_rfl) rfl ?_
   refine qs ?_
   refine qg ?_
   refine og 1 [(0, (ptr r)), (3, (ptr b1)), (4, (Value.slice none 0 0)), (5, (Value.iface t9 x9))] 1 ?_
   refine od ?_
   refine q_ret (by kernel_rfl) ?_
   refine ⟨(Value.slice none 0 0), retv_tmp rfl rfl, ?_⟩
   exact ⟨s, .slice none 0 0, none, rfl, K0.mono (fun _ _ h => h.elim), (hF0.keep K0 (fun _ _ h => h)).wide (fun i hi => ⟨.inl hi, Nat.lt_of_lt_of_le (hFl i hi) K0.size⟩), rfl, .inl ⟨by unfold badM; omega, rfl, rfl⟩⟩
  ·rw [h27]
   have p29 : t23 = true := (bnot_false h27)
   try rw [p29]
   have hwt23 := ht24.1 (bnot_false h27)
   refine og 1 [(0, (ptr r)), (3, (ptr b1)), (4, (Value.slice none 0 0)), (5, (Value.iface t9 x9)), (74, (Value.bool false)), (75, (Value.pointer (some ⟨b1, 6, none⟩)))] 16 ?_
   refine Ops.go (v := (i64 m.logTerm)) (by kernel_rfl) (Runs.load (t := 2) (a := ⟨b1, 6, none⟩) (by kernel_rfl) (H4.loads (by kernel_rfl))) (d := (some 76)) (by kernel_rfl) rfl ?_
   refine Ops.call (by kernel_rfl) (d := (some 77)) (by kernel_rfl) (within_calls _ m.logTerm 0 1152921504606846976) ?_
   rintro _ w33 ⟨t30, rfl, ht31, K32⟩
   refine ⟨_, _, rfl, rfl, ?_⟩
   replace K0 := K0.t0 K32
   replace Hr := Hr.keep K32 (fun h => h)
   replace H0 := H0.keep K32 (fun h => h)
   replace H4 := H4.keep K32 (fun h => h)
   clear K32
   refine og 3 [(0, (ptr r)), (3, (ptr b1)), (4, (Value.slice none 0 0)), (5, (Value.iface t9 x9)), (80, (Value.bool (!t30)))] 21 ?_
   refine Ops.split (!t30) (fun h34 => ?_) (fun h34 => ?_)
   ·rw [h34]
    have p35 : t30 = false := (bnot_true h34)
    try rw [p35]
    have hwt30 := mt ht31.2 (by rw [(bnot_true h34)]; decide)
    refine og 5 [(0, (ptr r)), (3, (ptr b1)), (4, (Value.slice none 0 0)), (5, (Value.iface t9 x9)), (85, (Value.bool true))] 26 ?_
    refine od ?_
    refine q_then (o := .tmp 85) (by kernel_rfl) rfl ?_
    refine qs ?_
    refine qg ?_
    refine og 1 [(0, (ptr r)), (3, (ptr b1)), (4, (Value.slice none 0 0)), (5, (Value.iface t9 x9))] 1 ?_
    refine od ?_
    refine q_ret (by kernel_rfl) ?_
    refine ⟨(Value.slice none 0 0), retv_tmp rfl rfl, ?_⟩
    exact ⟨s, .slice none 0 0, none, rfl, K0.mono (fun _ _ h => h.elim), (hF0.keep K0 (fun _ _ h => h)).wide (fun i hi => ⟨.inl hi, Nat.lt_of_lt_of_le (hFl i hi) K0.size⟩), rfl, .inl ⟨by unfold badM; omega, rfl, rfl⟩⟩
   ·rw [h34]
    have p36 : t30 = true := (bnot_false h34)
    try rw [p36]
    have hwt30 := ht31.1 (bnot_false h34)
    refine og 1 [(0, (ptr r)), (3, (ptr b1)), (4, (Value.slice none 0 0)), (5, (Value.iface t9 x9)), (80, (Value.bool false)), (81, (Value.pointer (some ⟨b1, 7, none⟩)))] 22 ?_
    refine Ops.go (v := (i64 m.commit)) (by kernel_rfl) (Runs.load (t := 2) (a := ⟨b1, 7, none⟩) (by kernel_rfl) (H4.loads (by kernel_rfl))) (d := (some 82)) (by kernel_rfl) rfl ?_
    refine Ops.call (by kernel_rfl) (d := (some 83)) (by kernel_rfl) (within_calls _ m.commit 0 1152921504606846976) ?_
    rintro _ w40 ⟨t37, rfl, ht38, K39⟩
    refine ⟨_, _, rfl, rfl, ?_⟩
    replace K0 := K0.t0 K39
    replace Hr := Hr.keep K39 (fun h => h)
    replace H0 := H0.keep K39 (fun h => h)
    replace H4 := H4.keep K39 (fun h => h)
    clear K39
    refine og 2 [(0, (ptr r)), (3, (ptr b1)), (4, (Value.slice none 0 0)), (5, (Value.iface t9 x9)), (85, (Value.bool (!t37)))] 26 ?_
    refine od ?_
    have h41 : (!t37) = true := by rw [show t37 = false from Bool.eq_false_iff.2 (fun z => by have := ht38.1 z; omega)]; rfl
    rw [h41]
    refine q_then (o := .tmp 85) (by kernel_rfl) rfl ?_
    refine qs ?_
    refine qg ?_
    refine og 1 [(0, (ptr r)), (3, (ptr b1)), (4, (Value.slice none 0 0)), (5, (Value.iface t9 x9))] 1 ?_
    refine od ?_
    refine q_ret (by kernel_rfl) ?_
    refine ⟨(Value.slice none 0 0), retv_tmp rfl rfl, ?_⟩
    exact ⟨s, .slice none 0 0, none, rfl, K0.mono (fun _ _ h => h.elim), (hF0.keep K0 (fun _ _ h => h)).wide (fun i hi => ⟨.inl hi, Nat.lt_of_lt_of_le (hFl i hi) K0.size⟩), rfl, .inl ⟨by unfold badM; omega, rfl, rfl⟩⟩

set_option maxHeartbeats 4000000 in
theorem Step_vote (w : World) (F : Nat → Prop) (r : Nat) (q : FolQ) (s : FolS) (m : MsgP) (E : Option Addr) (ec : Nat) (D : Option Addr) (dc : Nat) (U : Nat → Prop) (hF : Fol w F r q s (.slice none 0 0)) (hY : Ents w U (.slice E m.entries.length ec) m.entries) (hBigY : BigK (m.entries.map EntP.key)) (hYl : m.entries.length * 32 ≤ 140737488351232) (hUF : ∀ i, U i → ¬ F i) (hD : RdB w (.slice D m.data.length dc) m.data) (hDU : m.data ≠ [] → ∀ i, (Value.slice D m.data.length dc).ownBlock = some i → ¬ F i ∧ i < w.heap.size) (hdb : m.data.length ≤ 140737488351232) (hb2 : ¬ ((m.group ≠ q.group ∨ m.to ≠ q.me ∨ m.frm = q.me ∨ m.frm < 0 ∨ q.n ≤ m.frm) ∨ (m.term < 1 ∨ 1152921504606846976 < m.term ∨ m.index < 0 ∨ 1152921504606846976 < m.index ∨ m.logTerm < 0 ∨ 1152921504606846976 < m.logTerm ∨ m.commit < 0 ∨ 1152921504606846976 < m.commit))) (hnow : m.term ≤ s.term) (hk : m.kind = 1) : wp Try.prog Try.f20.ntmps (cd Try.f20 [1, 1, 1, 1, 1]) (retQ Try.prog Try.f20 (fun e w' => ∃ (s' : FolS) (ov : Value) (o : Option OutM), e = .returned ov ∧ Keeps F w w' ∧ Fol w' (fun i => (F i ∨ w.heap.size ≤ i) ∧ i < w'.heap.size) r q s' (.slice none 0 0) ∧ OutIs w' w.heap.size q ov o ∧ s'.term = s.term ∧ s.commit ≤ s'.commit ∧ (0 ≤ s.voted → s'.voted = s.voted) ∧ ∀ x, o = some x → x.kind = 2 → x.ok = true → x.term = s'.term ∧ x.to = s'.voted ∧ 0 ≤ s'.voted ∧ s'.base = s.base ∧ s'.old = s.old ∧ s'.ks = s.ks ∧ (lastK s.base s.old s.ks < m.logTerm ∨ m.logTerm = lastK s.base s.old s.ks ∧ s.base + ((s.ks.length : Nat) : Int) ≤ m.index))) [(0, (ptr r)), (4, (Value.slice none 0 0)), (5, (Value.iface 98 (MV 1 m.ok m E ec D dc)))] w := by
 obtain ⟨g, T, CF, A, c, l, kv, cv, came, Hr, H0, hE, hK, hKv, hCv, hT7, hK8, hC9, hrg, hFr, hFg, hOk⟩ := hF
 have hC0 := hCv.1
 have hT : ∀ i, T i → i ≠ g := fun i hi => (hT7 i hi).2.1
 have hrT : ∀ i, T i → i ≠ r := fun i hi => (hT7 i hi).1
 have hL : l.length ≤ 4096 := by have z := hOk.len; rw [← hK, List.length_map] at z; exact z
 have hBig : BigK (l.map EntP.key) := by rw [hK]; exact hOk.big
 have hB := hOk.base
 have hCm := hOk.commit
 have hKr : ∀ i, KF kv i → i ≠ r := fun i hi => (hK8 i hi).1
 have hKg : ∀ i, KF kv i → i ≠ g := fun i hi => (hK8 i hi).2.1
 have hcap := Ents.len hE
 have Hg := H0.lt
 have Hrl := Hr.lt
 have hCr : ∀ i, CF i → i ≠ r := fun i hi => (hC9 i hi).1
 have hCg : ∀ i, CF i → i ≠ g := fun i hi => (hC9 i hi).2.1
 have hUr : ∀ i, U i → i ≠ r := fun i hi h => hUF i hi (h ▸ hFr)
 have hUg : ∀ i, U i → i ≠ g := fun i hi h => hUF i hi (h ▸ hFg)
 have K0 : Keeps (fun i => i = r) w w := (Keeps.refl w).mono (fun _ _ h => h.elim)
 refine qs ?_
 refine q_draw (fun wz => Keeps none_ w wz) 10 (by kernel_rfl) (by kernel_rfl) (by kernel_rfl) (fun w1 K2 _ _ => ⟨K2, ?_⟩)
 replace K0 := K0.tn K2
 replace Hr := Hr.keep K2 (fun h => h)
 refine Dr.strong (S' := (fun wz => Keeps none_ w1 wz)) (Keeps.refl w1) (fun wz hx => K2.trans hx (fun i _ h => h) (fun _ _ h => h)) ?_
 clear K2
 refine Dr.takes (fuel' := 5) (is' := _) [0, 3, 4, 5, 6] [(0, (ptr r)), (4, (Value.slice none 0 0)), (5, (Value.iface 98 (MV 1 m.ok m E ec D dc))), (112, (Value.iface 98 (MV 1 m.ok m E ec D dc))), (118, (ptr r))] (by kernel_rfl) rfl (by kernel_rfl) ?_
 refine Dr.take (i := 7) (v := (i64 s.term)) (by kernel_rfl) (by kernel_rfl) (fun wz hS => Runs.load (t := 2) (a := ⟨r, 0, none⟩) (by kernel_rfl) ((Hr.keep hS (fun h => h)).loads (by kernel_rfl))) (d := (some 119)) (by kernel_rfl) rfl ?_
 refine Dr.call (i := 1) (by kernel_rfl) (by kernel_rfl) (d := (some 113)) (by kernel_rfl) (fun _ => of1_calls _ m E ec D dc) ?_
 rintro _ w4 ⟨rfl, K3⟩
 replace K0 := K0.tn K3
 replace Hr := Hr.keep K3 (fun h => h)
 refine ⟨_, _, rfl, rfl, K3, ?_⟩
 refine Dr.strong (S' := (fun wz => Keeps none_ w4 wz)) (Keeps.refl w4) (fun wz hx => K3.trans hx (fun i _ h => h) (fun _ _ h => h)) ?_
 clear K3
 refine Dr.takes (fuel' := 0) (is' := _) [2, 8, 9] [(0, (ptr r)), (4, (Value.slice none 0 0)), (5, (Value.iface 98 (MV 1 m.ok m E ec D dc))), (6, (Value.bool (m.term == s.term)))] (by kernel_rfl) rfl (by kernel_rfl) ?_
 refine Dr.done (by kernel_rfl) ?_
 refine qs ?_
 refine qs ?_
 refine qg ?_
 refine og 1 [(0, (ptr r)), (4, (Value.slice none 0 0)), (6, (Value.bool (m.term == s.term))), (121, (Value.iface 98 (MV 1 m.ok m E ec D dc)))] 1 ?_
 refine od ?_
 refine q_block (id := 0) (by kernel_rfl) ?_
 refine qs ?_
 refine qg ?_
 refine og 3 [(0, (ptr r)), (4, (Value.slice none 0 0)), (6, (Value.bool (m.term == s.term))), (121, (Value.iface 98 (MV 1 m.ok m E ec D dc))), (123, (Value.bool true)), (124, (MV 1 m.ok m E ec D dc))] 3 ?_
 refine od ?_
 refine q_then (o := .tmp 123) (by kernel_rfl) rfl ?_
 refine qs ?_
 refine qg ?_
 refine Ops.new (o := rowL [(i64 0), (i64 0), (i64 0), (i64 0), (i64 0), (i64 0), (i64 0), (i64 0), (Value.bool false), (Value.slice none 0 0), (Value.slice none 0 0)] 98) (V := fun b => (ptr b)) (by kernel_rfl) (d := (some 7)) (by kernel_rfl) (fun b => rfl) (fun b5 w6 hb7 H8 K9 hs10 => ?_)
 have lb5r : r < b5 := by have := Hr.lt; omega
 have lb5g : g < b5 := by have := (H0.keep K0 (fun h => hrg h.symm)).lt; omega
 have nb5 : w.heap.size ≤ b5 := by have := K0.size; omega
 have ot11 : ∀ i, T i → i ≠ b5 := fun i hi => by have := Ents.lt (Ents.keep hE K0 hrT) i hi; omega
 have of12 : ∀ i, (KF kv) i → i ≠ b5 := fun i hi => by have := ImgK.lt (ImgK.keep hKv K0 hKr) i hi; omega
 have of13 : ∀ i, CF i → i ≠ b5 := fun i hi => by have := (ImgC.keep hCv K0 hCr).1 i hi; omega
 have ot14 : ∀ i, U i → i ≠ b5 := fun i hi => by have := Ents.lt (Ents.keep hY K0 hUr) i hi; omega
 replace K0 := K0.tn K9
 replace Hr := Hr.keep K9 (fun h => h)
 clear K9 hs10
 refine Ops.put (t := 98) (b := b5) (off := 0) (v := (MV 1 m.ok m E ec D dc)) (ys := [(i64 1), (i64 m.group), (i64 m.frm), (i64 m.to), (i64 m.term), (i64 m.index), (i64 m.logTerm), (i64 m.commit), (Value.bool m.ok), (Value.slice E m.entries.length ec), (Value.slice D m.data.length dc)]) (by kernel_rfl) (by kernel_rfl) H8 (by kernel_rfl) (d := none) (by kernel_rfl) rfl (fun w15 H16 K17 => ?_)
 clear H8
 replace K0 := K0.trans K17 (U := (fun i => i = r)) (fun i h1 h2 => h2) (fun i h1 h2 => by have h2 : i = b5 := h2; show i = r; omega)
 replace Hr := Hr.k1 K17 (by omega)
 clear K17
 refine od ?_
 refine qs ?_
 refine q_draw (fun wz => Keeps none_ w15 wz) 34 (by kernel_rfl) (by kernel_rfl) (by kernel_rfl) (fun w18 K19 _ _ => ⟨K19, ?_⟩)
 replace K0 := K0.tn K19
 replace Hr := Hr.keep K19 (fun h => h)
 replace H16 := H16.keep K19 (fun h => h)
 refine Dr.strong (S' := (fun wz => Keeps none_ w18 wz)) (Keeps.refl w18) (fun wz hx => K19.trans hx (fun i _ h => h) (fun _ _ h => h)) ?_
 clear K19
 refine Dr.takes (fuel' := 32) (is' := _) [0, 1] [(0, (ptr r)), (4, (Value.slice none 0 0)), (6, (Value.bool (m.term == s.term))), (7, (ptr b5)), (121, (Value.iface 98 (MV 1 m.ok m E ec D dc))), (126, (Value.bool (m.term == s.term)))] (by kernel_rfl) rfl (by kernel_rfl) ?_
 refine Dr.split (m.term == s.term) (fun h20 => ?_) (fun h20 => ?_)
 ·rw [h20]
  have p21 : m.term = s.term := of_beq_t h20
  refine Dr.takes (fuel' := 28) (is' := _) [2, 3, 4, 5] [(0, (ptr r)), (4, (Value.slice none 0 0)), (6, (Value.bool true)), (7, (ptr b5)), (121, (Value.iface 98 (MV 1 m.ok m E ec D dc))), (126, (Value.bool true)), (130, (Value.pointer (some ⟨r, 1, none⟩)))] (by kernel_rfl) rfl (by kernel_rfl) ?_
  refine Dr.take (i := 6) (v := (i64 s.voted)) (by kernel_rfl) (by kernel_rfl) (fun wz hS => Runs.load (t := 3) (a := ⟨r, 1, none⟩) (by kernel_rfl) ((Hr.keep hS (fun h => h)).loads (by kernel_rfl))) (d := (some 131)) (by kernel_rfl) rfl ?_
  refine Dr.takes (fuel' := 25) (is' := _) [7, 8] [(0, (ptr r)), (4, (Value.slice none 0 0)), (6, (Value.bool true)), (7, (ptr b5)), (121, (Value.iface 98 (MV 1 m.ok m E ec D dc))), (126, (Value.bool true)), (133, (Value.bool (s.voted == (-1))))] (by kernel_rfl) rfl (by kernel_rfl) ?_
  refine Dr.split (s.voted == (-1)) (fun h22 => ?_) (fun h22 => ?_)
  ·rw [h22]
   have p23 : s.voted = (-1) := of_beq_t h22
   refine Dr.takes (fuel' := 10) (is' := _) [9, 10, 11, 12, 13, 14, 15, 16, 17, 18, 19, 20, 21, 22, 23] [(0, (ptr r)), (4, (Value.slice none 0 0)), (6, (Value.bool true)), (7, (ptr b5)), (121, (Value.iface 98 (MV 1 m.ok m E ec D dc))), (145, (Value.bool true)), (148, (Value.pointer (some ⟨r, 8, none⟩)))] (by kernel_rfl) rfl (by kernel_rfl) ?_
   refine Dr.take (i := 24) (v := (ptr g)) (by kernel_rfl) (by kernel_rfl) (fun wz hS => Runs.load (t := 24) (a := ⟨r, 8, none⟩) (by kernel_rfl) ((Hr.keep hS (fun h => h)).loads (by kernel_rfl))) (d := (some 149)) (by kernel_rfl) rfl ?_
   refine Dr.takes (fuel' := 7) (is' := _) [25, 26] [(0, (ptr r)), (4, (Value.slice none 0 0)), (6, (Value.bool true)), (7, (ptr b5)), (121, (Value.iface 98 (MV 1 m.ok m E ec D dc))), (145, (Value.bool true)), (149, (ptr g)), (151, (Value.pointer (some ⟨b5, 5, none⟩)))] (by kernel_rfl) rfl (by kernel_rfl) ?_
   refine Dr.take (i := 27) (v := (i64 m.index)) (by kernel_rfl) (by kernel_rfl) (fun wz hS => Runs.load (t := 2) (a := ⟨b5, 5, none⟩) (by kernel_rfl) ((H16.keep hS (fun h => h)).loads (by kernel_rfl))) (d := (some 152)) (by kernel_rfl) rfl ?_
   refine Dr.takes (fuel' := 4) (is' := _) [28, 29] [(0, (ptr r)), (4, (Value.slice none 0 0)), (6, (Value.bool true)), (7, (ptr b5)), (121, (Value.iface 98 (MV 1 m.ok m E ec D dc))), (145, (Value.bool true)), (149, (ptr g)), (152, (i64 m.index)), (154, (Value.pointer (some ⟨b5, 6, none⟩)))] (by kernel_rfl) rfl (by kernel_rfl) ?_
   refine Dr.take (i := 30) (v := (i64 m.logTerm)) (by kernel_rfl) (by kernel_rfl) (fun wz hS => Runs.load (t := 2) (a := ⟨b5, 6, none⟩) (by kernel_rfl) ((H16.keep hS (fun h => h)).loads (by kernel_rfl))) (d := (some 155)) (by kernel_rfl) rfl ?_
   refine Dr.call (i := 31) (by kernel_rfl) (by kernel_rfl) (d := (some 156)) (by kernel_rfl) (fun _ => Newer_calls _ T g s.base s.old A c l m.index m.logTerm (H0.keep K0 (fun h => hrg h.symm)) (Ents.keep hE K0 hrT) hT (by omega) (by omega)) ?_
   rintro _ w25 ⟨b26, rfl, hb27, K24⟩
   replace K0 := K0.tn K24
   replace Hr := Hr.keep K24 (fun h => h)
   replace H16 := H16.keep K24 (fun h => h)
   refine ⟨_, _, rfl, rfl, K24, ?_⟩
   refine Dr.strong (S' := (fun wz => Keeps none_ w25 wz)) (Keeps.refl w25) (fun wz hx => K24.trans hx (fun i _ h => h) (fun _ _ h => h)) ?_
   clear K24
   refine Dr.takes (fuel' := 0) (is' := _) [32, 33] [(0, (ptr r)), (4, (Value.slice none 0 0)), (6, (Value.bool true)), (7, (ptr b5)), (8, (Value.bool b26)), (121, (Value.iface 98 (MV 1 m.ok m E ec D dc)))] (by kernel_rfl) rfl (by kernel_rfl) ?_
   refine Dr.done (by kernel_rfl) ?_
   refine qs ?_
   refine qs ?_
   refine qg ?_
   refine og 1 [(0, (ptr r)), (4, (Value.slice none 0 0)), (6, (Value.bool true)), (7, (ptr b5)), (8, (Value.bool b26)), (121, (Value.iface 98 (MV 1 m.ok m E ec D dc))), (158, (Value.bool b26))] 1 ?_
   refine od ?_
   refine q_cond (o := .tmp 158) (b := b26) (by kernel_rfl) rfl (fun h28 => ?_) (fun h28 => ?_)
   ·rw [h28]
    have p29 : b26 = true := h28
    refine qg ?_
    refine og 4 [(0, (ptr r)), (4, (Value.slice none 0 0)), (6, (Value.bool true)), (7, (ptr b5)), (8, (Value.bool true)), (121, (Value.iface 98 (MV 1 m.ok m E ec D dc))), (159, (ptr r)), (160, (ptr r)), (162, (Value.pointer (some ⟨b5, 2, none⟩)))] 4 ?_
    refine Ops.go (v := (i64 m.frm)) (by kernel_rfl) (Runs.load (t := 3) (a := ⟨b5, 2, none⟩) (by kernel_rfl) (H16.loads (by kernel_rfl))) (d := (some 163)) (by kernel_rfl) rfl ?_
    refine og 3 [(0, (ptr r)), (4, (Value.slice none 0 0)), (6, (Value.bool true)), (7, (ptr b5)), (8, (Value.bool true)), (121, (Value.iface 98 (MV 1 m.ok m E ec D dc))), (160, (ptr r)), (163, (i64 m.frm)), (166, (Value.pointer (some ⟨r, 1, none⟩)))] 8 ?_
    refine Ops.put (t := 3) (b := r) (off := 1) (v := (i64 m.frm)) (ys := [(i64 s.term), (i64 m.frm), (i64 0), (i64 s.leader), (i64 s.commit), (i64 q.group), (i64 q.me), (i64 q.n), (ptr g), (i64 s.elapsed), (i64 q.timeout), (Value.slice none 0 0), (Value.map none), (Value.slice none 0 0), kv, cv, (Value.bool came), (Value.slice none 0 0)]) (by kernel_rfl) (by kernel_rfl) Hr (by kernel_rfl) (d := none) (by kernel_rfl) rfl (fun w30 H31 K32 => ?_)
    clear Hr
    replace K0 := K0.t1 K32 (fun _ => rfl)
    replace H16 := H16.k1 K32 (by omega)
    clear K32
    refine og 2 [(0, (ptr r)), (4, (Value.slice none 0 0)), (6, (Value.bool true)), (7, (ptr b5)), (8, (Value.bool true)), (121, (Value.iface 98 (MV 1 m.ok m E ec D dc))), (168, (Value.pointer (some ⟨r, 9, none⟩)))] 11 ?_
    refine Ops.put (t := 3) (b := r) (off := 9) (v := (i64 0)) (ys := [(i64 s.term), (i64 m.frm), (i64 0), (i64 s.leader), (i64 s.commit), (i64 q.group), (i64 q.me), (i64 q.n), (ptr g), (i64 0), (i64 q.timeout), (Value.slice none 0 0), (Value.map none), (Value.slice none 0 0), kv, cv, (Value.bool came), (Value.slice none 0 0)]) (by kernel_rfl) (by kernel_rfl) H31 (by kernel_rfl) (d := none) (by kernel_rfl) rfl (fun w33 H34 K35 => ?_)
    clear H31
    replace K0 := K0.t1 K35 (fun _ => rfl)
    replace H16 := H16.k1 K35 (by omega)
    clear K35
    refine od ?_
    refine qg ?_
    refine og 3 [(0, (ptr r)), (4, (Value.slice none 0 0)), (6, (Value.bool true)), (8, (Value.bool true)), (121, (Value.iface 98 (MV 1 m.ok m E ec D dc))), (169, (ptr r)), (171, (Value.pointer (some ⟨b5, 2, none⟩)))] 3 ?_
    refine Ops.go (v := (i64 m.frm)) (by kernel_rfl) (Runs.load (t := 3) (a := ⟨b5, 2, none⟩) (by kernel_rfl) (H16.loads (by kernel_rfl))) (d := (some 172)) (by kernel_rfl) rfl ?_
    refine og 2 [(0, (ptr r)), (4, (Value.slice none 0 0)), (6, (Value.bool true)), (121, (Value.iface 98 (MV 1 m.ok m E ec D dc))), (169, (ptr r)), (172, (i64 m.frm)), (174, (agg [(i64 2), (i64 0), (i64 0), (i64 0), (i64 0), (i64 0), (i64 0), (i64 0), (Value.bool true), (Value.slice none 0 0), (Value.slice none 0 0)]))] 6 ?_
    refine Ops.call (by kernel_rfl) (d := (some 175)) (by kernel_rfl) (Fput_calls _ r g s.term m.frm s.leader s.commit q.group q.me q.n 0 q.timeout kv cv came m.frm 2 0 0 true H34) ?_
    rintro _ w40 ⟨ob36, cap37, rest38, rfl, K39, H41, H42, hn43⟩
    have nob36 : w.heap.size ≤ ob36 := by have := K0.size; omega
    have lob36r : r < ob36 := by have := H34.lt; omega
    have lob36g : g < ob36 := by have := (H0.keep K0 (fun h => hrg h.symm)).lt; omega
    have lob36b5 : b5 < ob36 := by have := H16.lt; omega
    have ot44 : ∀ i, T i → i ≠ ob36 := fun i hi => by have := Ents.lt (Ents.keep hE K0 hrT) i hi; omega
    have of45 : ∀ i, (KF kv) i → i ≠ ob36 := fun i hi => by have := ImgK.lt (ImgK.keep hKv K0 hKr) i hi; omega
    have of46 : ∀ i, CF i → i ≠ ob36 := fun i hi => by have := (ImgC.keep hCv K0 hCr).1 i hi; omega
    have ot47 : ∀ i, U i → i ≠ ob36 := fun i hi => by have := Ents.lt (Ents.keep hY K0 hUr) i hi; omega
    refine ⟨_, _, rfl, rfl, ?_⟩
    replace K0 := K0.t1 K39 (fun _ => rfl)
    replace H16 := H16.k1 K39 (by omega)
    clear K39
    refine od ?_
    refine qs ?_
    refine qg ?_
    refine og 1 [(4, (Value.slice none 0 0)), (325, (ptr r))] 1 ?_
    refine Ops.call (by kernel_rfl) (d := (some 326)) (by kernel_rfl) (Fflush_calls _ r g s.term m.frm s.leader s.commit q.group q.me q.n 0 q.timeout kv cv came (Value.slice (some ⟨ob36, 0, none⟩) 1 cap37) H41) ?_
    rintro _ w49 ⟨rfl, K48, H50⟩
    refine ⟨_, _, rfl, rfl, ?_⟩
    replace K0 := K0.t1 K48 (fun _ => rfl)
    replace H16 := H16.k1 K48 (by omega)
    replace H42 := H42.k1 K48 (by omega)
    clear K48
    refine og 1 [(4, (Value.slice (some ⟨ob36, 0, none⟩) 1 cap37))] 3 ?_
    refine od ?_
    refine q_ret (by kernel_rfl) ?_
    refine ⟨(Value.slice (some ⟨ob36, 0, none⟩) 1 cap37), retv_tmp rfl rfl, ?_⟩
    exact ⟨(⟨s.term, m.frm, s.leader, s.commit, 0, s.base, s.old, (l.map EntP.key)⟩ : FolS), (Value.slice (some ⟨ob36, 0, none⟩) 1 cap37), some (⟨2, m.frm, s.term, 0, 0, true⟩ : OutM), rfl, (K0.mono (fun i _ h => by rw [h]; exact hFr)), ⟨g, T, CF, A, c, l, kv, cv, came, H50, (H0.keep K0 (fun h => hrg h.symm)), (Ents.keep hE K0 hrT), rfl, (ImgK.keep hKv K0 hKr), (ImgC.keep hCv K0 hCr), fun i hi => ⟨hrT i hi, hT i hi, (hT7 i hi).2.2.1, .inl (hT7 i hi).2.2.2, Ents.lt (Ents.keep hE K0 hrT) i hi⟩, fun i hi => ⟨hKr i hi, hKg i hi, (hK8 i hi).2.2.1, .inl (hK8 i hi).2.2.2, ImgK.lt (ImgK.keep hKv K0 hKr) i hi⟩, fun i hi => ⟨hCr i hi, hCg i hi, .inl (hC9 i hi).2.2, (ImgC.keep hCv K0 hCr).1 i hi⟩, by omega, ⟨.inl hFr, H50.lt⟩, ⟨.inl hFg, (H0.keep K0 (fun h => hrg h.symm)).lt⟩, ⟨by show 0 ≤ (s.base : Int) ∧ (s.base : Int) ≤ 1152921504606846976; omega, by show ((l.map EntP.key)).length ≤ 4096; rw [List.length_map]; omega, hBig, by show (s.base : Int) ≤ s.commit ∧ (s.commit : Int) ≤ 2305843009213693952; omega⟩⟩, ⟨ob36, cap37, rest38, rfl, nob36, H42⟩, rfl, by show s.commit ≤ s.commit; omega, fun h2 => by show m.frm = s.voted; omega, fun x hx hk ho => by cases hx; exact ⟨rfl, rfl, by show 0 ≤ m.frm; omega, rfl, rfl, hK, by have z := hb27.1 h28; rw [hK] at z; rw [show (s.ks.length : Nat) = l.length from by rw [← hK, List.length_map]]; exact z⟩⟩
   ·rw [h28]
    have p51 : b26 = false := h28
    refine q_skip (by kernel_rfl) ?_
    refine qg ?_
    refine og 3 [(0, (ptr r)), (4, (Value.slice none 0 0)), (6, (Value.bool true)), (8, (Value.bool false)), (121, (Value.iface 98 (MV 1 m.ok m E ec D dc))), (169, (ptr r)), (171, (Value.pointer (some ⟨b5, 2, none⟩)))] 3 ?_
    refine Ops.go (v := (i64 m.frm)) (by kernel_rfl) (Runs.load (t := 3) (a := ⟨b5, 2, none⟩) (by kernel_rfl) (H16.loads (by kernel_rfl))) (d := (some 172)) (by kernel_rfl) rfl ?_
    refine og 2 [(0, (ptr r)), (4, (Value.slice none 0 0)), (6, (Value.bool true)), (121, (Value.iface 98 (MV 1 m.ok m E ec D dc))), (169, (ptr r)), (172, (i64 m.frm)), (174, (agg [(i64 2), (i64 0), (i64 0), (i64 0), (i64 0), (i64 0), (i64 0), (i64 0), (Value.bool false), (Value.slice none 0 0), (Value.slice none 0 0)]))] 6 ?_
    refine Ops.call (by kernel_rfl) (d := (some 175)) (by kernel_rfl) (Fput_calls _ r g s.term s.voted s.leader s.commit q.group q.me q.n s.elapsed q.timeout kv cv came m.frm 2 0 0 false Hr) ?_
    rintro _ w56 ⟨ob52, cap53, rest54, rfl, K55, H57, H58, hn59⟩
    have nob52 : w.heap.size ≤ ob52 := by have := K0.size; omega
    have lob52r : r < ob52 := by have := Hr.lt; omega
    have lob52g : g < ob52 := by have := (H0.keep K0 (fun h => hrg h.symm)).lt; omega
    have lob52b5 : b5 < ob52 := by have := H16.lt; omega
    have ot60 : ∀ i, T i → i ≠ ob52 := fun i hi => by have := Ents.lt (Ents.keep hE K0 hrT) i hi; omega
    have of61 : ∀ i, (KF kv) i → i ≠ ob52 := fun i hi => by have := ImgK.lt (ImgK.keep hKv K0 hKr) i hi; omega
    have of62 : ∀ i, CF i → i ≠ ob52 := fun i hi => by have := (ImgC.keep hCv K0 hCr).1 i hi; omega
    have ot63 : ∀ i, U i → i ≠ ob52 := fun i hi => by have := Ents.lt (Ents.keep hY K0 hUr) i hi; omega
    refine ⟨_, _, rfl, rfl, ?_⟩
    replace K0 := K0.t1 K55 (fun _ => rfl)
    replace H16 := H16.k1 K55 (by omega)
    clear K55
    refine od ?_
    refine qs ?_
    refine qg ?_
    refine og 1 [(4, (Value.slice none 0 0)), (325, (ptr r))] 1 ?_
    refine Ops.call (by kernel_rfl) (d := (some 326)) (by kernel_rfl) (Fflush_calls _ r g s.term s.voted s.leader s.commit q.group q.me q.n s.elapsed q.timeout kv cv came (Value.slice (some ⟨ob52, 0, none⟩) 1 cap53) H57) ?_
    rintro _ w65 ⟨rfl, K64, H66⟩
    refine ⟨_, _, rfl, rfl, ?_⟩
    replace K0 := K0.t1 K64 (fun _ => rfl)
    replace H16 := H16.k1 K64 (by omega)
    replace H58 := H58.k1 K64 (by omega)
    clear K64
    refine og 1 [(4, (Value.slice (some ⟨ob52, 0, none⟩) 1 cap53))] 3 ?_
    refine od ?_
    refine q_ret (by kernel_rfl) ?_
    refine ⟨(Value.slice (some ⟨ob52, 0, none⟩) 1 cap53), retv_tmp rfl rfl, ?_⟩
    exact ⟨(⟨s.term, s.voted, s.leader, s.commit, s.elapsed, s.base, s.old, (l.map EntP.key)⟩ : FolS), (Value.slice (some ⟨ob52, 0, none⟩) 1 cap53), some (⟨2, m.frm, s.term, 0, 0, false⟩ : OutM), rfl, (K0.mono (fun i _ h => by rw [h]; exact hFr)), ⟨g, T, CF, A, c, l, kv, cv, came, H66, (H0.keep K0 (fun h => hrg h.symm)), (Ents.keep hE K0 hrT), rfl, (ImgK.keep hKv K0 hKr), (ImgC.keep hCv K0 hCr), fun i hi => ⟨hrT i hi, hT i hi, (hT7 i hi).2.2.1, .inl (hT7 i hi).2.2.2, Ents.lt (Ents.keep hE K0 hrT) i hi⟩, fun i hi => ⟨hKr i hi, hKg i hi, (hK8 i hi).2.2.1, .inl (hK8 i hi).2.2.2, ImgK.lt (ImgK.keep hKv K0 hKr) i hi⟩, fun i hi => ⟨hCr i hi, hCg i hi, .inl (hC9 i hi).2.2, (ImgC.keep hCv K0 hCr).1 i hi⟩, by omega, ⟨.inl hFr, H66.lt⟩, ⟨.inl hFg, (H0.keep K0 (fun h => hrg h.symm)).lt⟩, ⟨by show 0 ≤ (s.base : Int) ∧ (s.base : Int) ≤ 1152921504606846976; omega, by show ((l.map EntP.key)).length ≤ 4096; rw [List.length_map]; omega, hBig, by show (s.base : Int) ≤ s.commit ∧ (s.commit : Int) ≤ 2305843009213693952; omega⟩⟩, ⟨ob52, cap53, rest54, rfl, nob52, H58⟩, rfl, by show s.commit ≤ s.commit; omega, fun h2 => by show s.voted = s.voted; omega, fun x hx hk ho => by cases hx; exact absurd ho (by show ¬ false = true; decide)⟩
  ·rw [h22]
   have p67 : ¬ (s.voted = (-1)) := of_beq_f h22
   refine Dr.takes (fuel' := 21) (is' := _) [9, 10, 11, 12] [(0, (ptr r)), (4, (Value.slice none 0 0)), (6, (Value.bool true)), (7, (ptr b5)), (121, (Value.iface 98 (MV 1 m.ok m E ec D dc))), (126, (Value.bool true)), (133, (Value.bool false)), (137, (Value.pointer (some ⟨r, 1, none⟩)))] (by kernel_rfl) rfl (by kernel_rfl) ?_
   refine Dr.take (i := 13) (v := (i64 s.voted)) (by kernel_rfl) (by kernel_rfl) (fun wz hS => Runs.load (t := 3) (a := ⟨r, 1, none⟩) (by kernel_rfl) ((Hr.keep hS (fun h => h)).loads (by kernel_rfl))) (d := (some 138)) (by kernel_rfl) rfl ?_
   refine Dr.takes (fuel' := 18) (is' := _) [14, 15] [(0, (ptr r)), (4, (Value.slice none 0 0)), (6, (Value.bool true)), (7, (ptr b5)), (121, (Value.iface 98 (MV 1 m.ok m E ec D dc))), (126, (Value.bool true)), (133, (Value.bool false)), (138, (i64 s.voted)), (140, (Value.pointer (some ⟨b5, 2, none⟩)))] (by kernel_rfl) rfl (by kernel_rfl) ?_
   refine Dr.take (i := 16) (v := (i64 m.frm)) (by kernel_rfl) (by kernel_rfl) (fun wz hS => Runs.load (t := 3) (a := ⟨b5, 2, none⟩) (by kernel_rfl) ((H16.keep hS (fun h => h)).loads (by kernel_rfl))) (d := (some 141)) (by kernel_rfl) rfl ?_
   refine Dr.takes (fuel' := 13) (is' := _) [17, 18, 19, 20] [(0, (ptr r)), (4, (Value.slice none 0 0)), (6, (Value.bool true)), (7, (ptr b5)), (121, (Value.iface 98 (MV 1 m.ok m E ec D dc))), (145, (Value.bool (s.voted == m.frm)))] (by kernel_rfl) rfl (by kernel_rfl) ?_
   refine Dr.split (s.voted == m.frm) (fun h68 => ?_) (fun h68 => ?_)
   ·rw [h68]
    have p69 : s.voted = m.frm := of_beq_t h68
    refine Dr.takes (fuel' := 10) (is' := _) [21, 22, 23] [(0, (ptr r)), (4, (Value.slice none 0 0)), (6, (Value.bool true)), (7, (ptr b5)), (121, (Value.iface 98 (MV 1 m.ok m E ec D dc))), (145, (Value.bool true)), (148, (Value.pointer (some ⟨r, 8, none⟩)))] (by kernel_rfl) rfl (by kernel_rfl) ?_
    refine Dr.take (i := 24) (v := (ptr g)) (by kernel_rfl) (by kernel_rfl) (fun wz hS => Runs.load (t := 24) (a := ⟨r, 8, none⟩) (by kernel_rfl) ((Hr.keep hS (fun h => h)).loads (by kernel_rfl))) (d := (some 149)) (by kernel_rfl) rfl ?_
    refine Dr.takes (fuel' := 7) (is' := _) [25, 26] [(0, (ptr r)), (4, (Value.slice none 0 0)), (6, (Value.bool true)), (7, (ptr b5)), (121, (Value.iface 98 (MV 1 m.ok m E ec D dc))), (145, (Value.bool true)), (149, (ptr g)), (151, (Value.pointer (some ⟨b5, 5, none⟩)))] (by kernel_rfl) rfl (by kernel_rfl) ?_
    refine Dr.take (i := 27) (v := (i64 m.index)) (by kernel_rfl) (by kernel_rfl) (fun wz hS => Runs.load (t := 2) (a := ⟨b5, 5, none⟩) (by kernel_rfl) ((H16.keep hS (fun h => h)).loads (by kernel_rfl))) (d := (some 152)) (by kernel_rfl) rfl ?_
    refine Dr.takes (fuel' := 4) (is' := _) [28, 29] [(0, (ptr r)), (4, (Value.slice none 0 0)), (6, (Value.bool true)), (7, (ptr b5)), (121, (Value.iface 98 (MV 1 m.ok m E ec D dc))), (145, (Value.bool true)), (149, (ptr g)), (152, (i64 m.index)), (154, (Value.pointer (some ⟨b5, 6, none⟩)))] (by kernel_rfl) rfl (by kernel_rfl) ?_
    refine Dr.take (i := 30) (v := (i64 m.logTerm)) (by kernel_rfl) (by kernel_rfl) (fun wz hS => Runs.load (t := 2) (a := ⟨b5, 6, none⟩) (by kernel_rfl) ((H16.keep hS (fun h => h)).loads (by kernel_rfl))) (d := (some 155)) (by kernel_rfl) rfl ?_
    refine Dr.call (i := 31) (by kernel_rfl) (by kernel_rfl) (d := (some 156)) (by kernel_rfl) (fun _ => Newer_calls _ T g s.base s.old A c l m.index m.logTerm (H0.keep K0 (fun h => hrg h.symm)) (Ents.keep hE K0 hrT) hT (by omega) (by omega)) ?_
    rintro _ w71 ⟨b72, rfl, hb73, K70⟩
    replace K0 := K0.tn K70
    replace Hr := Hr.keep K70 (fun h => h)
    replace H16 := H16.keep K70 (fun h => h)
    refine ⟨_, _, rfl, rfl, K70, ?_⟩
    refine Dr.strong (S' := (fun wz => Keeps none_ w71 wz)) (Keeps.refl w71) (fun wz hx => K70.trans hx (fun i _ h => h) (fun _ _ h => h)) ?_
    clear K70
    refine Dr.takes (fuel' := 0) (is' := _) [32, 33] [(0, (ptr r)), (4, (Value.slice none 0 0)), (6, (Value.bool true)), (7, (ptr b5)), (8, (Value.bool b72)), (121, (Value.iface 98 (MV 1 m.ok m E ec D dc)))] (by kernel_rfl) rfl (by kernel_rfl) ?_
    refine Dr.done (by kernel_rfl) ?_
    refine qs ?_
    refine qs ?_
    refine qg ?_
    refine og 1 [(0, (ptr r)), (4, (Value.slice none 0 0)), (6, (Value.bool true)), (7, (ptr b5)), (8, (Value.bool b72)), (121, (Value.iface 98 (MV 1 m.ok m E ec D dc))), (158, (Value.bool b72))] 1 ?_
    refine od ?_
    refine q_cond (o := .tmp 158) (b := b72) (by kernel_rfl) rfl (fun h74 => ?_) (fun h74 => ?_)
    ·rw [h74]
     have p75 : b72 = true := h74
     refine qg ?_
     refine og 4 [(0, (ptr r)), (4, (Value.slice none 0 0)), (6, (Value.bool true)), (7, (ptr b5)), (8, (Value.bool true)), (121, (Value.iface 98 (MV 1 m.ok m E ec D dc))), (159, (ptr r)), (160, (ptr r)), (162, (Value.pointer (some ⟨b5, 2, none⟩)))] 4 ?_
     refine Ops.go (v := (i64 m.frm)) (by kernel_rfl) (Runs.load (t := 3) (a := ⟨b5, 2, none⟩) (by kernel_rfl) (H16.loads (by kernel_rfl))) (d := (some 163)) (by kernel_rfl) rfl ?_
     refine og 3 [(0, (ptr r)), (4, (Value.slice none 0 0)), (6, (Value.bool true)), (7, (ptr b5)), (8, (Value.bool true)), (121, (Value.iface 98 (MV 1 m.ok m E ec D dc))), (160, (ptr r)), (163, (i64 m.frm)), (166, (Value.pointer (some ⟨r, 1, none⟩)))] 8 ?_
     refine Ops.put (t := 3) (b := r) (off := 1) (v := (i64 m.frm)) (ys := [(i64 s.term), (i64 m.frm), (i64 0), (i64 s.leader), (i64 s.commit), (i64 q.group), (i64 q.me), (i64 q.n), (ptr g), (i64 s.elapsed), (i64 q.timeout), (Value.slice none 0 0), (Value.map none), (Value.slice none 0 0), kv, cv, (Value.bool came), (Value.slice none 0 0)]) (by kernel_rfl) (by kernel_rfl) Hr (by kernel_rfl) (d := none) (by kernel_rfl) rfl (fun w76 H77 K78 => ?_)
     clear Hr
     replace K0 := K0.t1 K78 (fun _ => rfl)
     replace H16 := H16.k1 K78 (by omega)
     clear K78
     refine og 2 [(0, (ptr r)), (4, (Value.slice none 0 0)), (6, (Value.bool true)), (7, (ptr b5)), (8, (Value.bool true)), (121, (Value.iface 98 (MV 1 m.ok m E ec D dc))), (168, (Value.pointer (some ⟨r, 9, none⟩)))] 11 ?_
     refine Ops.put (t := 3) (b := r) (off := 9) (v := (i64 0)) (ys := [(i64 s.term), (i64 m.frm), (i64 0), (i64 s.leader), (i64 s.commit), (i64 q.group), (i64 q.me), (i64 q.n), (ptr g), (i64 0), (i64 q.timeout), (Value.slice none 0 0), (Value.map none), (Value.slice none 0 0), kv, cv, (Value.bool came), (Value.slice none 0 0)]) (by kernel_rfl) (by kernel_rfl) H77 (by kernel_rfl) (d := none) (by kernel_rfl) rfl (fun w79 H80 K81 => ?_)
     clear H77
     replace K0 := K0.t1 K81 (fun _ => rfl)
     replace H16 := H16.k1 K81 (by omega)
     clear K81
     refine od ?_
     refine qg ?_
     refine og 3 [(0, (ptr r)), (4, (Value.slice none 0 0)), (6, (Value.bool true)), (8, (Value.bool true)), (121, (Value.iface 98 (MV 1 m.ok m E ec D dc))), (169, (ptr r)), (171, (Value.pointer (some ⟨b5, 2, none⟩)))] 3 ?_
     refine Ops.go (v := (i64 m.frm)) (by kernel_rfl) (Runs.load (t := 3) (a := ⟨b5, 2, none⟩) (by kernel_rfl) (H16.loads (by kernel_rfl))) (d := (some 172)) (by kernel_rfl) rfl ?_
     refine og 2 [(0, (ptr r)), (4, (Value.slice none 0 0)), (6, (Value.bool true)), (121, (Value.iface 98 (MV 1 m.ok m E ec D dc))), (169, (ptr r)), (172, (i64 m.frm)), (174, (agg [(i64 2), (i64 0), (i64 0), (i64 0), (i64 0), (i64 0), (i64 0), (i64 0), (Value.bool true), (Value.slice none 0 0), (Value.slice none 0 0)]))] 6 ?_
     refine Ops.call (by kernel_rfl) (d := (some 175)) (by kernel_rfl) (Fput_calls _ r g s.term m.frm s.leader s.commit q.group q.me q.n 0 q.timeout kv cv came m.frm 2 0 0 true H80) ?_
     rintro _ w86 ⟨ob82, cap83, rest84, rfl, K85, H87, H88, hn89⟩
     have nob82 : w.heap.size ≤ ob82 := by have := K0.size; omega
     have lob82r : r < ob82 := by have := H80.lt; omega
     have lob82g : g < ob82 := by have := (H0.keep K0 (fun h => hrg h.symm)).lt; omega
     have lob82b5 : b5 < ob82 := by have := H16.lt; omega
     have ot90 : ∀ i, T i → i ≠ ob82 := fun i hi => by have := Ents.lt (Ents.keep hE K0 hrT) i hi; omega
     have of91 : ∀ i, (KF kv) i → i ≠ ob82 := fun i hi => by have := ImgK.lt (ImgK.keep hKv K0 hKr) i hi; omega
     have of92 : ∀ i, CF i → i ≠ ob82 := fun i hi => by have := (ImgC.keep hCv K0 hCr).1 i hi; omega
     have ot93 : ∀ i, U i → i ≠ ob82 := fun i hi => by have := Ents.lt (Ents.keep hY K0 hUr) i hi; omega
     refine ⟨_, _, rfl, rfl, ?_⟩
     replace K0 := K0.t1 K85 (fun _ => rfl)
     replace H16 := H16.k1 K85 (by omega)
     clear K85
     refine od ?_
     refine qs ?_
     refine qg ?_
     refine og 1 [(4, (Value.slice none 0 0)), (325, (ptr r))] 1 ?_
     refine Ops.call (by kernel_rfl) (d := (some 326)) (by kernel_rfl) (Fflush_calls _ r g s.term m.frm s.leader s.commit q.group q.me q.n 0 q.timeout kv cv came (Value.slice (some ⟨ob82, 0, none⟩) 1 cap83) H87) ?_
     rintro _ w95 ⟨rfl, K94, H96⟩
     refine ⟨_, _, rfl, rfl, ?_⟩
     replace K0 := K0.t1 K94 (fun _ => rfl)
     replace H16 := H16.k1 K94 (by omega)
     replace H88 := H88.k1 K94 (by omega)
     clear K94
     refine og 1 [(4, (Value.slice (some ⟨ob82, 0, none⟩) 1 cap83))] 3 ?_
     refine od ?_
     refine q_ret (by kernel_rfl) ?_
     refine ⟨(Value.slice (some ⟨ob82, 0, none⟩) 1 cap83), retv_tmp rfl rfl, ?_⟩
     exact ⟨(⟨s.term, m.frm, s.leader, s.commit, 0, s.base, s.old, (l.map EntP.key)⟩ : FolS), (Value.slice (some ⟨ob82, 0, none⟩) 1 cap83), some (⟨2, m.frm, s.term, 0, 0, true⟩ : OutM), rfl, (K0.mono (fun i _ h => by rw [h]; exact hFr)), ⟨g, T, CF, A, c, l, kv, cv, came, H96, (H0.keep K0 (fun h => hrg h.symm)), (Ents.keep hE K0 hrT), rfl, (ImgK.keep hKv K0 hKr), (ImgC.keep hCv K0 hCr), fun i hi => ⟨hrT i hi, hT i hi, (hT7 i hi).2.2.1, .inl (hT7 i hi).2.2.2, Ents.lt (Ents.keep hE K0 hrT) i hi⟩, fun i hi => ⟨hKr i hi, hKg i hi, (hK8 i hi).2.2.1, .inl (hK8 i hi).2.2.2, ImgK.lt (ImgK.keep hKv K0 hKr) i hi⟩, fun i hi => ⟨hCr i hi, hCg i hi, .inl (hC9 i hi).2.2, (ImgC.keep hCv K0 hCr).1 i hi⟩, by omega, ⟨.inl hFr, H96.lt⟩, ⟨.inl hFg, (H0.keep K0 (fun h => hrg h.symm)).lt⟩, ⟨by show 0 ≤ (s.base : Int) ∧ (s.base : Int) ≤ 1152921504606846976; omega, by show ((l.map EntP.key)).length ≤ 4096; rw [List.length_map]; omega, hBig, by show (s.base : Int) ≤ s.commit ∧ (s.commit : Int) ≤ 2305843009213693952; omega⟩⟩, ⟨ob82, cap83, rest84, rfl, nob82, H88⟩, rfl, by show s.commit ≤ s.commit; omega, fun h2 => by show m.frm = s.voted; omega, fun x hx hk ho => by cases hx; exact ⟨rfl, rfl, by show 0 ≤ m.frm; omega, rfl, rfl, hK, by have z := hb73.1 h74; rw [hK] at z; rw [show (s.ks.length : Nat) = l.length from by rw [← hK, List.length_map]]; exact z⟩⟩
    ·rw [h74]
     have p97 : b72 = false := h74
     refine q_skip (by kernel_rfl) ?_
     refine qg ?_
     refine og 3 [(0, (ptr r)), (4, (Value.slice none 0 0)), (6, (Value.bool true)), (8, (Value.bool false)), (121, (Value.iface 98 (MV 1 m.ok m E ec D dc))), (169, (ptr r)), (171, (Value.pointer (some ⟨b5, 2, none⟩)))] 3 ?_
     refine Ops.go (v := (i64 m.frm)) (by kernel_rfl) (Runs.load (t := 3) (a := ⟨b5, 2, none⟩) (by kernel_rfl) (H16.loads (by kernel_rfl))) (d := (some 172)) (by kernel_rfl) rfl ?_
     refine og 2 [(0, (ptr r)), (4, (Value.slice none 0 0)), (6, (Value.bool true)), (121, (Value.iface 98 (MV 1 m.ok m E ec D dc))), (169, (ptr r)), (172, (i64 m.frm)), (174, (agg [(i64 2), (i64 0), (i64 0), (i64 0), (i64 0), (i64 0), (i64 0), (i64 0), (Value.bool false), (Value.slice none 0 0), (Value.slice none 0 0)]))] 6 ?_
     refine Ops.call (by kernel_rfl) (d := (some 175)) (by kernel_rfl) (Fput_calls _ r g s.term s.voted s.leader s.commit q.group q.me q.n s.elapsed q.timeout kv cv came m.frm 2 0 0 false Hr) ?_
     rintro _ w102 ⟨ob98, cap99, rest100, rfl, K101, H103, H104, hn105⟩
     have nob98 : w.heap.size ≤ ob98 := by have := K0.size; omega
     have lob98r : r < ob98 := by have := Hr.lt; omega
     have lob98g : g < ob98 := by have := (H0.keep K0 (fun h => hrg h.symm)).lt; omega
     have lob98b5 : b5 < ob98 := by have := H16.lt; omega
     have ot106 : ∀ i, T i → i ≠ ob98 := fun i hi => by have := Ents.lt (Ents.keep hE K0 hrT) i hi; omega
     have of107 : ∀ i, (KF kv) i → i ≠ ob98 := fun i hi => by have := ImgK.lt (ImgK.keep hKv K0 hKr) i hi; omega
     have of108 : ∀ i, CF i → i ≠ ob98 := fun i hi => by have := (ImgC.keep hCv K0 hCr).1 i hi; omega
     have ot109 : ∀ i, U i → i ≠ ob98 := fun i hi => by have := Ents.lt (Ents.keep hY K0 hUr) i hi; omega
     refine ⟨_, _, rfl, rfl, ?_⟩
     replace K0 := K0.t1 K101 (fun _ => rfl)
     replace H16 := H16.k1 K101 (by omega)
     clear K101
     refine od ?_
     refine qs ?_
     refine qg ?_
     refine og 1 [(4, (Value.slice none 0 0)), (325, (ptr r))] 1 ?_
     refine Ops.call (by kernel_rfl) (d := (some 326)) (by kernel_rfl) (Fflush_calls _ r g s.term s.voted s.leader s.commit q.group q.me q.n s.elapsed q.timeout kv cv came (Value.slice (some ⟨ob98, 0, none⟩) 1 cap99) H103) ?_
     rintro _ w111 ⟨rfl, K110, H112⟩
     refine ⟨_, _, rfl, rfl, ?_⟩
     replace K0 := K0.t1 K110 (fun _ => rfl)
     replace H16 := H16.k1 K110 (by omega)
     replace H104 := H104.k1 K110 (by omega)
     clear K110
     refine og 1 [(4, (Value.slice (some ⟨ob98, 0, none⟩) 1 cap99))] 3 ?_
     refine od ?_
     refine q_ret (by kernel_rfl) ?_
     refine ⟨(Value.slice (some ⟨ob98, 0, none⟩) 1 cap99), retv_tmp rfl rfl, ?_⟩
     exact ⟨(⟨s.term, s.voted, s.leader, s.commit, s.elapsed, s.base, s.old, (l.map EntP.key)⟩ : FolS), (Value.slice (some ⟨ob98, 0, none⟩) 1 cap99), some (⟨2, m.frm, s.term, 0, 0, false⟩ : OutM), rfl, (K0.mono (fun i _ h => by rw [h]; exact hFr)), ⟨g, T, CF, A, c, l, kv, cv, came, H112, (H0.keep K0 (fun h => hrg h.symm)), (Ents.keep hE K0 hrT), rfl, (ImgK.keep hKv K0 hKr), (ImgC.keep hCv K0 hCr), fun i hi => ⟨hrT i hi, hT i hi, (hT7 i hi).2.2.1, .inl (hT7 i hi).2.2.2, Ents.lt (Ents.keep hE K0 hrT) i hi⟩, fun i hi => ⟨hKr i hi, hKg i hi, (hK8 i hi).2.2.1, .inl (hK8 i hi).2.2.2, ImgK.lt (ImgK.keep hKv K0 hKr) i hi⟩, fun i hi => ⟨hCr i hi, hCg i hi, .inl (hC9 i hi).2.2, (ImgC.keep hCv K0 hCr).1 i hi⟩, by omega, ⟨.inl hFr, H112.lt⟩, ⟨.inl hFg, (H0.keep K0 (fun h => hrg h.symm)).lt⟩, ⟨by show 0 ≤ (s.base : Int) ∧ (s.base : Int) ≤ 1152921504606846976; omega, by show ((l.map EntP.key)).length ≤ 4096; rw [List.length_map]; omega, hBig, by show (s.base : Int) ≤ s.commit ∧ (s.commit : Int) ≤ 2305843009213693952; omega⟩⟩, ⟨ob98, cap99, rest100, rfl, nob98, H104⟩, rfl, by show s.commit ≤ s.commit; omega, fun h2 => by show s.voted = s.voted; omega, fun x hx hk ho => by cases hx; exact absurd ho (by show ¬ false = true; decide)⟩
   ·rw [h68]
    have p113 : ¬ (s.voted = m.frm) := of_beq_f h68
    refine Dr.takes (fuel' := 0) (is' := _) [21, 22, 23, 24, 25, 26, 27, 28, 29, 30, 31, 32, 33] [(0, (ptr r)), (4, (Value.slice none 0 0)), (6, (Value.bool true)), (7, (ptr b5)), (8, (Value.bool false)), (121, (Value.iface 98 (MV 1 m.ok m E ec D dc)))] (by kernel_rfl) rfl (by kernel_rfl) ?_
    refine Dr.done (by kernel_rfl) ?_
    refine qs ?_
    refine qs ?_
    refine qg ?_
    refine og 1 [(0, (ptr r)), (4, (Value.slice none 0 0)), (6, (Value.bool true)), (7, (ptr b5)), (8, (Value.bool false)), (121, (Value.iface 98 (MV 1 m.ok m E ec D dc))), (158, (Value.bool false))] 1 ?_
    refine od ?_
    refine q_else (o := .tmp 158) (by kernel_rfl) rfl ?_
    refine q_skip (by kernel_rfl) ?_
    refine qg ?_
    refine og 3 [(0, (ptr r)), (4, (Value.slice none 0 0)), (6, (Value.bool true)), (8, (Value.bool false)), (121, (Value.iface 98 (MV 1 m.ok m E ec D dc))), (169, (ptr r)), (171, (Value.pointer (some ⟨b5, 2, none⟩)))] 3 ?_
    refine Ops.go (v := (i64 m.frm)) (by kernel_rfl) (Runs.load (t := 3) (a := ⟨b5, 2, none⟩) (by kernel_rfl) (H16.loads (by kernel_rfl))) (d := (some 172)) (by kernel_rfl) rfl ?_
    refine og 2 [(0, (ptr r)), (4, (Value.slice none 0 0)), (6, (Value.bool true)), (121, (Value.iface 98 (MV 1 m.ok m E ec D dc))), (169, (ptr r)), (172, (i64 m.frm)), (174, (agg [(i64 2), (i64 0), (i64 0), (i64 0), (i64 0), (i64 0), (i64 0), (i64 0), (Value.bool false), (Value.slice none 0 0), (Value.slice none 0 0)]))] 6 ?_
    refine Ops.call (by kernel_rfl) (d := (some 175)) (by kernel_rfl) (Fput_calls _ r g s.term s.voted s.leader s.commit q.group q.me q.n s.elapsed q.timeout kv cv came m.frm 2 0 0 false Hr) ?_
    rintro _ w118 ⟨ob114, cap115, rest116, rfl, K117, H119, H120, hn121⟩
    have nob114 : w.heap.size ≤ ob114 := by have := K0.size; omega
    have lob114r : r < ob114 := by have := Hr.lt; omega
    have lob114g : g < ob114 := by have := (H0.keep K0 (fun h => hrg h.symm)).lt; omega
    have lob114b5 : b5 < ob114 := by have := H16.lt; omega
    have ot122 : ∀ i, T i → i ≠ ob114 := fun i hi => by have := Ents.lt (Ents.keep hE K0 hrT) i hi; omega
    have of123 : ∀ i, (KF kv) i → i ≠ ob114 := fun i hi => by have := ImgK.lt (ImgK.keep hKv K0 hKr) i hi; omega
    have of124 : ∀ i, CF i → i ≠ ob114 := fun i hi => by have := (ImgC.keep hCv K0 hCr).1 i hi; omega
    have ot125 : ∀ i, U i → i ≠ ob114 := fun i hi => by have := Ents.lt (Ents.keep hY K0 hUr) i hi; omega
    refine ⟨_, _, rfl, rfl, ?_⟩
    replace K0 := K0.t1 K117 (fun _ => rfl)
    replace H16 := H16.k1 K117 (by omega)
    clear K117
    refine od ?_
    refine qs ?_
    refine qg ?_
    refine og 1 [(4, (Value.slice none 0 0)), (325, (ptr r))] 1 ?_
    refine Ops.call (by kernel_rfl) (d := (some 326)) (by kernel_rfl) (Fflush_calls _ r g s.term s.voted s.leader s.commit q.group q.me q.n s.elapsed q.timeout kv cv came (Value.slice (some ⟨ob114, 0, none⟩) 1 cap115) H119) ?_
    rintro _ w127 ⟨rfl, K126, H128⟩
    refine ⟨_, _, rfl, rfl, ?_⟩
    replace K0 := K0.t1 K126 (fun _ => rfl)
    replace H16 := H16.k1 K126 (by omega)
    replace H120 := H120.k1 K126 (by omega)
    clear K126
    refine og 1 [(4, (Value.slice (some ⟨ob114, 0, none⟩) 1 cap115))] 3 ?_
    refine od ?_
    refine q_ret (by kernel_rfl) ?_
    refine ⟨(Value.slice (some ⟨ob114, 0, none⟩) 1 cap115), retv_tmp rfl rfl, ?_⟩
    exact ⟨(⟨s.term, s.voted, s.leader, s.commit, s.elapsed, s.base, s.old, (l.map EntP.key)⟩ : FolS), (Value.slice (some ⟨ob114, 0, none⟩) 1 cap115), some (⟨2, m.frm, s.term, 0, 0, false⟩ : OutM), rfl, (K0.mono (fun i _ h => by rw [h]; exact hFr)), ⟨g, T, CF, A, c, l, kv, cv, came, H128, (H0.keep K0 (fun h => hrg h.symm)), (Ents.keep hE K0 hrT), rfl, (ImgK.keep hKv K0 hKr), (ImgC.keep hCv K0 hCr), fun i hi => ⟨hrT i hi, hT i hi, (hT7 i hi).2.2.1, .inl (hT7 i hi).2.2.2, Ents.lt (Ents.keep hE K0 hrT) i hi⟩, fun i hi => ⟨hKr i hi, hKg i hi, (hK8 i hi).2.2.1, .inl (hK8 i hi).2.2.2, ImgK.lt (ImgK.keep hKv K0 hKr) i hi⟩, fun i hi => ⟨hCr i hi, hCg i hi, .inl (hC9 i hi).2.2, (ImgC.keep hCv K0 hCr).1 i hi⟩, by omega, ⟨.inl hFr, H128.lt⟩, ⟨.inl hFg, (H0.keep K0 (fun h => hrg h.symm)).lt⟩, ⟨by show 0 ≤ (s.base : Int) ∧ (s.base : Int) ≤ 1152921504606846976; omega, by show ((l.map EntP.key)).length ≤ 4096; rw [List.length_map]; omega, hBig, by show (s.base : Int) ≤ s.commit ∧ (s.commit : Int) ≤ 2305843009213693952; omega⟩⟩, ⟨ob114, cap115, rest116, rfl, nob114, H120⟩, rfl, by show s.commit ≤ s.commit; omega, fun h2 => by show s.voted = s.voted; omega, fun x hx hk ho => by cases hx; exact absurd ho (by show ¬ false = true; decide)⟩
 ·rw [h20]
  have p129 : ¬ (m.term = s.term) := of_beq_f h20
  refine Dr.takes (fuel' := 0) (is' := _) [2, 3, 4, 5, 6, 7, 8, 9, 10, 11, 12, 13, 14, 15, 16, 17, 18, 19, 20, 21, 22, 23, 24, 25, 26, 27, 28, 29, 30, 31, 32, 33] [(0, (ptr r)), (4, (Value.slice none 0 0)), (6, (Value.bool false)), (7, (ptr b5)), (8, (Value.bool false)), (121, (Value.iface 98 (MV 1 m.ok m E ec D dc)))] (by kernel_rfl) rfl (by kernel_rfl) ?_
  refine Dr.done (by kernel_rfl) ?_
  refine qs ?_
  refine qs ?_
  refine qg ?_
  refine og 1 [(0, (ptr r)), (4, (Value.slice none 0 0)), (6, (Value.bool false)), (7, (ptr b5)), (8, (Value.bool false)), (121, (Value.iface 98 (MV 1 m.ok m E ec D dc))), (158, (Value.bool false))] 1 ?_
  refine od ?_
  refine q_else (o := .tmp 158) (by kernel_rfl) rfl ?_
  refine q_skip (by kernel_rfl) ?_
  refine qg ?_
  refine og 3 [(0, (ptr r)), (4, (Value.slice none 0 0)), (6, (Value.bool false)), (8, (Value.bool false)), (121, (Value.iface 98 (MV 1 m.ok m E ec D dc))), (169, (ptr r)), (171, (Value.pointer (some ⟨b5, 2, none⟩)))] 3 ?_
  refine Ops.go (v := (i64 m.frm)) (by kernel_rfl) (Runs.load (t := 3) (a := ⟨b5, 2, none⟩) (by kernel_rfl) (H16.loads (by kernel_rfl))) (d := (some 172)) (by kernel_rfl) rfl ?_
  refine og 2 [(0, (ptr r)), (4, (Value.slice none 0 0)), (6, (Value.bool false)), (121, (Value.iface 98 (MV 1 m.ok m E ec D dc))), (169, (ptr r)), (172, (i64 m.frm)), (174, (agg [(i64 2), (i64 0), (i64 0), (i64 0), (i64 0), (i64 0), (i64 0), (i64 0), (Value.bool false), (Value.slice none 0 0), (Value.slice none 0 0)]))] 6 ?_
  refine Ops.call (by kernel_rfl) (d := (some 175)) (by kernel_rfl) (Fput_calls _ r g s.term s.voted s.leader s.commit q.group q.me q.n s.elapsed q.timeout kv cv came m.frm 2 0 0 false Hr) ?_
  rintro _ w134 ⟨ob130, cap131, rest132, rfl, K133, H135, H136, hn137⟩
  have nob130 : w.heap.size ≤ ob130 := by have := K0.size; omega
  have lob130r : r < ob130 := by have := Hr.lt; omega
  have lob130g : g < ob130 := by have := (H0.keep K0 (fun h => hrg h.symm)).lt; omega
  have lob130b5 : b5 < ob130 := by have := H16.lt; omega
  have ot138 : ∀ i, T i → i ≠ ob130 := fun i hi => by have := Ents.lt (Ents.keep hE K0 hrT) i hi; omega
  have of139 : ∀ i, (KF kv) i → i ≠ ob130 := fun i hi => by have := ImgK.lt (ImgK.keep hKv K0 hKr) i hi; omega
  have of140 : ∀ i, CF i → i ≠ ob130 := fun i hi => by have := (ImgC.keep hCv K0 hCr).1 i hi; omega
  have ot141 : ∀ i, U i → i ≠ ob130 := fun i hi => by have := Ents.lt (Ents.keep hY K0 hUr) i hi; omega
  refine ⟨_, _, rfl, rfl, ?_⟩
  replace K0 := K0.t1 K133 (fun _ => rfl)
  replace H16 := H16.k1 K133 (by omega)
  clear K133
  refine od ?_
  refine qs ?_
  refine qg ?_
  refine og 1 [(4, (Value.slice none 0 0)), (325, (ptr r))] 1 ?_
  refine Ops.call (by kernel_rfl) (d := (some 326)) (by kernel_rfl) (Fflush_calls _ r g s.term s.voted s.leader s.commit q.group q.me q.n s.elapsed q.timeout kv cv came (Value.slice (some ⟨ob130, 0, none⟩) 1 cap131) H135) ?_
  rintro _ w143 ⟨rfl, K142, H144⟩
  refine ⟨_, _, rfl, rfl, ?_⟩
  replace K0 := K0.t1 K142 (fun _ => rfl)
  replace H16 := H16.k1 K142 (by omega)
  replace H136 := H136.k1 K142 (by omega)
  clear K142
  refine og 1 [(4, (Value.slice (some ⟨ob130, 0, none⟩) 1 cap131))] 3 ?_
  refine od ?_
  refine q_ret (by kernel_rfl) ?_
  refine ⟨(Value.slice (some ⟨ob130, 0, none⟩) 1 cap131), retv_tmp rfl rfl, ?_⟩
  exact ⟨(⟨s.term, s.voted, s.leader, s.commit, s.elapsed, s.base, s.old, (l.map EntP.key)⟩ : FolS), (Value.slice (some ⟨ob130, 0, none⟩) 1 cap131), some (⟨2, m.frm, s.term, 0, 0, false⟩ : OutM), rfl, (K0.mono (fun i _ h => by rw [h]; exact hFr)), ⟨g, T, CF, A, c, l, kv, cv, came, H144, (H0.keep K0 (fun h => hrg h.symm)), (Ents.keep hE K0 hrT), rfl, (ImgK.keep hKv K0 hKr), (ImgC.keep hCv K0 hCr), fun i hi => ⟨hrT i hi, hT i hi, (hT7 i hi).2.2.1, .inl (hT7 i hi).2.2.2, Ents.lt (Ents.keep hE K0 hrT) i hi⟩, fun i hi => ⟨hKr i hi, hKg i hi, (hK8 i hi).2.2.1, .inl (hK8 i hi).2.2.2, ImgK.lt (ImgK.keep hKv K0 hKr) i hi⟩, fun i hi => ⟨hCr i hi, hCg i hi, .inl (hC9 i hi).2.2, (ImgC.keep hCv K0 hCr).1 i hi⟩, by omega, ⟨.inl hFr, H144.lt⟩, ⟨.inl hFg, (H0.keep K0 (fun h => hrg h.symm)).lt⟩, ⟨by show 0 ≤ (s.base : Int) ∧ (s.base : Int) ≤ 1152921504606846976; omega, by show ((l.map EntP.key)).length ≤ 4096; rw [List.length_map]; omega, hBig, by show (s.base : Int) ≤ s.commit ∧ (s.commit : Int) ≤ 2305843009213693952; omega⟩⟩, ⟨ob130, cap131, rest132, rfl, nob130, H136⟩, rfl, by show s.commit ≤ s.commit; omega, fun h2 => by show s.voted = s.voted; omega, fun x hx hk ho => by cases hx; exact absurd ho (by show ¬ false = true; decide)⟩

set_option maxHeartbeats 4000000 in
theorem Step_voteTold (w : World) (F : Nat → Prop) (r : Nat) (q : FolQ) (s : FolS) (m : MsgP) (E : Option Addr) (ec : Nat) (D : Option Addr) (dc : Nat) (U : Nat → Prop) (hF : Fol w F r q s (.slice none 0 0)) (hY : Ents w U (.slice E m.entries.length ec) m.entries) (hBigY : BigK (m.entries.map EntP.key)) (hYl : m.entries.length * 32 ≤ 140737488351232) (hUF : ∀ i, U i → ¬ F i) (hD : RdB w (.slice D m.data.length dc) m.data) (hDU : m.data ≠ [] → ∀ i, (Value.slice D m.data.length dc).ownBlock = some i → ¬ F i ∧ i < w.heap.size) (hdb : m.data.length ≤ 140737488351232) (hb2 : ¬ ((m.group ≠ q.group ∨ m.to ≠ q.me ∨ m.frm = q.me ∨ m.frm < 0 ∨ q.n ≤ m.frm) ∨ (m.term < 1 ∨ 1152921504606846976 < m.term ∨ m.index < 0 ∨ 1152921504606846976 < m.index ∨ m.logTerm < 0 ∨ 1152921504606846976 < m.logTerm ∨ m.commit < 0 ∨ 1152921504606846976 < m.commit))) (hnow : m.term ≤ s.term) (hk : m.kind = 2) : wp Try.prog Try.f20.ntmps (cd Try.f20 [1, 1, 1, 1, 1]) (retQ Try.prog Try.f20 (fun e w' => ∃ (s' : FolS) (ov : Value) (o : Option OutM), e = .returned ov ∧ Keeps F w w' ∧ Fol w' (fun i => (F i ∨ w.heap.size ≤ i) ∧ i < w'.heap.size) r q s' (.slice none 0 0) ∧ OutIs w' w.heap.size q ov o ∧ s'.term = s.term ∧ s.commit ≤ s'.commit ∧ (0 ≤ s.voted → s'.voted = s.voted) ∧ ∀ x, o = some x → x.kind = 2 → x.ok = true → x.term = s'.term ∧ x.to = s'.voted ∧ 0 ≤ s'.voted ∧ s'.base = s.base ∧ s'.old = s.old ∧ s'.ks = s.ks ∧ (lastK s.base s.old s.ks < m.logTerm ∨ m.logTerm = lastK s.base s.old s.ks ∧ s.base + ((s.ks.length : Nat) : Int) ≤ m.index))) [(0, (ptr r)), (4, (Value.slice none 0 0)), (5, (Value.iface 101 (MV 2 m.ok m E ec D dc)))] w := by
 obtain ⟨g, T, CF, A, c, l, kv, cv, came, Hr, H0, hE, hK, hKv, hCv, hT7, hK8, hC9, hrg, hFr, hFg, hOk⟩ := hF
 have hC0 := hCv.1
 have hT : ∀ i, T i → i ≠ g := fun i hi => (hT7 i hi).2.1
 have hrT : ∀ i, T i → i ≠ r := fun i hi => (hT7 i hi).1
 have hL : l.length ≤ 4096 := by have z := hOk.len; rw [← hK, List.length_map] at z; exact z
 have hBig : BigK (l.map EntP.key) := by rw [hK]; exact hOk.big
 have hB := hOk.base
 have hCm := hOk.commit
 have hKr : ∀ i, KF kv i → i ≠ r := fun i hi => (hK8 i hi).1
 have hKg : ∀ i, KF kv i → i ≠ g := fun i hi => (hK8 i hi).2.1
 have hcap := Ents.len hE
 have Hg := H0.lt
 have Hrl := Hr.lt
 have hCr : ∀ i, CF i → i ≠ r := fun i hi => (hC9 i hi).1
 have hCg : ∀ i, CF i → i ≠ g := fun i hi => (hC9 i hi).2.1
 have hUr : ∀ i, U i → i ≠ r := fun i hi h => hUF i hi (h ▸ hFr)
 have hUg : ∀ i, U i → i ≠ g := fun i hi h => hUF i hi (h ▸ hFg)
 have K0 : Keeps (fun i => i = r) w w := (Keeps.refl w).mono (fun _ _ h => h.elim)
 refine qs ?_
 refine q_draw (fun wz => Keeps none_ w wz) 10 (by kernel_rfl) (by kernel_rfl) (by kernel_rfl) (fun w1 K2 _ _ => ⟨K2, ?_⟩)
 replace K0 := K0.tn K2
 replace Hr := Hr.keep K2 (fun h => h)
 refine Dr.strong (S' := (fun wz => Keeps none_ w1 wz)) (Keeps.refl w1) (fun wz hx => K2.trans hx (fun i _ h => h) (fun _ _ h => h)) ?_
 clear K2
 refine Dr.takes (fuel' := 5) (is' := _) [0, 3, 4, 5, 6] [(0, (ptr r)), (4, (Value.slice none 0 0)), (5, (Value.iface 101 (MV 2 m.ok m E ec D dc))), (112, (Value.iface 101 (MV 2 m.ok m E ec D dc))), (118, (ptr r))] (by kernel_rfl) rfl (by kernel_rfl) ?_
 refine Dr.take (i := 7) (v := (i64 s.term)) (by kernel_rfl) (by kernel_rfl) (fun wz hS => Runs.load (t := 2) (a := ⟨r, 0, none⟩) (by kernel_rfl) ((Hr.keep hS (fun h => h)).loads (by kernel_rfl))) (d := (some 119)) (by kernel_rfl) rfl ?_
 refine Dr.call (i := 1) (by kernel_rfl) (by kernel_rfl) (d := (some 113)) (by kernel_rfl) (fun _ => of2_calls _ m E ec D dc) ?_
 rintro _ w4 ⟨rfl, K3⟩
 replace K0 := K0.tn K3
 replace Hr := Hr.keep K3 (fun h => h)
 refine ⟨_, _, rfl, rfl, K3, ?_⟩
 refine Dr.strong (S' := (fun wz => Keeps none_ w4 wz)) (Keeps.refl w4) (fun wz hx => K3.trans hx (fun i _ h => h) (fun _ _ h => h)) ?_
 clear K3
 refine Dr.takes (fuel' := 0) (is' := _) [2, 8, 9] [(0, (ptr r)), (4, (Value.slice none 0 0)), (5, (Value.iface 101 (MV 2 m.ok m E ec D dc))), (6, (Value.bool (m.term == s.term)))] (by kernel_rfl) rfl (by kernel_rfl) ?_
 refine Dr.done (by kernel_rfl) ?_
 refine qs ?_
 refine qs ?_
 refine qg ?_
 refine og 1 [(0, (ptr r)), (4, (Value.slice none 0 0)), (6, (Value.bool (m.term == s.term))), (121, (Value.iface 101 (MV 2 m.ok m E ec D dc)))] 1 ?_
 refine od ?_
 refine q_block (id := 0) (by kernel_rfl) ?_
 refine qs ?_
 refine qg ?_
 refine og 3 [(0, (ptr r)), (4, (Value.slice none 0 0)), (6, (Value.bool (m.term == s.term))), (121, (Value.iface 101 (MV 2 m.ok m E ec D dc))), (123, (Value.bool false)), (124, (agg [(i64 0), (i64 0), (i64 0), (i64 0), (i64 0), (i64 0), (i64 0), (i64 0), (Value.bool false), (Value.slice none 0 0), (Value.slice none 0 0)]))] 3 ?_
 refine od ?_
 refine q_else (o := .tmp 123) (by kernel_rfl) rfl ?_
 refine qs ?_
 refine qg ?_
 refine og 3 [(0, (ptr r)), (4, (Value.slice none 0 0)), (6, (Value.bool (m.term == s.term))), (121, (Value.iface 101 (MV 2 m.ok m E ec D dc))), (177, (Value.bool true)), (178, (MV 2 m.ok m E ec D dc))] 3 ?_
 refine od ?_
 refine q_then (o := .tmp 177) (by kernel_rfl) rfl ?_
 refine qs ?_
 refine qg ?_
 refine Ops.new (o := rowL [(i64 0), (i64 0), (i64 0), (i64 0), (i64 0), (i64 0), (i64 0), (i64 0), (Value.bool false), (Value.slice none 0 0), (Value.slice none 0 0)] 101) (V := fun b => (ptr b)) (by kernel_rfl) (d := (some 9)) (by kernel_rfl) (fun b => rfl) (fun b5 w6 hb7 H8 K9 hs10 => ?_)
 have lb5r : r < b5 := by have := Hr.lt; omega
 have lb5g : g < b5 := by have := (H0.keep K0 (fun h => hrg h.symm)).lt; omega
 have nb5 : w.heap.size ≤ b5 := by have := K0.size; omega
 have ot11 : ∀ i, T i → i ≠ b5 := fun i hi => by have := Ents.lt (Ents.keep hE K0 hrT) i hi; omega
 have of12 : ∀ i, (KF kv) i → i ≠ b5 := fun i hi => by have := ImgK.lt (ImgK.keep hKv K0 hKr) i hi; omega
 have of13 : ∀ i, CF i → i ≠ b5 := fun i hi => by have := (ImgC.keep hCv K0 hCr).1 i hi; omega
 have ot14 : ∀ i, U i → i ≠ b5 := fun i hi => by have := Ents.lt (Ents.keep hY K0 hUr) i hi; omega
 replace K0 := K0.tn K9
 replace Hr := Hr.keep K9 (fun h => h)
 clear K9 hs10
 refine Ops.put (t := 101) (b := b5) (off := 0) (v := (MV 2 m.ok m E ec D dc)) (ys := [(i64 2), (i64 m.group), (i64 m.frm), (i64 m.to), (i64 m.term), (i64 m.index), (i64 m.logTerm), (i64 m.commit), (Value.bool m.ok), (Value.slice E m.entries.length ec), (Value.slice D m.data.length dc)]) (by kernel_rfl) (by kernel_rfl) H8 (by kernel_rfl) (d := none) (by kernel_rfl) rfl (fun w15 H16 K17 => ?_)
 clear H8
 replace K0 := K0.trans K17 (U := (fun i => i = r)) (fun i h1 h2 => h2) (fun i h1 h2 => by have h2 : i = b5 := h2; show i = r; omega)
 replace Hr := Hr.k1 K17 (by omega)
 clear K17
 refine od ?_
 refine qs ?_
 refine qg ?_
 refine og 2 [(0, (ptr r)), (4, (Value.slice none 0 0)), (6, (Value.bool (m.term == s.term))), (9, (ptr b5)), (121, (Value.iface 101 (MV 2 m.ok m E ec D dc))), (180, (Value.bool (m.term == s.term)))] 2 ?_
 refine Ops.split (m.term == s.term) (fun h18 => ?_) (fun h18 => ?_)
 ·rw [h18]
  have p19 : m.term = s.term := of_beq_t h18
  refine og 2 [(0, (ptr r)), (4, (Value.slice none 0 0)), (6, (Value.bool true)), (9, (ptr b5)), (121, (Value.iface 101 (MV 2 m.ok m E ec D dc))), (180, (Value.bool true)), (182, (Value.pointer (some ⟨b5, 8, none⟩)))] 4 ?_
  refine Ops.go (v := (Value.bool m.ok)) (by kernel_rfl) (Runs.load (t := 4) (a := ⟨b5, 8, none⟩) (by kernel_rfl) (H16.loads (by kernel_rfl))) (d := (some 183)) (by kernel_rfl) rfl ?_
  refine og 2 [(0, (ptr r)), (4, (Value.slice none 0 0)), (6, (Value.bool true)), (9, (ptr b5)), (121, (Value.iface 101 (MV 2 m.ok m E ec D dc))), (185, (Value.bool m.ok))] 7 ?_
  refine Ops.split m.ok (fun h20 => ?_) (fun h20 => ?_)
  ·rw [h20]
   have p21 : m.ok = true := h20
   refine og 4 [(0, (ptr r)), (4, (Value.slice none 0 0)), (6, (Value.bool true)), (9, (ptr b5)), (121, (Value.iface 101 (MV 2 true m E ec D dc))), (185, (Value.bool true)), (189, (Value.pointer (some ⟨r, 2, none⟩)))] 11 ?_
   refine Ops.go (v := (i64 0)) (by kernel_rfl) (Runs.load (t := 3) (a := ⟨r, 2, none⟩) (by kernel_rfl) (Hr.loads (by kernel_rfl))) (d := (some 190)) (by kernel_rfl) rfl ?_
   refine og 2 [(0, (ptr r)), (4, (Value.slice none 0 0)), (6, (Value.bool true)), (9, (ptr b5)), (121, (Value.iface 101 (MV 2 true m E ec D dc))), (192, (Value.bool false))] 14 ?_
   refine od ?_
   refine q_else (o := .tmp 192) (by kernel_rfl) rfl ?_
   refine q_skip (by kernel_rfl) ?_
   refine qs ?_
   refine qg ?_
   refine og 1 [(4, (Value.slice none 0 0)), (325, (ptr r))] 1 ?_
   refine Ops.call (by kernel_rfl) (d := (some 326)) (by kernel_rfl) (Fflush_calls _ r g s.term s.voted s.leader s.commit q.group q.me q.n s.elapsed q.timeout kv cv came (Value.slice none 0 0) Hr) ?_
   rintro _ w23 ⟨rfl, K22, H24⟩
   refine ⟨_, _, rfl, rfl, ?_⟩
   replace K0 := K0.t1 K22 (fun _ => rfl)
   replace H16 := H16.k1 K22 (by omega)
   clear K22
   refine og 1 [(4, (Value.slice none 0 0))] 3 ?_
   refine od ?_
   refine q_ret (by kernel_rfl) ?_
   refine ⟨(Value.slice none 0 0), retv_tmp rfl rfl, ?_⟩
   exact ⟨(⟨s.term, s.voted, s.leader, s.commit, s.elapsed, s.base, s.old, (l.map EntP.key)⟩ : FolS), (Value.slice none 0 0), none, rfl, (K0.mono (fun i _ h => by rw [h]; exact hFr)), ⟨g, T, CF, A, c, l, kv, cv, came, H24, (H0.keep K0 (fun h => hrg h.symm)), (Ents.keep hE K0 hrT), rfl, (ImgK.keep hKv K0 hKr), (ImgC.keep hCv K0 hCr), fun i hi => ⟨hrT i hi, hT i hi, (hT7 i hi).2.2.1, .inl (hT7 i hi).2.2.2, Ents.lt (Ents.keep hE K0 hrT) i hi⟩, fun i hi => ⟨hKr i hi, hKg i hi, (hK8 i hi).2.2.1, .inl (hK8 i hi).2.2.2, ImgK.lt (ImgK.keep hKv K0 hKr) i hi⟩, fun i hi => ⟨hCr i hi, hCg i hi, .inl (hC9 i hi).2.2, (ImgC.keep hCv K0 hCr).1 i hi⟩, by omega, ⟨.inl hFr, H24.lt⟩, ⟨.inl hFg, (H0.keep K0 (fun h => hrg h.symm)).lt⟩, ⟨by show 0 ≤ (s.base : Int) ∧ (s.base : Int) ≤ 1152921504606846976; omega, by show ((l.map EntP.key)).length ≤ 4096; rw [List.length_map]; omega, hBig, by show (s.base : Int) ≤ s.commit ∧ (s.commit : Int) ≤ 2305843009213693952; omega⟩⟩, rfl, rfl, by show s.commit ≤ s.commit; omega, fun h2 => by show s.voted = s.voted; omega, fun x hx => by cases hx⟩
  ·rw [h20]
   have p25 : m.ok = false := h20
   refine og 7 [(0, (ptr r)), (4, (Value.slice none 0 0)), (6, (Value.bool true)), (9, (ptr b5)), (121, (Value.iface 101 (MV 2 false m E ec D dc))), (192, (Value.bool false))] 14 ?_
   refine od ?_
   refine q_else (o := .tmp 192) (by kernel_rfl) rfl ?_
   refine q_skip (by kernel_rfl) ?_
   refine qs ?_
   refine qg ?_
   refine og 1 [(4, (Value.slice none 0 0)), (325, (ptr r))] 1 ?_
   refine Ops.call (by kernel_rfl) (d := (some 326)) (by kernel_rfl) (Fflush_calls _ r g s.term s.voted s.leader s.commit q.group q.me q.n s.elapsed q.timeout kv cv came (Value.slice none 0 0) Hr) ?_
   rintro _ w27 ⟨rfl, K26, H28⟩
   refine ⟨_, _, rfl, rfl, ?_⟩
   replace K0 := K0.t1 K26 (fun _ => rfl)
   replace H16 := H16.k1 K26 (by omega)
   clear K26
   refine og 1 [(4, (Value.slice none 0 0))] 3 ?_
   refine od ?_
   refine q_ret (by kernel_rfl) ?_
   refine ⟨(Value.slice none 0 0), retv_tmp rfl rfl, ?_⟩
   exact ⟨(⟨s.term, s.voted, s.leader, s.commit, s.elapsed, s.base, s.old, (l.map EntP.key)⟩ : FolS), (Value.slice none 0 0), none, rfl, (K0.mono (fun i _ h => by rw [h]; exact hFr)), ⟨g, T, CF, A, c, l, kv, cv, came, H28, (H0.keep K0 (fun h => hrg h.symm)), (Ents.keep hE K0 hrT), rfl, (ImgK.keep hKv K0 hKr), (ImgC.keep hCv K0 hCr), fun i hi => ⟨hrT i hi, hT i hi, (hT7 i hi).2.2.1, .inl (hT7 i hi).2.2.2, Ents.lt (Ents.keep hE K0 hrT) i hi⟩, fun i hi => ⟨hKr i hi, hKg i hi, (hK8 i hi).2.2.1, .inl (hK8 i hi).2.2.2, ImgK.lt (ImgK.keep hKv K0 hKr) i hi⟩, fun i hi => ⟨hCr i hi, hCg i hi, .inl (hC9 i hi).2.2, (ImgC.keep hCv K0 hCr).1 i hi⟩, by omega, ⟨.inl hFr, H28.lt⟩, ⟨.inl hFg, (H0.keep K0 (fun h => hrg h.symm)).lt⟩, ⟨by show 0 ≤ (s.base : Int) ∧ (s.base : Int) ≤ 1152921504606846976; omega, by show ((l.map EntP.key)).length ≤ 4096; rw [List.length_map]; omega, hBig, by show (s.base : Int) ≤ s.commit ∧ (s.commit : Int) ≤ 2305843009213693952; omega⟩⟩, rfl, rfl, by show s.commit ≤ s.commit; omega, fun h2 => by show s.voted = s.voted; omega, fun x hx => by cases hx⟩
 ·rw [h18]
  have p29 : ¬ (m.term = s.term) := of_beq_f h18
  refine og 12 [(0, (ptr r)), (4, (Value.slice none 0 0)), (6, (Value.bool false)), (9, (ptr b5)), (121, (Value.iface 101 (MV 2 m.ok m E ec D dc))), (192, (Value.bool false))] 14 ?_
  refine od ?_
  refine q_else (o := .tmp 192) (by kernel_rfl) rfl ?_
  refine q_skip (by kernel_rfl) ?_
  refine qs ?_
  refine qg ?_
  refine og 1 [(4, (Value.slice none 0 0)), (325, (ptr r))] 1 ?_
  refine Ops.call (by kernel_rfl) (d := (some 326)) (by kernel_rfl) (Fflush_calls _ r g s.term s.voted s.leader s.commit q.group q.me q.n s.elapsed q.timeout kv cv came (Value.slice none 0 0) Hr) ?_
  rintro _ w31 ⟨rfl, K30, H32⟩
  refine ⟨_, _, rfl, rfl, ?_⟩
  replace K0 := K0.t1 K30 (fun _ => rfl)
  replace H16 := H16.k1 K30 (by omega)
  clear K30
  refine og 1 [(4, (Value.slice none 0 0))] 3 ?_
  refine od ?_
  refine q_ret (by kernel_rfl) ?_
  refine ⟨(Value.slice none 0 0), retv_tmp rfl rfl, ?_⟩
  exact ⟨(⟨s.term, s.voted, s.leader, s.commit, s.elapsed, s.base, s.old, (l.map EntP.key)⟩ : FolS), (Value.slice none 0 0), none, rfl, (K0.mono (fun i _ h => by rw [h]; exact hFr)), ⟨g, T, CF, A, c, l, kv, cv, came, H32, (H0.keep K0 (fun h => hrg h.symm)), (Ents.keep hE K0 hrT), rfl, (ImgK.keep hKv K0 hKr), (ImgC.keep hCv K0 hCr), fun i hi => ⟨hrT i hi, hT i hi, (hT7 i hi).2.2.1, .inl (hT7 i hi).2.2.2, Ents.lt (Ents.keep hE K0 hrT) i hi⟩, fun i hi => ⟨hKr i hi, hKg i hi, (hK8 i hi).2.2.1, .inl (hK8 i hi).2.2.2, ImgK.lt (ImgK.keep hKv K0 hKr) i hi⟩, fun i hi => ⟨hCr i hi, hCg i hi, .inl (hC9 i hi).2.2, (ImgC.keep hCv K0 hCr).1 i hi⟩, by omega, ⟨.inl hFr, H32.lt⟩, ⟨.inl hFg, (H0.keep K0 (fun h => hrg h.symm)).lt⟩, ⟨by show 0 ≤ (s.base : Int) ∧ (s.base : Int) ≤ 1152921504606846976; omega, by show ((l.map EntP.key)).length ≤ 4096; rw [List.length_map]; omega, hBig, by show (s.base : Int) ≤ s.commit ∧ (s.commit : Int) ≤ 2305843009213693952; omega⟩⟩, rfl, rfl, by show s.commit ≤ s.commit; omega, fun h2 => by show s.voted = s.voted; omega, fun x hx => by cases hx⟩

set_option maxHeartbeats 4000000 in
theorem Step_add (w : World) (F : Nat → Prop) (r : Nat) (q : FolQ) (s : FolS) (m : MsgP) (E : Option Addr) (ec : Nat) (D : Option Addr) (dc : Nat) (U : Nat → Prop) (hF : Fol w F r q s (.slice none 0 0)) (hY : Ents w U (.slice E m.entries.length ec) m.entries) (hBigY : BigK (m.entries.map EntP.key)) (hYl : m.entries.length * 32 ≤ 140737488351232) (hUF : ∀ i, U i → ¬ F i) (hD : RdB w (.slice D m.data.length dc) m.data) (hDU : m.data ≠ [] → ∀ i, (Value.slice D m.data.length dc).ownBlock = some i → ¬ F i ∧ i < w.heap.size) (hdb : m.data.length ≤ 140737488351232) (hb2 : ¬ ((m.group ≠ q.group ∨ m.to ≠ q.me ∨ m.frm = q.me ∨ m.frm < 0 ∨ q.n ≤ m.frm) ∨ (m.term < 1 ∨ 1152921504606846976 < m.term ∨ m.index < 0 ∨ 1152921504606846976 < m.index ∨ m.logTerm < 0 ∨ 1152921504606846976 < m.logTerm ∨ m.commit < 0 ∨ 1152921504606846976 < m.commit))) (hnow : m.term ≤ s.term) (hk : m.kind = 3) : wp Try.prog Try.f20.ntmps (cd Try.f20 [1, 1, 1, 1, 1]) (retQ Try.prog Try.f20 (fun e w' => ∃ (s' : FolS) (ov : Value) (o : Option OutM), e = .returned ov ∧ Keeps F w w' ∧ Fol w' (fun i => (F i ∨ w.heap.size ≤ i) ∧ i < w'.heap.size) r q s' (.slice none 0 0) ∧ OutIs w' w.heap.size q ov o ∧ s'.term = s.term ∧ s.commit ≤ s'.commit ∧ (0 ≤ s.voted → s'.voted = s.voted) ∧ ∀ x, o = some x → x.kind = 2 → x.ok = true → x.term = s'.term ∧ x.to = s'.voted ∧ 0 ≤ s'.voted ∧ s'.base = s.base ∧ s'.old = s.old ∧ s'.ks = s.ks ∧ (lastK s.base s.old s.ks < m.logTerm ∨ m.logTerm = lastK s.base s.old s.ks ∧ s.base + ((s.ks.length : Nat) : Int) ≤ m.index))) [(0, (ptr r)), (4, (Value.slice none 0 0)), (5, (Value.iface 103 (MV 3 m.ok m E ec D dc)))] w := by
 obtain ⟨g, T, CF, A, c, l, kv, cv, came, Hr, H0, hE, hK, hKv, hCv, hT7, hK8, hC9, hrg, hFr, hFg, hOk⟩ := hF
 have hC0 := hCv.1
 have hT : ∀ i, T i → i ≠ g := fun i hi => (hT7 i hi).2.1
 have hrT : ∀ i, T i → i ≠ r := fun i hi => (hT7 i hi).1
 have hL : l.length ≤ 4096 := by have z := hOk.len; rw [← hK, List.length_map] at z; exact z
 have hBig : BigK (l.map EntP.key) := by rw [hK]; exact hOk.big
 have hB := hOk.base
 have hCm := hOk.commit
 have hKr : ∀ i, KF kv i → i ≠ r := fun i hi => (hK8 i hi).1
 have hKg : ∀ i, KF kv i → i ≠ g := fun i hi => (hK8 i hi).2.1
 have hcap := Ents.len hE
 have Hg := H0.lt
 have Hrl := Hr.lt
 have hCr : ∀ i, CF i → i ≠ r := fun i hi => (hC9 i hi).1
 have hCg : ∀ i, CF i → i ≠ g := fun i hi => (hC9 i hi).2.1
 have hUr : ∀ i, U i → i ≠ r := fun i hi h => hUF i hi (h ▸ hFr)
 have hUg : ∀ i, U i → i ≠ g := fun i hi h => hUF i hi (h ▸ hFg)
 have K0 : Keeps (fun i => i = r) w w := (Keeps.refl w).mono (fun _ _ h => h.elim)
 refine qs ?_
 refine q_draw (fun wz => Keeps none_ w wz) 10 (by kernel_rfl) (by kernel_rfl) (by kernel_rfl) (fun w1 K2 _ _ => ⟨K2, ?_⟩)
 replace K0 := K0.tn K2
 replace Hr := Hr.keep K2 (fun h => h)
 refine Dr.strong (S' := (fun wz => Keeps none_ w1 wz)) (Keeps.refl w1) (fun wz hx => K2.trans hx (fun i _ h => h) (fun _ _ h => h)) ?_
 clear K2
 refine Dr.takes (fuel' := 5) (is' := _) [0, 3, 4, 5, 6] [(0, (ptr r)), (4, (Value.slice none 0 0)), (5, (Value.iface 103 (MV 3 m.ok m E ec D dc))), (112, (Value.iface 103 (MV 3 m.ok m E ec D dc))), (118, (ptr r))] (by kernel_rfl) rfl (by kernel_rfl) ?_
 refine Dr.take (i := 7) (v := (i64 s.term)) (by kernel_rfl) (by kernel_rfl) (fun wz hS => Runs.load (t := 2) (a := ⟨r, 0, none⟩) (by kernel_rfl) ((Hr.keep hS (fun h => h)).loads (by kernel_rfl))) (d := (some 119)) (by kernel_rfl) rfl ?_
 refine Dr.call (i := 1) (by kernel_rfl) (by kernel_rfl) (d := (some 113)) (by kernel_rfl) (fun _ => of3_calls _ m E ec D dc) ?_
 rintro _ w4 ⟨rfl, K3⟩
 replace K0 := K0.tn K3
 replace Hr := Hr.keep K3 (fun h => h)
 refine ⟨_, _, rfl, rfl, K3, ?_⟩
 refine Dr.strong (S' := (fun wz => Keeps none_ w4 wz)) (Keeps.refl w4) (fun wz hx => K3.trans hx (fun i _ h => h) (fun _ _ h => h)) ?_
 clear K3
 refine Dr.takes (fuel' := 0) (is' := _) [2, 8, 9] [(0, (ptr r)), (4, (Value.slice none 0 0)), (5, (Value.iface 103 (MV 3 m.ok m E ec D dc))), (6, (Value.bool (m.term == s.term)))] (by kernel_rfl) rfl (by kernel_rfl) ?_
 refine Dr.done (by kernel_rfl) ?_
 refine qs ?_
 refine qs ?_
 refine qg ?_
 refine og 1 [(0, (ptr r)), (4, (Value.slice none 0 0)), (6, (Value.bool (m.term == s.term))), (121, (Value.iface 103 (MV 3 m.ok m E ec D dc)))] 1 ?_
 refine od ?_
 refine q_block (id := 0) (by kernel_rfl) ?_
 refine qs ?_
 refine qg ?_
 refine og 3 [(0, (ptr r)), (4, (Value.slice none 0 0)), (6, (Value.bool (m.term == s.term))), (121, (Value.iface 103 (MV 3 m.ok m E ec D dc))), (123, (Value.bool false)), (124, (agg [(i64 0), (i64 0), (i64 0), (i64 0), (i64 0), (i64 0), (i64 0), (i64 0), (Value.bool false), (Value.slice none 0 0), (Value.slice none 0 0)]))] 3 ?_
 refine od ?_
 refine q_else (o := .tmp 123) (by kernel_rfl) rfl ?_
 refine qs ?_
 refine qg ?_
 refine og 3 [(0, (ptr r)), (4, (Value.slice none 0 0)), (6, (Value.bool (m.term == s.term))), (121, (Value.iface 103 (MV 3 m.ok m E ec D dc))), (177, (Value.bool false)), (178, (agg [(i64 0), (i64 0), (i64 0), (i64 0), (i64 0), (i64 0), (i64 0), (i64 0), (Value.bool false), (Value.slice none 0 0), (Value.slice none 0 0)]))] 3 ?_
 refine od ?_
 refine q_else (o := .tmp 177) (by kernel_rfl) rfl ?_
 refine qs ?_
 refine qg ?_
 refine og 3 [(0, (ptr r)), (4, (Value.slice none 0 0)), (6, (Value.bool (m.term == s.term))), (121, (Value.iface 103 (MV 3 m.ok m E ec D dc))), (210, (Value.bool true)), (211, (MV 3 m.ok m E ec D dc))] 3 ?_
 refine od ?_
 refine q_then (o := .tmp 210) (by kernel_rfl) rfl ?_
 refine qs ?_
 refine qg ?_
 refine Ops.new (o := rowL [(i64 0), (i64 0), (i64 0), (i64 0), (i64 0), (i64 0), (i64 0), (i64 0), (Value.bool false), (Value.slice none 0 0), (Value.slice none 0 0)] 103) (V := fun b => (ptr b)) (by kernel_rfl) (d := (some 10)) (by kernel_rfl) (fun b => rfl) (fun b5 w6 hb7 H8 K9 hs10 => ?_)
 have lb5r : r < b5 := by have := Hr.lt; omega
 have lb5g : g < b5 := by have := (H0.keep K0 (fun h => hrg h.symm)).lt; omega
 have nb5 : w.heap.size ≤ b5 := by have := K0.size; omega
 have ot11 : ∀ i, T i → i ≠ b5 := fun i hi => by have := Ents.lt (Ents.keep hE K0 hrT) i hi; omega
 have of12 : ∀ i, (KF kv) i → i ≠ b5 := fun i hi => by have := ImgK.lt (ImgK.keep hKv K0 hKr) i hi; omega
 have of13 : ∀ i, CF i → i ≠ b5 := fun i hi => by have := (ImgC.keep hCv K0 hCr).1 i hi; omega
 have ot14 : ∀ i, U i → i ≠ b5 := fun i hi => by have := Ents.lt (Ents.keep hY K0 hUr) i hi; omega
 replace K0 := K0.tn K9
 replace Hr := Hr.keep K9 (fun h => h)
 clear K9 hs10
 refine Ops.put (t := 103) (b := b5) (off := 0) (v := (MV 3 m.ok m E ec D dc)) (ys := [(i64 3), (i64 m.group), (i64 m.frm), (i64 m.to), (i64 m.term), (i64 m.index), (i64 m.logTerm), (i64 m.commit), (Value.bool m.ok), (Value.slice E m.entries.length ec), (Value.slice D m.data.length dc)]) (by kernel_rfl) (by kernel_rfl) H8 (by kernel_rfl) (d := none) (by kernel_rfl) rfl (fun w15 H16 K17 => ?_)
 clear H8
 replace K0 := K0.trans K17 (U := (fun i => i = r)) (fun i h1 h2 => h2) (fun i h1 h2 => by have h2 : i = b5 := h2; show i = r; omega)
 replace Hr := Hr.k1 K17 (by omega)
 clear K17
 refine od ?_
 refine q_block (id := 1) (by kernel_rfl) ?_
 refine qs ?_
 refine qg ?_
 refine og 3 [(0, (ptr r)), (4, (Value.slice none 0 0)), (6, (Value.bool (m.term == s.term))), (10, (ptr b5)), (121, (Value.iface 103 (MV 3 m.ok m E ec D dc))), (212, (Value.bool (!(m.term == s.term))))] 3 ?_
 refine od ?_
 refine q_cond (o := .tmp 212) (b := (!(m.term == s.term))) (by kernel_rfl) rfl (fun h18 => ?_) (fun h18 => ?_)
 ·rw [h18]
  have p19 : ¬ (m.term = s.term) := of_beq_f (bnot_true h18)
  try rw [bnot_true h18]
  refine qg ?_
  refine og 3 [(0, (ptr r)), (4, (Value.slice none 0 0)), (6, (Value.bool false)), (10, (ptr b5)), (121, (Value.iface 103 (MV 3 m.ok m E ec D dc))), (215, (ptr r)), (217, (Value.pointer (some ⟨b5, 2, none⟩)))] 3 ?_
  refine Ops.go (v := (i64 m.frm)) (by kernel_rfl) (Runs.load (t := 3) (a := ⟨b5, 2, none⟩) (by kernel_rfl) (H16.loads (by kernel_rfl))) (d := (some 218)) (by kernel_rfl) rfl ?_
  refine og 1 [(0, (ptr r)), (4, (Value.slice none 0 0)), (6, (Value.bool false)), (10, (ptr b5)), (121, (Value.iface 103 (MV 3 m.ok m E ec D dc))), (215, (ptr r)), (218, (i64 m.frm)), (219, (agg [(i64 4), (i64 0), (i64 0), (i64 0), (i64 0), (i64 0), (i64 0), (i64 0), (Value.bool false), (Value.slice none 0 0), (Value.slice none 0 0)]))] 5 ?_
  refine Ops.call (by kernel_rfl) (d := (some 220)) (by kernel_rfl) (Fput_calls _ r g s.term s.voted s.leader s.commit q.group q.me q.n s.elapsed q.timeout kv cv came m.frm 4 0 0 false Hr) ?_
  rintro _ w24 ⟨ob20, cap21, rest22, rfl, K23, H25, H26, hn27⟩
  have nob20 : w.heap.size ≤ ob20 := by have := K0.size; omega
  have lob20r : r < ob20 := by have := Hr.lt; omega
  have lob20g : g < ob20 := by have := (H0.keep K0 (fun h => hrg h.symm)).lt; omega
  have lob20b5 : b5 < ob20 := by have := H16.lt; omega
  have ot28 : ∀ i, T i → i ≠ ob20 := fun i hi => by have := Ents.lt (Ents.keep hE K0 hrT) i hi; omega
  have of29 : ∀ i, (KF kv) i → i ≠ ob20 := fun i hi => by have := ImgK.lt (ImgK.keep hKv K0 hKr) i hi; omega
  have of30 : ∀ i, CF i → i ≠ ob20 := fun i hi => by have := (ImgC.keep hCv K0 hCr).1 i hi; omega
  have ot31 : ∀ i, U i → i ≠ ob20 := fun i hi => by have := Ents.lt (Ents.keep hY K0 hUr) i hi; omega
  refine ⟨_, _, rfl, rfl, ?_⟩
  replace K0 := K0.t1 K23 (fun _ => rfl)
  replace H16 := H16.k1 K23 (by omega)
  clear K23
  refine od ?_
  refine qs ?_
  refine qg ?_
  refine og 1 [(4, (Value.slice none 0 0)), (325, (ptr r))] 1 ?_
  refine Ops.call (by kernel_rfl) (d := (some 326)) (by kernel_rfl) (Fflush_calls _ r g s.term s.voted s.leader s.commit q.group q.me q.n s.elapsed q.timeout kv cv came (Value.slice (some ⟨ob20, 0, none⟩) 1 cap21) H25) ?_
  rintro _ w33 ⟨rfl, K32, H34⟩
  refine ⟨_, _, rfl, rfl, ?_⟩
  replace K0 := K0.t1 K32 (fun _ => rfl)
  replace H16 := H16.k1 K32 (by omega)
  replace H26 := H26.k1 K32 (by omega)
  clear K32
  refine og 1 [(4, (Value.slice (some ⟨ob20, 0, none⟩) 1 cap21))] 3 ?_
  refine od ?_
  refine q_ret (by kernel_rfl) ?_
  refine ⟨(Value.slice (some ⟨ob20, 0, none⟩) 1 cap21), retv_tmp rfl rfl, ?_⟩
  exact ⟨(⟨s.term, s.voted, s.leader, s.commit, s.elapsed, s.base, s.old, (l.map EntP.key)⟩ : FolS), (Value.slice (some ⟨ob20, 0, none⟩) 1 cap21), some (⟨4, m.frm, s.term, 0, 0, false⟩ : OutM), rfl, (K0.mono (fun i _ h => by rw [h]; exact hFr)), ⟨g, T, CF, A, c, l, kv, cv, came, H34, (H0.keep K0 (fun h => hrg h.symm)), (Ents.keep hE K0 hrT), rfl, (ImgK.keep hKv K0 hKr), (ImgC.keep hCv K0 hCr), fun i hi => ⟨hrT i hi, hT i hi, (hT7 i hi).2.2.1, .inl (hT7 i hi).2.2.2, Ents.lt (Ents.keep hE K0 hrT) i hi⟩, fun i hi => ⟨hKr i hi, hKg i hi, (hK8 i hi).2.2.1, .inl (hK8 i hi).2.2.2, ImgK.lt (ImgK.keep hKv K0 hKr) i hi⟩, fun i hi => ⟨hCr i hi, hCg i hi, .inl (hC9 i hi).2.2, (ImgC.keep hCv K0 hCr).1 i hi⟩, by omega, ⟨.inl hFr, H34.lt⟩, ⟨.inl hFg, (H0.keep K0 (fun h => hrg h.symm)).lt⟩, ⟨by show 0 ≤ (s.base : Int) ∧ (s.base : Int) ≤ 1152921504606846976; omega, by show ((l.map EntP.key)).length ≤ 4096; rw [List.length_map]; omega, hBig, by show (s.base : Int) ≤ s.commit ∧ (s.commit : Int) ≤ 2305843009213693952; omega⟩⟩, ⟨ob20, cap21, rest22, rfl, nob20, H26⟩, rfl, by show s.commit ≤ s.commit; omega, fun h2 => by show s.voted = s.voted; omega, fun x hx hk => by cases hx; exact absurd hk (show (4 : Int) ≠ 2 by decide)⟩
 ·rw [h18]
  have p35 : m.term = s.term := of_beq_t (bnot_false h18)
  try rw [bnot_false h18]
  refine qs ?_
  refine qg ?_
  refine og 4 [(0, (ptr r)), (4, (Value.slice none 0 0)), (6, (Value.bool true)), (10, (ptr b5)), (121, (Value.iface 103 (MV 3 m.ok m E ec D dc))), (225, (Value.pointer (some ⟨r, 2, none⟩)))] 4 ?_
  refine Ops.go (v := (i64 0)) (by kernel_rfl) (Runs.load (t := 3) (a := ⟨r, 2, none⟩) (by kernel_rfl) (Hr.loads (by kernel_rfl))) (d := (some 226)) (by kernel_rfl) rfl ?_
  refine og 2 [(0, (ptr r)), (4, (Value.slice none 0 0)), (6, (Value.bool true)), (10, (ptr b5)), (121, (Value.iface 103 (MV 3 m.ok m E ec D dc))), (221, (Value.bool true))] 7 ?_
  refine od ?_
  refine q_then (o := .tmp 221) (by kernel_rfl) rfl ?_
  refine qg ?_
  refine og 2 [(0, (ptr r)), (4, (Value.slice none 0 0)), (6, (Value.bool true)), (121, (Value.iface 103 (MV 3 m.ok m E ec D dc))), (228, (ptr r)), (229, (ptr b5))] 2 ?_
  refine Ops.go (v := (MV 3 m.ok m E ec D dc)) (by kernel_rfl) (Runs.load (t := 46) (a := ⟨b5, 0, none⟩) (by kernel_rfl) (H16.loads (by kernel_rfl))) (d := (some 230)) (by kernel_rfl) rfl ?_
  refine Ops.call (by kernel_rfl) (d := (some 231)) (by kernel_rfl) (by have z := add_calls _ r g s.term s.voted s.leader s.commit q.group q.me q.n s.elapsed q.timeout kv cv came T s.base s.old A c l m E ec D dc U Hr (H0.keep K0 (fun h => hrg h.symm)) (Ents.keep hE K0 hrT) hT (by omega) (by omega) (by omega) hrT hBig (Ents.keep hY K0 hUr) hBigY hYl hUr hUg ⟨by omega, by omega, by omega, by omega, by omega, by omega⟩ (by omega) (by omega); rw [hk] at z; exact z) ?_
  rintro _ w47 ⟨g36, A37, c38, l39, T40, cm41, ob42, cap43, rest44, ix45, ok46, rfl, K48, H49, H50, hE51, hl52, hb53, hT54, hg55, hr56, hc57, H58, hn59⟩
  have ot60 : ∀ i, T40 i → i ≠ r := fun i hi => (hT54 i hi).2.1
  have ot61 : ∀ i, T40 i → i ≠ b5 := fun i hi => by rcases (hT54 i hi).2.2 with z | z; (exact ot11 i z); (have := H16.lt; omega)
  have dg36b5 : g36 ≠ b5 := by have := H16.lt; omega
  have ot62 : ∀ i, T40 i → i ≠ g36 := fun i hi => (hT54 i hi).1
  have of63 : ∀ i, (KF kv) i → i ≠ g36 := fun i hi => by have := hKg i hi; have := ImgK.lt (ImgK.keep hKv K0 hKr) i hi; omega
  have of64 : ∀ i, CF i → i ≠ g36 := fun i hi => by have := hCg i hi; have := (ImgC.keep hCv K0 hCr).1 i hi; omega
  have or65 : ∀ i, T40 i → T i ∨ w.heap.size ≤ i := fun i hi => (hT54 i hi).2.2.elim (fun z => .inl z) (fun z => .inr (Nat.le_trans K0.size z))
  have fg36 : F g36 ∨ w.heap.size ≤ g36 := by rcases hg55 with z | z; (rw [z]; exact .inl hFg); (exact .inr (Nat.le_trans K0.size z))
  have nob42 : w.heap.size ≤ ob42 := by have := K0.size; omega
  have lob42r : r < ob42 := by have := Hr.lt; omega
  have lob42g : g < ob42 := by have := (H0.keep K0 (fun h => hrg h.symm)).lt; omega
  have lob42b5 : b5 < ob42 := by have := H16.lt; omega
  have ot66 : ∀ i, T i → i ≠ ob42 := fun i hi => by have := Ents.lt (Ents.keep hE K0 hrT) i hi; omega
  have of67 : ∀ i, (KF kv) i → i ≠ ob42 := fun i hi => by have := ImgK.lt (ImgK.keep hKv K0 hKr) i hi; omega
  have of68 : ∀ i, CF i → i ≠ ob42 := fun i hi => by have := (ImgC.keep hCv K0 hCr).1 i hi; omega
  have ot69 : ∀ i, U i → i ≠ ob42 := fun i hi => by have := Ents.lt (Ents.keep hY K0 hUr) i hi; omega
  refine ⟨_, _, rfl, rfl, ?_⟩
  replace K0 := K0.t1 K48 (fun _ => rfl)
  replace H16 := H16.k1 K48 (by omega)
  clear K48
  refine od ?_
  refine qs ?_
  refine qg ?_
  refine og 1 [(4, (Value.slice none 0 0)), (325, (ptr r))] 1 ?_
  refine Ops.call (by kernel_rfl) (d := (some 326)) (by kernel_rfl) (Fflush_calls _ r g36 s.term s.voted m.frm cm41 q.group q.me q.n 0 q.timeout kv cv came (Value.slice (some ⟨ob42, 0, none⟩) 1 cap43) H49) ?_
  rintro _ w71 ⟨rfl, K70, H72⟩
  refine ⟨_, _, rfl, rfl, ?_⟩
  replace K0 := K0.t1 K70 (fun _ => rfl)
  replace H16 := H16.k1 K70 (by omega)
  replace H50 := H50.k1 K70 (by omega)
  replace H58 := H58.k1 K70 (by omega)
  replace hE51 := Ents.keep hE51 K70 ot60
  clear K70
  refine og 1 [(4, (Value.slice (some ⟨ob42, 0, none⟩) 1 cap43))] 3 ?_
  refine od ?_
  refine q_ret (by kernel_rfl) ?_
  refine ⟨(Value.slice (some ⟨ob42, 0, none⟩) 1 cap43), retv_tmp rfl rfl, ?_⟩
  exact ⟨(⟨s.term, s.voted, m.frm, cm41, 0, s.base, s.old, (l39.map EntP.key)⟩ : FolS), (Value.slice (some ⟨ob42, 0, none⟩) 1 cap43), some (⟨4, m.frm, s.term, ix45, 0, ok46⟩ : OutM), rfl, (K0.mono (fun i _ h => by rw [h]; exact hFr)), ⟨g36, T40, CF, A37, c38, l39, kv, cv, came, H72, H50, hE51, rfl, (ImgK.keep hKv K0 hKr), (ImgC.keep hCv K0 hCr), fun i hi => ⟨ot60 i hi, ot62 i hi, (or65 i hi).elim (fun z => (hT7 i z).2.2.1) (fun z h => by have := hC0 i h; omega), (or65 i hi).imp (fun z => (hT7 i z).2.2.2) id, Ents.lt hE51 i hi⟩, fun i hi => ⟨hKr i hi, of63 i hi, (hK8 i hi).2.2.1, .inl (hK8 i hi).2.2.2, ImgK.lt (ImgK.keep hKv K0 hKr) i hi⟩, fun i hi => ⟨hCr i hi, of64 i hi, .inl (hC9 i hi).2.2, (ImgC.keep hCv K0 hCr).1 i hi⟩, by omega, ⟨.inl hFr, H72.lt⟩, ⟨fg36, H50.lt⟩, ⟨by show 0 ≤ (s.base : Int) ∧ (s.base : Int) ≤ 1152921504606846976; omega, by show ((l39.map EntP.key)).length ≤ 4096; rw [List.length_map]; omega, hb53, by show (s.base : Int) ≤ cm41 ∧ (cm41 : Int) ≤ 2305843009213693952; omega⟩⟩, ⟨ob42, cap43, rest44, rfl, nob42, H58⟩, rfl, by show s.commit ≤ cm41; omega, fun h2 => by show s.voted = s.voted; omega, fun x hx hk => by cases hx; exact absurd hk (show (4 : Int) ≠ 2 by decide)⟩

set_option maxHeartbeats 4000000 in
theorem Step_addTold (w : World) (F : Nat → Prop) (r : Nat) (q : FolQ) (s : FolS) (m : MsgP) (E : Option Addr) (ec : Nat) (D : Option Addr) (dc : Nat) (U : Nat → Prop) (hF : Fol w F r q s (.slice none 0 0)) (hY : Ents w U (.slice E m.entries.length ec) m.entries) (hBigY : BigK (m.entries.map EntP.key)) (hYl : m.entries.length * 32 ≤ 140737488351232) (hUF : ∀ i, U i → ¬ F i) (hD : RdB w (.slice D m.data.length dc) m.data) (hDU : m.data ≠ [] → ∀ i, (Value.slice D m.data.length dc).ownBlock = some i → ¬ F i ∧ i < w.heap.size) (hdb : m.data.length ≤ 140737488351232) (hb2 : ¬ ((m.group ≠ q.group ∨ m.to ≠ q.me ∨ m.frm = q.me ∨ m.frm < 0 ∨ q.n ≤ m.frm) ∨ (m.term < 1 ∨ 1152921504606846976 < m.term ∨ m.index < 0 ∨ 1152921504606846976 < m.index ∨ m.logTerm < 0 ∨ 1152921504606846976 < m.logTerm ∨ m.commit < 0 ∨ 1152921504606846976 < m.commit))) (hnow : m.term ≤ s.term) (hk : m.kind = 4) : wp Try.prog Try.f20.ntmps (cd Try.f20 [1, 1, 1, 1, 1]) (retQ Try.prog Try.f20 (fun e w' => ∃ (s' : FolS) (ov : Value) (o : Option OutM), e = .returned ov ∧ Keeps F w w' ∧ Fol w' (fun i => (F i ∨ w.heap.size ≤ i) ∧ i < w'.heap.size) r q s' (.slice none 0 0) ∧ OutIs w' w.heap.size q ov o ∧ s'.term = s.term ∧ s.commit ≤ s'.commit ∧ (0 ≤ s.voted → s'.voted = s.voted) ∧ ∀ x, o = some x → x.kind = 2 → x.ok = true → x.term = s'.term ∧ x.to = s'.voted ∧ 0 ≤ s'.voted ∧ s'.base = s.base ∧ s'.old = s.old ∧ s'.ks = s.ks ∧ (lastK s.base s.old s.ks < m.logTerm ∨ m.logTerm = lastK s.base s.old s.ks ∧ s.base + ((s.ks.length : Nat) : Int) ≤ m.index))) [(0, (ptr r)), (4, (Value.slice none 0 0)), (5, (Value.iface 105 (MV 4 m.ok m E ec D dc)))] w := by
 obtain ⟨g, T, CF, A, c, l, kv, cv, came, Hr, H0, hE, hK, hKv, hCv, hT7, hK8, hC9, hrg, hFr, hFg, hOk⟩ := hF
 have hC0 := hCv.1
 have hT : ∀ i, T i → i ≠ g := fun i hi => (hT7 i hi).2.1
 have hrT : ∀ i, T i → i ≠ r := fun i hi => (hT7 i hi).1
 have hL : l.length ≤ 4096 := by have z := hOk.len; rw [← hK, List.length_map] at z; exact z
 have hBig : BigK (l.map EntP.key) := by rw [hK]; exact hOk.big
 have hB := hOk.base
 have hCm := hOk.commit
 have hKr : ∀ i, KF kv i → i ≠ r := fun i hi => (hK8 i hi).1
 have hKg : ∀ i, KF kv i → i ≠ g := fun i hi => (hK8 i hi).2.1
 have hcap := Ents.len hE
 have Hg := H0.lt
 have Hrl := Hr.lt
 have hCr : ∀ i, CF i → i ≠ r := fun i hi => (hC9 i hi).1
 have hCg : ∀ i, CF i → i ≠ g := fun i hi => (hC9 i hi).2.1
 have hUr : ∀ i, U i → i ≠ r := fun i hi h => hUF i hi (h ▸ hFr)
 have hUg : ∀ i, U i → i ≠ g := fun i hi h => hUF i hi (h ▸ hFg)
 have K0 : Keeps (fun i => i = r) w w := (Keeps.refl w).mono (fun _ _ h => h.elim)
 refine qs ?_
 refine q_draw (fun wz => Keeps none_ w wz) 10 (by kernel_rfl) (by kernel_rfl) (by kernel_rfl) (fun w1 K2 _ _ => ⟨K2, ?_⟩)
 replace K0 := K0.tn K2
 replace Hr := Hr.keep K2 (fun h => h)
 refine Dr.strong (S' := (fun wz => Keeps none_ w1 wz)) (Keeps.refl w1) (fun wz hx => K2.trans hx (fun i _ h => h) (fun _ _ h => h)) ?_
 clear K2
 refine Dr.takes (fuel' := 5) (is' := _) [0, 3, 4, 5, 6] [(0, (ptr r)), (4, (Value.slice none 0 0)), (5, (Value.iface 105 (MV 4 m.ok m E ec D dc))), (112, (Value.iface 105 (MV 4 m.ok m E ec D dc))), (118, (ptr r))] (by kernel_rfl) rfl (by kernel_rfl) ?_
 refine Dr.take (i := 7) (v := (i64 s.term)) (by kernel_rfl) (by kernel_rfl) (fun wz hS => Runs.load (t := 2) (a := ⟨r, 0, none⟩) (by kernel_rfl) ((Hr.keep hS (fun h => h)).loads (by kernel_rfl))) (d := (some 119)) (by kernel_rfl) rfl ?_
 refine Dr.call (i := 1) (by kernel_rfl) (by kernel_rfl) (d := (some 113)) (by kernel_rfl) (fun _ => of4_calls _ m E ec D dc) ?_
 rintro _ w4 ⟨rfl, K3⟩
 replace K0 := K0.tn K3
 replace Hr := Hr.keep K3 (fun h => h)
 refine ⟨_, _, rfl, rfl, K3, ?_⟩
 refine Dr.strong (S' := (fun wz => Keeps none_ w4 wz)) (Keeps.refl w4) (fun wz hx => K3.trans hx (fun i _ h => h) (fun _ _ h => h)) ?_
 clear K3
 refine Dr.takes (fuel' := 0) (is' := _) [2, 8, 9] [(0, (ptr r)), (4, (Value.slice none 0 0)), (5, (Value.iface 105 (MV 4 m.ok m E ec D dc))), (6, (Value.bool (m.term == s.term)))] (by kernel_rfl) rfl (by kernel_rfl) ?_
 refine Dr.done (by kernel_rfl) ?_
 refine qs ?_
 refine qs ?_
 refine qg ?_
 refine og 1 [(0, (ptr r)), (4, (Value.slice none 0 0)), (6, (Value.bool (m.term == s.term))), (121, (Value.iface 105 (MV 4 m.ok m E ec D dc)))] 1 ?_
 refine od ?_
 refine q_block (id := 0) (by kernel_rfl) ?_
 refine qs ?_
 refine qg ?_
 refine og 3 [(0, (ptr r)), (4, (Value.slice none 0 0)), (6, (Value.bool (m.term == s.term))), (121, (Value.iface 105 (MV 4 m.ok m E ec D dc))), (123, (Value.bool false)), (124, (agg [(i64 0), (i64 0), (i64 0), (i64 0), (i64 0), (i64 0), (i64 0), (i64 0), (Value.bool false), (Value.slice none 0 0), (Value.slice none 0 0)]))] 3 ?_
 refine od ?_
 refine q_else (o := .tmp 123) (by kernel_rfl) rfl ?_
 refine qs ?_
 refine qg ?_
 refine og 3 [(0, (ptr r)), (4, (Value.slice none 0 0)), (6, (Value.bool (m.term == s.term))), (121, (Value.iface 105 (MV 4 m.ok m E ec D dc))), (177, (Value.bool false)), (178, (agg [(i64 0), (i64 0), (i64 0), (i64 0), (i64 0), (i64 0), (i64 0), (i64 0), (Value.bool false), (Value.slice none 0 0), (Value.slice none 0 0)]))] 3 ?_
 refine od ?_
 refine q_else (o := .tmp 177) (by kernel_rfl) rfl ?_
 refine qs ?_
 refine qg ?_
 refine og 3 [(0, (ptr r)), (4, (Value.slice none 0 0)), (6, (Value.bool (m.term == s.term))), (121, (Value.iface 105 (MV 4 m.ok m E ec D dc))), (210, (Value.bool false)), (211, (agg [(i64 0), (i64 0), (i64 0), (i64 0), (i64 0), (i64 0), (i64 0), (i64 0), (Value.bool false), (Value.slice none 0 0), (Value.slice none 0 0)]))] 3 ?_
 refine od ?_
 refine q_else (o := .tmp 210) (by kernel_rfl) rfl ?_
 refine qs ?_
 refine qg ?_
 refine og 3 [(0, (ptr r)), (4, (Value.slice none 0 0)), (6, (Value.bool (m.term == s.term))), (121, (Value.iface 105 (MV 4 m.ok m E ec D dc))), (233, (Value.bool true)), (234, (MV 4 m.ok m E ec D dc))] 3 ?_
 refine od ?_
 refine q_then (o := .tmp 233) (by kernel_rfl) rfl ?_
 refine qs ?_
 refine qg ?_
 refine Ops.new (o := rowL [(i64 0), (i64 0), (i64 0), (i64 0), (i64 0), (i64 0), (i64 0), (i64 0), (Value.bool false), (Value.slice none 0 0), (Value.slice none 0 0)] 105) (V := fun b => (ptr b)) (by kernel_rfl) (d := (some 11)) (by kernel_rfl) (fun b => rfl) (fun b5 w6 hb7 H8 K9 hs10 => ?_)
 have lb5r : r < b5 := by have := Hr.lt; omega
 have lb5g : g < b5 := by have := (H0.keep K0 (fun h => hrg h.symm)).lt; omega
 have nb5 : w.heap.size ≤ b5 := by have := K0.size; omega
 have ot11 : ∀ i, T i → i ≠ b5 := fun i hi => by have := Ents.lt (Ents.keep hE K0 hrT) i hi; omega
 have of12 : ∀ i, (KF kv) i → i ≠ b5 := fun i hi => by have := ImgK.lt (ImgK.keep hKv K0 hKr) i hi; omega
 have of13 : ∀ i, CF i → i ≠ b5 := fun i hi => by have := (ImgC.keep hCv K0 hCr).1 i hi; omega
 have ot14 : ∀ i, U i → i ≠ b5 := fun i hi => by have := Ents.lt (Ents.keep hY K0 hUr) i hi; omega
 replace K0 := K0.tn K9
 replace Hr := Hr.keep K9 (fun h => h)
 clear K9 hs10
 refine Ops.put (t := 105) (b := b5) (off := 0) (v := (MV 4 m.ok m E ec D dc)) (ys := [(i64 4), (i64 m.group), (i64 m.frm), (i64 m.to), (i64 m.term), (i64 m.index), (i64 m.logTerm), (i64 m.commit), (Value.bool m.ok), (Value.slice E m.entries.length ec), (Value.slice D m.data.length dc)]) (by kernel_rfl) (by kernel_rfl) H8 (by kernel_rfl) (d := none) (by kernel_rfl) rfl (fun w15 H16 K17 => ?_)
 clear H8
 replace K0 := K0.trans K17 (U := (fun i => i = r)) (fun i h1 h2 => h2) (fun i h1 h2 => by have h2 : i = b5 := h2; show i = r; omega)
 replace Hr := Hr.k1 K17 (by omega)
 clear K17
 refine od ?_
 refine qs ?_
 refine qg ?_
 refine og 2 [(0, (ptr r)), (4, (Value.slice none 0 0)), (6, (Value.bool (m.term == s.term))), (11, (ptr b5)), (121, (Value.iface 105 (MV 4 m.ok m E ec D dc))), (236, (Value.bool (m.term == s.term)))] 2 ?_
 refine Ops.split (m.term == s.term) (fun h18 => ?_) (fun h18 => ?_)
 ·rw [h18]
  have p19 : m.term = s.term := of_beq_t h18
  refine og 4 [(0, (ptr r)), (4, (Value.slice none 0 0)), (6, (Value.bool true)), (11, (ptr b5)), (121, (Value.iface 105 (MV 4 m.ok m E ec D dc))), (236, (Value.bool true)), (240, (Value.pointer (some ⟨r, 2, none⟩)))] 6 ?_
  refine Ops.go (v := (i64 0)) (by kernel_rfl) (Runs.load (t := 3) (a := ⟨r, 2, none⟩) (by kernel_rfl) (Hr.loads (by kernel_rfl))) (d := (some 241)) (by kernel_rfl) rfl ?_
  refine og 2 [(0, (ptr r)), (4, (Value.slice none 0 0)), (6, (Value.bool true)), (11, (ptr b5)), (121, (Value.iface 105 (MV 4 m.ok m E ec D dc))), (243, (Value.bool false))] 9 ?_
  refine od ?_
  refine q_else (o := .tmp 243) (by kernel_rfl) rfl ?_
  refine q_skip (by kernel_rfl) ?_
  refine qs ?_
  refine qg ?_
  refine og 1 [(4, (Value.slice none 0 0)), (325, (ptr r))] 1 ?_
  refine Ops.call (by kernel_rfl) (d := (some 326)) (by kernel_rfl) (Fflush_calls _ r g s.term s.voted s.leader s.commit q.group q.me q.n s.elapsed q.timeout kv cv came (Value.slice none 0 0) Hr) ?_
  rintro _ w21 ⟨rfl, K20, H22⟩
  refine ⟨_, _, rfl, rfl, ?_⟩
  replace K0 := K0.t1 K20 (fun _ => rfl)
  replace H16 := H16.k1 K20 (by omega)
  clear K20
  refine og 1 [(4, (Value.slice none 0 0))] 3 ?_
  refine od ?_
  refine q_ret (by kernel_rfl) ?_
  refine ⟨(Value.slice none 0 0), retv_tmp rfl rfl, ?_⟩
  exact ⟨(⟨s.term, s.voted, s.leader, s.commit, s.elapsed, s.base, s.old, (l.map EntP.key)⟩ : FolS), (Value.slice none 0 0), none, rfl, (K0.mono (fun i _ h => by rw [h]; exact hFr)), ⟨g, T, CF, A, c, l, kv, cv, came, H22, (H0.keep K0 (fun h => hrg h.symm)), (Ents.keep hE K0 hrT), rfl, (ImgK.keep hKv K0 hKr), (ImgC.keep hCv K0 hCr), fun i hi => ⟨hrT i hi, hT i hi, (hT7 i hi).2.2.1, .inl (hT7 i hi).2.2.2, Ents.lt (Ents.keep hE K0 hrT) i hi⟩, fun i hi => ⟨hKr i hi, hKg i hi, (hK8 i hi).2.2.1, .inl (hK8 i hi).2.2.2, ImgK.lt (ImgK.keep hKv K0 hKr) i hi⟩, fun i hi => ⟨hCr i hi, hCg i hi, .inl (hC9 i hi).2.2, (ImgC.keep hCv K0 hCr).1 i hi⟩, by omega, ⟨.inl hFr, H22.lt⟩, ⟨.inl hFg, (H0.keep K0 (fun h => hrg h.symm)).lt⟩, ⟨by show 0 ≤ (s.base : Int) ∧ (s.base : Int) ≤ 1152921504606846976; omega, by show ((l.map EntP.key)).length ≤ 4096; rw [List.length_map]; omega, hBig, by show (s.base : Int) ≤ s.commit ∧ (s.commit : Int) ≤ 2305843009213693952; omega⟩⟩, rfl, rfl, by show s.commit ≤ s.commit; omega, fun h2 => by show s.voted = s.voted; omega, fun x hx => by cases hx⟩
 ·rw [h18]
  have p23 : ¬ (m.term = s.term) := of_beq_f h18
  refine og 7 [(0, (ptr r)), (4, (Value.slice none 0 0)), (6, (Value.bool false)), (11, (ptr b5)), (121, (Value.iface 105 (MV 4 m.ok m E ec D dc))), (243, (Value.bool false))] 9 ?_
  refine od ?_
  refine q_else (o := .tmp 243) (by kernel_rfl) rfl ?_
  refine q_skip (by kernel_rfl) ?_
  refine qs ?_
  refine qg ?_
  refine og 1 [(4, (Value.slice none 0 0)), (325, (ptr r))] 1 ?_
  refine Ops.call (by kernel_rfl) (d := (some 326)) (by kernel_rfl) (Fflush_calls _ r g s.term s.voted s.leader s.commit q.group q.me q.n s.elapsed q.timeout kv cv came (Value.slice none 0 0) Hr) ?_
  rintro _ w25 ⟨rfl, K24, H26⟩
  refine ⟨_, _, rfl, rfl, ?_⟩
  replace K0 := K0.t1 K24 (fun _ => rfl)
  replace H16 := H16.k1 K24 (by omega)
  clear K24
  refine og 1 [(4, (Value.slice none 0 0))] 3 ?_
  refine od ?_
  refine q_ret (by kernel_rfl) ?_
  refine ⟨(Value.slice none 0 0), retv_tmp rfl rfl, ?_⟩
  exact ⟨(⟨s.term, s.voted, s.leader, s.commit, s.elapsed, s.base, s.old, (l.map EntP.key)⟩ : FolS), (Value.slice none 0 0), none, rfl, (K0.mono (fun i _ h => by rw [h]; exact hFr)), ⟨g, T, CF, A, c, l, kv, cv, came, H26, (H0.keep K0 (fun h => hrg h.symm)), (Ents.keep hE K0 hrT), rfl, (ImgK.keep hKv K0 hKr), (ImgC.keep hCv K0 hCr), fun i hi => ⟨hrT i hi, hT i hi, (hT7 i hi).2.2.1, .inl (hT7 i hi).2.2.2, Ents.lt (Ents.keep hE K0 hrT) i hi⟩, fun i hi => ⟨hKr i hi, hKg i hi, (hK8 i hi).2.2.1, .inl (hK8 i hi).2.2.2, ImgK.lt (ImgK.keep hKv K0 hKr) i hi⟩, fun i hi => ⟨hCr i hi, hCg i hi, .inl (hC9 i hi).2.2, (ImgC.keep hCv K0 hCr).1 i hi⟩, by omega, ⟨.inl hFr, H26.lt⟩, ⟨.inl hFg, (H0.keep K0 (fun h => hrg h.symm)).lt⟩, ⟨by show 0 ≤ (s.base : Int) ∧ (s.base : Int) ≤ 1152921504606846976; omega, by show ((l.map EntP.key)).length ≤ 4096; rw [List.length_map]; omega, hBig, by show (s.base : Int) ≤ s.commit ∧ (s.commit : Int) ≤ 2305843009213693952; omega⟩⟩, rfl, rfl, by show s.commit ≤ s.commit; omega, fun h2 => by show s.voted = s.voted; omega, fun x hx => by cases hx⟩

set_option maxHeartbeats 4000000 in
theorem Step_snap (w : World) (F : Nat → Prop) (r : Nat) (q : FolQ) (s : FolS) (m : MsgP) (E : Option Addr) (ec : Nat) (D : Option Addr) (dc : Nat) (U : Nat → Prop) (hF : Fol w F r q s (.slice none 0 0)) (hY : Ents w U (.slice E m.entries.length ec) m.entries) (hBigY : BigK (m.entries.map EntP.key)) (hYl : m.entries.length * 32 ≤ 140737488351232) (hUF : ∀ i, U i → ¬ F i) (hD : RdB w (.slice D m.data.length dc) m.data) (hDU : m.data ≠ [] → ∀ i, (Value.slice D m.data.length dc).ownBlock = some i → ¬ F i ∧ i < w.heap.size) (hdb : m.data.length ≤ 140737488351232) (hb2 : ¬ ((m.group ≠ q.group ∨ m.to ≠ q.me ∨ m.frm = q.me ∨ m.frm < 0 ∨ q.n ≤ m.frm) ∨ (m.term < 1 ∨ 1152921504606846976 < m.term ∨ m.index < 0 ∨ 1152921504606846976 < m.index ∨ m.logTerm < 0 ∨ 1152921504606846976 < m.logTerm ∨ m.commit < 0 ∨ 1152921504606846976 < m.commit))) (hnow : m.term ≤ s.term) (hk : m.kind = 5) : wp Try.prog Try.f20.ntmps (cd Try.f20 [1, 1, 1, 1, 1]) (retQ Try.prog Try.f20 (fun e w' => ∃ (s' : FolS) (ov : Value) (o : Option OutM), e = .returned ov ∧ Keeps F w w' ∧ Fol w' (fun i => (F i ∨ w.heap.size ≤ i) ∧ i < w'.heap.size) r q s' (.slice none 0 0) ∧ OutIs w' w.heap.size q ov o ∧ s'.term = s.term ∧ s.commit ≤ s'.commit ∧ (0 ≤ s.voted → s'.voted = s.voted) ∧ ∀ x, o = some x → x.kind = 2 → x.ok = true → x.term = s'.term ∧ x.to = s'.voted ∧ 0 ≤ s'.voted ∧ s'.base = s.base ∧ s'.old = s.old ∧ s'.ks = s.ks ∧ (lastK s.base s.old s.ks < m.logTerm ∨ m.logTerm = lastK s.base s.old s.ks ∧ s.base + ((s.ks.length : Nat) : Int) ≤ m.index))) [(0, (ptr r)), (4, (Value.slice none 0 0)), (5, (Value.iface 106 (MV 5 m.ok m E ec D dc)))] w := by
 obtain ⟨g, T, CF, A, c, l, kv, cv, came, Hr, H0, hE, hK, hKv, hCv, hT7, hK8, hC9, hrg, hFr, hFg, hOk⟩ := hF
 have hC0 := hCv.1
 have hT : ∀ i, T i → i ≠ g := fun i hi => (hT7 i hi).2.1
 have hrT : ∀ i, T i → i ≠ r := fun i hi => (hT7 i hi).1
 have hL : l.length ≤ 4096 := by have z := hOk.len; rw [← hK, List.length_map] at z; exact z
 have hBig : BigK (l.map EntP.key) := by rw [hK]; exact hOk.big
 have hB := hOk.base
 have hCm := hOk.commit
 have hKr : ∀ i, KF kv i → i ≠ r := fun i hi => (hK8 i hi).1
 have hKg : ∀ i, KF kv i → i ≠ g := fun i hi => (hK8 i hi).2.1
 have hcap := Ents.len hE
 have Hg := H0.lt
 have Hrl := Hr.lt
 have hCr : ∀ i, CF i → i ≠ r := fun i hi => (hC9 i hi).1
 have hCg : ∀ i, CF i → i ≠ g := fun i hi => (hC9 i hi).2.1
 have hUr : ∀ i, U i → i ≠ r := fun i hi h => hUF i hi (h ▸ hFr)
 have hUg : ∀ i, U i → i ≠ g := fun i hi h => hUF i hi (h ▸ hFg)
 have K0 : Keeps (fun i => i = r) w w := (Keeps.refl w).mono (fun _ _ h => h.elim)
 refine qs ?_
 refine q_draw (fun wz => Keeps none_ w wz) 10 (by kernel_rfl) (by kernel_rfl) (by kernel_rfl) (fun w1 K2 _ _ => ⟨K2, ?_⟩)
 replace K0 := K0.tn K2
 replace Hr := Hr.keep K2 (fun h => h)
 refine Dr.strong (S' := (fun wz => Keeps none_ w1 wz)) (Keeps.refl w1) (fun wz hx => K2.trans hx (fun i _ h => h) (fun _ _ h => h)) ?_
 clear K2
 refine Dr.takes (fuel' := 5) (is' := _) [0, 3, 4, 5, 6] [(0, (ptr r)), (4, (Value.slice none 0 0)), (5, (Value.iface 106 (MV 5 m.ok m E ec D dc))), (112, (Value.iface 106 (MV 5 m.ok m E ec D dc))), (118, (ptr r))] (by kernel_rfl) rfl (by kernel_rfl) ?_
 refine Dr.take (i := 7) (v := (i64 s.term)) (by kernel_rfl) (by kernel_rfl) (fun wz hS => Runs.load (t := 2) (a := ⟨r, 0, none⟩) (by kernel_rfl) ((Hr.keep hS (fun h => h)).loads (by kernel_rfl))) (d := (some 119)) (by kernel_rfl) rfl ?_
 refine Dr.call (i := 1) (by kernel_rfl) (by kernel_rfl) (d := (some 113)) (by kernel_rfl) (fun _ => of5_calls _ m E ec D dc) ?_
 rintro _ w4 ⟨rfl, K3⟩
 replace K0 := K0.tn K3
 replace Hr := Hr.keep K3 (fun h => h)
 refine ⟨_, _, rfl, rfl, K3, ?_⟩
 refine Dr.strong (S' := (fun wz => Keeps none_ w4 wz)) (Keeps.refl w4) (fun wz hx => K3.trans hx (fun i _ h => h) (fun _ _ h => h)) ?_
 clear K3
 refine Dr.takes (fuel' := 0) (is' := _) [2, 8, 9] [(0, (ptr r)), (4, (Value.slice none 0 0)), (5, (Value.iface 106 (MV 5 m.ok m E ec D dc))), (6, (Value.bool (m.term == s.term)))] (by kernel_rfl) rfl (by kernel_rfl) ?_
 refine Dr.done (by kernel_rfl) ?_
 refine qs ?_
 refine qs ?_
 refine qg ?_
 refine og 1 [(0, (ptr r)), (4, (Value.slice none 0 0)), (6, (Value.bool (m.term == s.term))), (121, (Value.iface 106 (MV 5 m.ok m E ec D dc)))] 1 ?_
 refine od ?_
 refine q_block (id := 0) (by kernel_rfl) ?_
 refine qs ?_
 refine qg ?_
 refine og 3 [(0, (ptr r)), (4, (Value.slice none 0 0)), (6, (Value.bool (m.term == s.term))), (121, (Value.iface 106 (MV 5 m.ok m E ec D dc))), (123, (Value.bool false)), (124, (agg [(i64 0), (i64 0), (i64 0), (i64 0), (i64 0), (i64 0), (i64 0), (i64 0), (Value.bool false), (Value.slice none 0 0), (Value.slice none 0 0)]))] 3 ?_
 refine od ?_
 refine q_else (o := .tmp 123) (by kernel_rfl) rfl ?_
 refine qs ?_
 refine qg ?_
 refine og 3 [(0, (ptr r)), (4, (Value.slice none 0 0)), (6, (Value.bool (m.term == s.term))), (121, (Value.iface 106 (MV 5 m.ok m E ec D dc))), (177, (Value.bool false)), (178, (agg [(i64 0), (i64 0), (i64 0), (i64 0), (i64 0), (i64 0), (i64 0), (i64 0), (Value.bool false), (Value.slice none 0 0), (Value.slice none 0 0)]))] 3 ?_
 refine od ?_
 refine q_else (o := .tmp 177) (by kernel_rfl) rfl ?_
 refine qs ?_
 refine qg ?_
 refine og 3 [(0, (ptr r)), (4, (Value.slice none 0 0)), (6, (Value.bool (m.term == s.term))), (121, (Value.iface 106 (MV 5 m.ok m E ec D dc))), (210, (Value.bool false)), (211, (agg [(i64 0), (i64 0), (i64 0), (i64 0), (i64 0), (i64 0), (i64 0), (i64 0), (Value.bool false), (Value.slice none 0 0), (Value.slice none 0 0)]))] 3 ?_
 refine od ?_
 refine q_else (o := .tmp 210) (by kernel_rfl) rfl ?_
 refine qs ?_
 refine qg ?_
 refine og 3 [(0, (ptr r)), (4, (Value.slice none 0 0)), (6, (Value.bool (m.term == s.term))), (121, (Value.iface 106 (MV 5 m.ok m E ec D dc))), (233, (Value.bool false)), (234, (agg [(i64 0), (i64 0), (i64 0), (i64 0), (i64 0), (i64 0), (i64 0), (i64 0), (Value.bool false), (Value.slice none 0 0), (Value.slice none 0 0)]))] 3 ?_
 refine od ?_
 refine q_else (o := .tmp 233) (by kernel_rfl) rfl ?_
 refine qs ?_
 refine qg ?_
 refine og 3 [(0, (ptr r)), (4, (Value.slice none 0 0)), (6, (Value.bool (m.term == s.term))), (121, (Value.iface 106 (MV 5 m.ok m E ec D dc))), (249, (Value.bool true)), (250, (MV 5 m.ok m E ec D dc))] 3 ?_
 refine od ?_
 refine q_then (o := .tmp 249) (by kernel_rfl) rfl ?_
 refine qs ?_
 refine qg ?_
 refine Ops.new (o := rowL [(i64 0), (i64 0), (i64 0), (i64 0), (i64 0), (i64 0), (i64 0), (i64 0), (Value.bool false), (Value.slice none 0 0), (Value.slice none 0 0)] 106) (V := fun b => (ptr b)) (by kernel_rfl) (d := (some 12)) (by kernel_rfl) (fun b => rfl) (fun b5 w6 hb7 H8 K9 hs10 => ?_)
 have lb5r : r < b5 := by have := Hr.lt; omega
 have lb5g : g < b5 := by have := (H0.keep K0 (fun h => hrg h.symm)).lt; omega
 have nb5 : w.heap.size ≤ b5 := by have := K0.size; omega
 have ot11 : ∀ i, T i → i ≠ b5 := fun i hi => by have := Ents.lt (Ents.keep hE K0 hrT) i hi; omega
 have of12 : ∀ i, (KF kv) i → i ≠ b5 := fun i hi => by have := ImgK.lt (ImgK.keep hKv K0 hKr) i hi; omega
 have of13 : ∀ i, CF i → i ≠ b5 := fun i hi => by have := (ImgC.keep hCv K0 hCr).1 i hi; omega
 have ot14 : ∀ i, U i → i ≠ b5 := fun i hi => by have := Ents.lt (Ents.keep hY K0 hUr) i hi; omega
 replace K0 := K0.tn K9
 replace Hr := Hr.keep K9 (fun h => h)
 clear K9 hs10
 refine Ops.put (t := 106) (b := b5) (off := 0) (v := (MV 5 m.ok m E ec D dc)) (ys := [(i64 5), (i64 m.group), (i64 m.frm), (i64 m.to), (i64 m.term), (i64 m.index), (i64 m.logTerm), (i64 m.commit), (Value.bool m.ok), (Value.slice E m.entries.length ec), (Value.slice D m.data.length dc)]) (by kernel_rfl) (by kernel_rfl) H8 (by kernel_rfl) (d := none) (by kernel_rfl) rfl (fun w15 H16 K17 => ?_)
 clear H8
 replace K0 := K0.trans K17 (U := (fun i => i = r)) (fun i h1 h2 => h2) (fun i h1 h2 => by have h2 : i = b5 := h2; show i = r; omega)
 replace Hr := Hr.k1 K17 (by omega)
 clear K17
 refine od ?_
 refine q_block (id := 2) (by kernel_rfl) ?_
 refine qs ?_
 refine qg ?_
 refine og 3 [(0, (ptr r)), (4, (Value.slice none 0 0)), (6, (Value.bool (m.term == s.term))), (12, (ptr b5)), (121, (Value.iface 106 (MV 5 m.ok m E ec D dc))), (251, (Value.bool (!(m.term == s.term))))] 3 ?_
 refine od ?_
 refine q_cond (o := .tmp 251) (b := (!(m.term == s.term))) (by kernel_rfl) rfl (fun h18 => ?_) (fun h18 => ?_)
 ·rw [h18]
  have p19 : ¬ (m.term = s.term) := of_beq_f (bnot_true h18)
  try rw [bnot_true h18]
  refine qg ?_
  refine og 3 [(0, (ptr r)), (4, (Value.slice none 0 0)), (6, (Value.bool false)), (12, (ptr b5)), (121, (Value.iface 106 (MV 5 m.ok m E ec D dc))), (254, (ptr r)), (256, (Value.pointer (some ⟨b5, 2, none⟩)))] 3 ?_
  refine Ops.go (v := (i64 m.frm)) (by kernel_rfl) (Runs.load (t := 3) (a := ⟨b5, 2, none⟩) (by kernel_rfl) (H16.loads (by kernel_rfl))) (d := (some 257)) (by kernel_rfl) rfl ?_
  refine og 2 [(0, (ptr r)), (4, (Value.slice none 0 0)), (6, (Value.bool false)), (12, (ptr b5)), (121, (Value.iface 106 (MV 5 m.ok m E ec D dc))), (254, (ptr r)), (257, (i64 m.frm)), (259, (Value.pointer (some ⟨b5, 5, none⟩)))] 6 ?_
  refine Ops.go (v := (i64 m.index)) (by kernel_rfl) (Runs.load (t := 2) (a := ⟨b5, 5, none⟩) (by kernel_rfl) (H16.loads (by kernel_rfl))) (d := (some 260)) (by kernel_rfl) rfl ?_
  refine og 1 [(0, (ptr r)), (4, (Value.slice none 0 0)), (6, (Value.bool false)), (12, (ptr b5)), (121, (Value.iface 106 (MV 5 m.ok m E ec D dc))), (254, (ptr r)), (257, (i64 m.frm)), (261, (agg [(i64 6), (i64 0), (i64 0), (i64 0), (i64 0), (i64 m.index), (i64 0), (i64 0), (Value.bool false), (Value.slice none 0 0), (Value.slice none 0 0)]))] 8 ?_
  refine Ops.call (by kernel_rfl) (d := (some 262)) (by kernel_rfl) (Fput_calls _ r g s.term s.voted s.leader s.commit q.group q.me q.n s.elapsed q.timeout kv cv came m.frm 6 m.index 0 false Hr) ?_
  rintro _ w24 ⟨ob20, cap21, rest22, rfl, K23, H25, H26, hn27⟩
  have nob20 : w.heap.size ≤ ob20 := by have := K0.size; omega
  have lob20r : r < ob20 := by have := Hr.lt; omega
  have lob20g : g < ob20 := by have := (H0.keep K0 (fun h => hrg h.symm)).lt; omega
  have lob20b5 : b5 < ob20 := by have := H16.lt; omega
  have ot28 : ∀ i, T i → i ≠ ob20 := fun i hi => by have := Ents.lt (Ents.keep hE K0 hrT) i hi; omega
  have of29 : ∀ i, (KF kv) i → i ≠ ob20 := fun i hi => by have := ImgK.lt (ImgK.keep hKv K0 hKr) i hi; omega
  have of30 : ∀ i, CF i → i ≠ ob20 := fun i hi => by have := (ImgC.keep hCv K0 hCr).1 i hi; omega
  have ot31 : ∀ i, U i → i ≠ ob20 := fun i hi => by have := Ents.lt (Ents.keep hY K0 hUr) i hi; omega
  refine ⟨_, _, rfl, rfl, ?_⟩
  replace K0 := K0.t1 K23 (fun _ => rfl)
  replace H16 := H16.k1 K23 (by omega)
  clear K23
  refine od ?_
  refine qs ?_
  refine qg ?_
  refine og 1 [(4, (Value.slice none 0 0)), (325, (ptr r))] 1 ?_
  refine Ops.call (by kernel_rfl) (d := (some 326)) (by kernel_rfl) (Fflush_calls _ r g s.term s.voted s.leader s.commit q.group q.me q.n s.elapsed q.timeout kv cv came (Value.slice (some ⟨ob20, 0, none⟩) 1 cap21) H25) ?_
  rintro _ w33 ⟨rfl, K32, H34⟩
  refine ⟨_, _, rfl, rfl, ?_⟩
  replace K0 := K0.t1 K32 (fun _ => rfl)
  replace H16 := H16.k1 K32 (by omega)
  replace H26 := H26.k1 K32 (by omega)
  clear K32
  refine og 1 [(4, (Value.slice (some ⟨ob20, 0, none⟩) 1 cap21))] 3 ?_
  refine od ?_
  refine q_ret (by kernel_rfl) ?_
  refine ⟨(Value.slice (some ⟨ob20, 0, none⟩) 1 cap21), retv_tmp rfl rfl, ?_⟩
  exact ⟨(⟨s.term, s.voted, s.leader, s.commit, s.elapsed, s.base, s.old, (l.map EntP.key)⟩ : FolS), (Value.slice (some ⟨ob20, 0, none⟩) 1 cap21), some (⟨6, m.frm, s.term, m.index, 0, false⟩ : OutM), rfl, (K0.mono (fun i _ h => by rw [h]; exact hFr)), ⟨g, T, CF, A, c, l, kv, cv, came, H34, (H0.keep K0 (fun h => hrg h.symm)), (Ents.keep hE K0 hrT), rfl, (ImgK.keep hKv K0 hKr), (ImgC.keep hCv K0 hCr), fun i hi => ⟨hrT i hi, hT i hi, (hT7 i hi).2.2.1, .inl (hT7 i hi).2.2.2, Ents.lt (Ents.keep hE K0 hrT) i hi⟩, fun i hi => ⟨hKr i hi, hKg i hi, (hK8 i hi).2.2.1, .inl (hK8 i hi).2.2.2, ImgK.lt (ImgK.keep hKv K0 hKr) i hi⟩, fun i hi => ⟨hCr i hi, hCg i hi, .inl (hC9 i hi).2.2, (ImgC.keep hCv K0 hCr).1 i hi⟩, by omega, ⟨.inl hFr, H34.lt⟩, ⟨.inl hFg, (H0.keep K0 (fun h => hrg h.symm)).lt⟩, ⟨by show 0 ≤ (s.base : Int) ∧ (s.base : Int) ≤ 1152921504606846976; omega, by show ((l.map EntP.key)).length ≤ 4096; rw [List.length_map]; omega, hBig, by show (s.base : Int) ≤ s.commit ∧ (s.commit : Int) ≤ 2305843009213693952; omega⟩⟩, ⟨ob20, cap21, rest22, rfl, nob20, H26⟩, rfl, by show s.commit ≤ s.commit; omega, fun h2 => by show s.voted = s.voted; omega, fun x hx hk => by cases hx; exact absurd hk (show (6 : Int) ≠ 2 by decide)⟩
 ·rw [h18]
  have p35 : m.term = s.term := of_beq_t (bnot_false h18)
  try rw [bnot_false h18]
  refine qs ?_
  refine qg ?_
  refine og 4 [(0, (ptr r)), (4, (Value.slice none 0 0)), (6, (Value.bool true)), (12, (ptr b5)), (121, (Value.iface 106 (MV 5 m.ok m E ec D dc))), (267, (Value.pointer (some ⟨r, 2, none⟩)))] 4 ?_
  refine Ops.go (v := (i64 0)) (by kernel_rfl) (Runs.load (t := 3) (a := ⟨r, 2, none⟩) (by kernel_rfl) (Hr.loads (by kernel_rfl))) (d := (some 268)) (by kernel_rfl) rfl ?_
  refine og 2 [(0, (ptr r)), (4, (Value.slice none 0 0)), (6, (Value.bool true)), (12, (ptr b5)), (121, (Value.iface 106 (MV 5 m.ok m E ec D dc))), (263, (Value.bool true))] 7 ?_
  refine od ?_
  refine q_then (o := .tmp 263) (by kernel_rfl) rfl ?_
  refine qg ?_
  refine og 2 [(0, (ptr r)), (4, (Value.slice none 0 0)), (6, (Value.bool true)), (121, (Value.iface 106 (MV 5 m.ok m E ec D dc))), (270, (ptr r)), (271, (ptr b5))] 2 ?_
  refine Ops.go (v := (MV 5 m.ok m E ec D dc)) (by kernel_rfl) (Runs.load (t := 46) (a := ⟨b5, 0, none⟩) (by kernel_rfl) (H16.loads (by kernel_rfl))) (d := (some 272)) (by kernel_rfl) rfl ?_
  have hF36 : Fol w15 (fun i => (F i ∨ w.heap.size ≤ i) ∧ i < w15.heap.size) r q (⟨s.term, s.voted, s.leader, s.commit, s.elapsed, s.base, s.old, (l.map EntP.key)⟩ : FolS) (.slice none 0 0) := ⟨g, T, CF, A, c, l, kv, cv, came, Hr, (H0.keep K0 (fun h => hrg h.symm)), (Ents.keep hE K0 hrT), rfl, (ImgK.keep hKv K0 hKr), (ImgC.keep hCv K0 hCr), fun i hi => ⟨hrT i hi, hT i hi, (hT7 i hi).2.2.1, .inl (hT7 i hi).2.2.2, Ents.lt (Ents.keep hE K0 hrT) i hi⟩, fun i hi => ⟨hKr i hi, hKg i hi, (hK8 i hi).2.2.1, .inl (hK8 i hi).2.2.2, ImgK.lt (ImgK.keep hKv K0 hKr) i hi⟩, fun i hi => ⟨hCr i hi, hCg i hi, .inl (hC9 i hi).2.2, (ImgC.keep hCv K0 hCr).1 i hi⟩, by omega, ⟨.inl hFr, Hr.lt⟩, ⟨.inl hFg, (H0.keep K0 (fun h => hrg h.symm)).lt⟩, ⟨by show 0 ≤ (s.base : Int) ∧ (s.base : Int) ≤ 1152921504606846976; omega, by show ((l.map EntP.key)).length ≤ 4096; rw [List.length_map]; omega, hBig, by show (s.base : Int) ≤ s.commit ∧ (s.commit : Int) ≤ 2305843009213693952; omega⟩⟩
  have hs49 := K0.size
  have hKF : Keeps F w w15 := (K0.mono (fun i _ h => by rw [h]; exact hFr))
  refine Ops.call (by kernel_rfl) (d := (some 273)) (by kernel_rfl) (by have z := snap_calls _ (fun i => (F i ∨ w.heap.size ≤ i) ∧ i < w15.heap.size) r q (⟨s.term, s.voted, s.leader, s.commit, s.elapsed, s.base, s.old, (l.map EntP.key)⟩ : FolS) m E ec D dc hF36 (RdB.keepg hD K0 (fun hb i hi h => (hDU hb i hi).1 (by rw [h]; exact hFr))) (fun hb i hi => ⟨fun h => h.1.elim (hDU hb i hi).1 (fun z => by have := (hDU hb i hi).2; omega), by have := (hDU hb i hi).2; omega⟩) hdb ⟨by omega, by omega, by omega, by omega⟩; rw [hk] at z; exact z) ?_
  rintro _ w38 ⟨s39, ov40, o41, rfl, K37, hF43, hO44, q45, q46, q47, q48⟩
  have K99 := K37
  refine ⟨_, _, rfl, rfl, ?_⟩
  clear K99
  refine od ?_
  refine qs ?_
  refine qg ?_
  refine og 1 [(4, (Value.slice none 0 0)), (325, (ptr r))] 1 ?_
  refine Ops.call (by kernel_rfl) (d := (some 326)) (by kernel_rfl) (flushF_calls _ (fun i => ((fun i => (F i ∨ w.heap.size ≤ i) ∧ i < w15.heap.size) i ∨ w15.heap.size ≤ i) ∧ i < w38.heap.size) r q s39 ov40 hF43) ?_
  rintro _ w51 ⟨rfl, K50, hF52⟩
  have K98 := K50
  refine ⟨_, _, rfl, rfl, ?_⟩
  clear K98
  refine og 1 [(4, ov40)] 3 ?_
  refine od ?_
  refine q_ret (by kernel_rfl) ?_
  refine ⟨ov40, retv_tmp rfl rfl, ?_⟩
  have hsz1 := K37.size
  have hsz2 := K50.size
  have hKF2 : Keeps F w w51 := (hKF.trans K37 (U := F) (fun i _ h => h) (fun i h1 h => h.1.elim id (fun z => by omega))).trans K50 (U := F) (fun i _ h => h) (fun i h1 h => by rw [h]; exact hFr)
  refine ⟨s39, ov40, some o41, rfl, hKF2, Fol.wide hF52 (fun i hi => ⟨hi.1.elim (fun z => z.1) (fun z => .inr (by omega)), by have := hi.2; omega⟩), ?_, q45, q47, fun _ => q46, fun x hx hk => by cases hx; exact absurd hk q48⟩
  obtain ⟨ob, cap, rest, e1, e2, e3⟩ := hO44
  exact ⟨ob, cap, rest, e1, by omega, e3.keep K50 (fun h => by have h : ob = r := h; omega)⟩

set_option maxHeartbeats 4000000 in
theorem Step_snapTold (w : World) (F : Nat → Prop) (r : Nat) (q : FolQ) (s : FolS) (m : MsgP) (E : Option Addr) (ec : Nat) (D : Option Addr) (dc : Nat) (U : Nat → Prop) (hF : Fol w F r q s (.slice none 0 0)) (hY : Ents w U (.slice E m.entries.length ec) m.entries) (hBigY : BigK (m.entries.map EntP.key)) (hYl : m.entries.length * 32 ≤ 140737488351232) (hUF : ∀ i, U i → ¬ F i) (hD : RdB w (.slice D m.data.length dc) m.data) (hDU : m.data ≠ [] → ∀ i, (Value.slice D m.data.length dc).ownBlock = some i → ¬ F i ∧ i < w.heap.size) (hdb : m.data.length ≤ 140737488351232) (hb2 : ¬ ((m.group ≠ q.group ∨ m.to ≠ q.me ∨ m.frm = q.me ∨ m.frm < 0 ∨ q.n ≤ m.frm) ∨ (m.term < 1 ∨ 1152921504606846976 < m.term ∨ m.index < 0 ∨ 1152921504606846976 < m.index ∨ m.logTerm < 0 ∨ 1152921504606846976 < m.logTerm ∨ m.commit < 0 ∨ 1152921504606846976 < m.commit))) (hnow : m.term ≤ s.term) (hk : m.kind = 6) : wp Try.prog Try.f20.ntmps (cd Try.f20 [1, 1, 1, 1, 1]) (retQ Try.prog Try.f20 (fun e w' => ∃ (s' : FolS) (ov : Value) (o : Option OutM), e = .returned ov ∧ Keeps F w w' ∧ Fol w' (fun i => (F i ∨ w.heap.size ≤ i) ∧ i < w'.heap.size) r q s' (.slice none 0 0) ∧ OutIs w' w.heap.size q ov o ∧ s'.term = s.term ∧ s.commit ≤ s'.commit ∧ (0 ≤ s.voted → s'.voted = s.voted) ∧ ∀ x, o = some x → x.kind = 2 → x.ok = true → x.term = s'.term ∧ x.to = s'.voted ∧ 0 ≤ s'.voted ∧ s'.base = s.base ∧ s'.old = s.old ∧ s'.ks = s.ks ∧ (lastK s.base s.old s.ks < m.logTerm ∨ m.logTerm = lastK s.base s.old s.ks ∧ s.base + ((s.ks.length : Nat) : Int) ≤ m.index))) [(0, (ptr r)), (4, (Value.slice none 0 0)), (5, (Value.iface 107 (MV 6 m.ok m E ec D dc)))] w := by
 obtain ⟨g, T, CF, A, c, l, kv, cv, came, Hr, H0, hE, hK, hKv, hCv, hT7, hK8, hC9, hrg, hFr, hFg, hOk⟩ := hF
 have hC0 := hCv.1
 have hT : ∀ i, T i → i ≠ g := fun i hi => (hT7 i hi).2.1
 have hrT : ∀ i, T i → i ≠ r := fun i hi => (hT7 i hi).1
 have hL : l.length ≤ 4096 := by have z := hOk.len; rw [← hK, List.length_map] at z; exact z
 have hBig : BigK (l.map EntP.key) := by rw [hK]; exact hOk.big
 have hB := hOk.base
 have hCm := hOk.commit
 have hKr : ∀ i, KF kv i → i ≠ r := fun i hi => (hK8 i hi).1
 have hKg : ∀ i, KF kv i → i ≠ g := fun i hi => (hK8 i hi).2.1
 have hcap := Ents.len hE
 have Hg := H0.lt
 have Hrl := Hr.lt
 have hCr : ∀ i, CF i → i ≠ r := fun i hi => (hC9 i hi).1
 have hCg : ∀ i, CF i → i ≠ g := fun i hi => (hC9 i hi).2.1
 have hUr : ∀ i, U i → i ≠ r := fun i hi h => hUF i hi (h ▸ hFr)
 have hUg : ∀ i, U i → i ≠ g := fun i hi h => hUF i hi (h ▸ hFg)
 have K0 : Keeps (fun i => i = r) w w := (Keeps.refl w).mono (fun _ _ h => h.elim)
 refine qs ?_
 refine q_draw (fun wz => Keeps none_ w wz) 10 (by kernel_rfl) (by kernel_rfl) (by kernel_rfl) (fun w1 K2 _ _ => ⟨K2, ?_⟩)
 replace K0 := K0.tn K2
 replace Hr := Hr.keep K2 (fun h => h)
 refine Dr.strong (S' := (fun wz => Keeps none_ w1 wz)) (Keeps.refl w1) (fun wz hx => K2.trans hx (fun i _ h => h) (fun _ _ h => h)) ?_
 clear K2
 refine Dr.takes (fuel' := 5) (is' := _) [0, 3, 4, 5, 6] [(0, (ptr r)), (4, (Value.slice none 0 0)), (5, (Value.iface 107 (MV 6 m.ok m E ec D dc))), (112, (Value.iface 107 (MV 6 m.ok m E ec D dc))), (118, (ptr r))] (by kernel_rfl) rfl (by kernel_rfl) ?_
 refine Dr.take (i := 7) (v := (i64 s.term)) (by kernel_rfl) (by kernel_rfl) (fun wz hS => Runs.load (t := 2) (a := ⟨r, 0, none⟩) (by kernel_rfl) ((Hr.keep hS (fun h => h)).loads (by kernel_rfl))) (d := (some 119)) (by kernel_rfl) rfl ?_
 refine Dr.call (i := 1) (by kernel_rfl) (by kernel_rfl) (d := (some 113)) (by kernel_rfl) (fun _ => of6_calls _ m E ec D dc) ?_
 rintro _ w4 ⟨rfl, K3⟩
 replace K0 := K0.tn K3
 replace Hr := Hr.keep K3 (fun h => h)
 refine ⟨_, _, rfl, rfl, K3, ?_⟩
 refine Dr.strong (S' := (fun wz => Keeps none_ w4 wz)) (Keeps.refl w4) (fun wz hx => K3.trans hx (fun i _ h => h) (fun _ _ h => h)) ?_
 clear K3
 refine Dr.takes (fuel' := 0) (is' := _) [2, 8, 9] [(0, (ptr r)), (4, (Value.slice none 0 0)), (5, (Value.iface 107 (MV 6 m.ok m E ec D dc))), (6, (Value.bool (m.term == s.term)))] (by kernel_rfl) rfl (by kernel_rfl) ?_
 refine Dr.done (by kernel_rfl) ?_
 refine qs ?_
 refine qs ?_
 refine qg ?_
 refine og 1 [(0, (ptr r)), (4, (Value.slice none 0 0)), (6, (Value.bool (m.term == s.term))), (121, (Value.iface 107 (MV 6 m.ok m E ec D dc)))] 1 ?_
 refine od ?_
 refine q_block (id := 0) (by kernel_rfl) ?_
 refine qs ?_
 refine qg ?_
 refine og 3 [(0, (ptr r)), (4, (Value.slice none 0 0)), (6, (Value.bool (m.term == s.term))), (121, (Value.iface 107 (MV 6 m.ok m E ec D dc))), (123, (Value.bool false)), (124, (agg [(i64 0), (i64 0), (i64 0), (i64 0), (i64 0), (i64 0), (i64 0), (i64 0), (Value.bool false), (Value.slice none 0 0), (Value.slice none 0 0)]))] 3 ?_
 refine od ?_
 refine q_else (o := .tmp 123) (by kernel_rfl) rfl ?_
 refine qs ?_
 refine qg ?_
 refine og 3 [(0, (ptr r)), (4, (Value.slice none 0 0)), (6, (Value.bool (m.term == s.term))), (121, (Value.iface 107 (MV 6 m.ok m E ec D dc))), (177, (Value.bool false)), (178, (agg [(i64 0), (i64 0), (i64 0), (i64 0), (i64 0), (i64 0), (i64 0), (i64 0), (Value.bool false), (Value.slice none 0 0), (Value.slice none 0 0)]))] 3 ?_
 refine od ?_
 refine q_else (o := .tmp 177) (by kernel_rfl) rfl ?_
 refine qs ?_
 refine qg ?_
 refine og 3 [(0, (ptr r)), (4, (Value.slice none 0 0)), (6, (Value.bool (m.term == s.term))), (121, (Value.iface 107 (MV 6 m.ok m E ec D dc))), (210, (Value.bool false)), (211, (agg [(i64 0), (i64 0), (i64 0), (i64 0), (i64 0), (i64 0), (i64 0), (i64 0), (Value.bool false), (Value.slice none 0 0), (Value.slice none 0 0)]))] 3 ?_
 refine od ?_
 refine q_else (o := .tmp 210) (by kernel_rfl) rfl ?_
 refine qs ?_
 refine qg ?_
 refine og 3 [(0, (ptr r)), (4, (Value.slice none 0 0)), (6, (Value.bool (m.term == s.term))), (121, (Value.iface 107 (MV 6 m.ok m E ec D dc))), (233, (Value.bool false)), (234, (agg [(i64 0), (i64 0), (i64 0), (i64 0), (i64 0), (i64 0), (i64 0), (i64 0), (Value.bool false), (Value.slice none 0 0), (Value.slice none 0 0)]))] 3 ?_
 refine od ?_
 refine q_else (o := .tmp 233) (by kernel_rfl) rfl ?_
 refine qs ?_
 refine qg ?_
 refine og 3 [(0, (ptr r)), (4, (Value.slice none 0 0)), (6, (Value.bool (m.term == s.term))), (121, (Value.iface 107 (MV 6 m.ok m E ec D dc))), (249, (Value.bool false)), (250, (agg [(i64 0), (i64 0), (i64 0), (i64 0), (i64 0), (i64 0), (i64 0), (i64 0), (Value.bool false), (Value.slice none 0 0), (Value.slice none 0 0)]))] 3 ?_
 refine od ?_
 refine q_else (o := .tmp 249) (by kernel_rfl) rfl ?_
 refine qs ?_
 refine qg ?_
 refine og 3 [(0, (ptr r)), (4, (Value.slice none 0 0)), (6, (Value.bool (m.term == s.term))), (275, (Value.bool true)), (276, (MV 6 m.ok m E ec D dc))] 3 ?_
 refine od ?_
 refine q_then (o := .tmp 275) (by kernel_rfl) rfl ?_
 refine qs ?_
 refine qg ?_
 refine Ops.new (o := rowL [(i64 0), (i64 0), (i64 0), (i64 0), (i64 0), (i64 0), (i64 0), (i64 0), (Value.bool false), (Value.slice none 0 0), (Value.slice none 0 0)] 107) (V := fun b => (ptr b)) (by kernel_rfl) (d := (some 13)) (by kernel_rfl) (fun b => rfl) (fun b5 w6 hb7 H8 K9 hs10 => ?_)
 have lb5r : r < b5 := by have := Hr.lt; omega
 have lb5g : g < b5 := by have := (H0.keep K0 (fun h => hrg h.symm)).lt; omega
 have nb5 : w.heap.size ≤ b5 := by have := K0.size; omega
 have ot11 : ∀ i, T i → i ≠ b5 := fun i hi => by have := Ents.lt (Ents.keep hE K0 hrT) i hi; omega
 have of12 : ∀ i, (KF kv) i → i ≠ b5 := fun i hi => by have := ImgK.lt (ImgK.keep hKv K0 hKr) i hi; omega
 have of13 : ∀ i, CF i → i ≠ b5 := fun i hi => by have := (ImgC.keep hCv K0 hCr).1 i hi; omega
 have ot14 : ∀ i, U i → i ≠ b5 := fun i hi => by have := Ents.lt (Ents.keep hY K0 hUr) i hi; omega
 replace K0 := K0.tn K9
 replace Hr := Hr.keep K9 (fun h => h)
 clear K9 hs10
 refine Ops.put (t := 107) (b := b5) (off := 0) (v := (MV 6 m.ok m E ec D dc)) (ys := [(i64 6), (i64 m.group), (i64 m.frm), (i64 m.to), (i64 m.term), (i64 m.index), (i64 m.logTerm), (i64 m.commit), (Value.bool m.ok), (Value.slice E m.entries.length ec), (Value.slice D m.data.length dc)]) (by kernel_rfl) (by kernel_rfl) H8 (by kernel_rfl) (d := none) (by kernel_rfl) rfl (fun w15 H16 K17 => ?_)
 clear H8
 replace K0 := K0.trans K17 (U := (fun i => i = r)) (fun i h1 h2 => h2) (fun i h1 h2 => by have h2 : i = b5 := h2; show i = r; omega)
 replace Hr := Hr.k1 K17 (by omega)
 clear K17
 refine od ?_
 refine qs ?_
 refine qg ?_
 refine og 1 [(0, (ptr r)), (4, (Value.slice none 0 0)), (6, (Value.bool (m.term == s.term))), (13, (ptr b5)), (277, (ptr r))] 1 ?_
 refine Ops.call (by kernel_rfl) (d := (some 278)) (by kernel_rfl) (current_calls _ r (⟨q.group, q.me, q.n, q.timeout⟩ : FolQ) (⟨s.term, s.voted, s.leader, s.commit, s.elapsed, s.base, s.old, s.ks⟩ : FolS) g T A c l cv came kv Hr (H0.keep K0 (fun h => hrg h.symm)) (Ents.keep hE K0 hrT) hT (by show 0 ≤ (s.base : Int) ∧ _; omega) (by omega) (ImgK.keep hKv K0 hKr)) ?_
 rintro _ w20 ⟨v18, rfl, K19⟩
 refine ⟨_, _, rfl, rfl, ?_⟩
 replace K0 := K0.tn K19
 replace Hr := Hr.keep K19 (fun h => h)
 replace H16 := H16.keep K19 (fun h => h)
 clear K19
 refine og 1 [(0, (ptr r)), (4, (Value.slice none 0 0)), (6, (Value.bool (m.term == s.term))), (13, (ptr b5)), (14, v18)] 3 ?_
 refine od ?_
 refine qs ?_
 refine q_draw (fun wz => Keeps none_ w20 wz) 23 (by kernel_rfl) (by kernel_rfl) (by kernel_rfl) (fun w21 K22 _ _ => ⟨K22, ?_⟩)
 replace K0 := K0.tn K22
 replace Hr := Hr.keep K22 (fun h => h)
 replace H16 := H16.keep K22 (fun h => h)
 refine Dr.strong (S' := (fun wz => Keeps none_ w21 wz)) (Keeps.refl w21) (fun wz hx => K22.trans hx (fun i _ h => h) (fun _ _ h => h)) ?_
 clear K22
 refine Dr.takes (fuel' := 21) (is' := _) [0, 1] [(0, (ptr r)), (4, (Value.slice none 0 0)), (13, (ptr b5)), (14, v18), (280, (Value.bool (m.term == s.term)))] (by kernel_rfl) rfl (by kernel_rfl) ?_
 refine Dr.split (m.term == s.term) (fun h23 => ?_) (fun h23 => ?_)
 ·rw [h23]
  have p24 : m.term = s.term := of_beq_t h23
  refine Dr.takes (fuel' := 17) (is' := _) [2, 3, 4, 5] [(0, (ptr r)), (4, (Value.slice none 0 0)), (13, (ptr b5)), (14, v18), (280, (Value.bool true)), (284, (Value.pointer (some ⟨r, 2, none⟩)))] (by kernel_rfl) rfl (by kernel_rfl) ?_
  refine Dr.take (i := 6) (v := (i64 0)) (by kernel_rfl) (by kernel_rfl) (fun wz hS => Runs.load (t := 3) (a := ⟨r, 2, none⟩) (by kernel_rfl) ((Hr.keep hS (fun h => h)).loads (by kernel_rfl))) (d := (some 285)) (by kernel_rfl) rfl ?_
  refine Dr.takes (fuel' := 0) (is' := _) [7, 8, 9, 10, 11, 12, 13, 14, 15, 16, 17, 18, 19, 20, 21, 22] [(0, (ptr r)), (4, (Value.slice none 0 0)), (13, (ptr b5)), (14, v18), (301, (Value.bool false))] (by kernel_rfl) rfl (by kernel_rfl) ?_
  refine Dr.done (by kernel_rfl) ?_
  refine q_else (o := .tmp 301) (by kernel_rfl) rfl ?_
  refine q_skip (by kernel_rfl) ?_
  refine qs ?_
  refine qg ?_
  refine og 1 [(4, (Value.slice none 0 0)), (325, (ptr r))] 1 ?_
  refine Ops.call (by kernel_rfl) (d := (some 326)) (by kernel_rfl) (Fflush_calls _ r g s.term s.voted s.leader s.commit q.group q.me q.n s.elapsed q.timeout kv cv came (Value.slice none 0 0) Hr) ?_
  rintro _ w26 ⟨rfl, K25, H27⟩
  refine ⟨_, _, rfl, rfl, ?_⟩
  replace K0 := K0.t1 K25 (fun _ => rfl)
  replace H16 := H16.k1 K25 (by omega)
  clear K25
  refine og 1 [(4, (Value.slice none 0 0))] 3 ?_
  refine od ?_
  refine q_ret (by kernel_rfl) ?_
  refine ⟨(Value.slice none 0 0), retv_tmp rfl rfl, ?_⟩
  exact ⟨(⟨s.term, s.voted, s.leader, s.commit, s.elapsed, s.base, s.old, (l.map EntP.key)⟩ : FolS), (Value.slice none 0 0), none, rfl, (K0.mono (fun i _ h => by rw [h]; exact hFr)), ⟨g, T, CF, A, c, l, kv, cv, came, H27, (H0.keep K0 (fun h => hrg h.symm)), (Ents.keep hE K0 hrT), rfl, (ImgK.keep hKv K0 hKr), (ImgC.keep hCv K0 hCr), fun i hi => ⟨hrT i hi, hT i hi, (hT7 i hi).2.2.1, .inl (hT7 i hi).2.2.2, Ents.lt (Ents.keep hE K0 hrT) i hi⟩, fun i hi => ⟨hKr i hi, hKg i hi, (hK8 i hi).2.2.1, .inl (hK8 i hi).2.2.2, ImgK.lt (ImgK.keep hKv K0 hKr) i hi⟩, fun i hi => ⟨hCr i hi, hCg i hi, .inl (hC9 i hi).2.2, (ImgC.keep hCv K0 hCr).1 i hi⟩, by omega, ⟨.inl hFr, H27.lt⟩, ⟨.inl hFg, (H0.keep K0 (fun h => hrg h.symm)).lt⟩, ⟨by show 0 ≤ (s.base : Int) ∧ (s.base : Int) ≤ 1152921504606846976; omega, by show ((l.map EntP.key)).length ≤ 4096; rw [List.length_map]; omega, hBig, by show (s.base : Int) ≤ s.commit ∧ (s.commit : Int) ≤ 2305843009213693952; omega⟩⟩, rfl, rfl, by show s.commit ≤ s.commit; omega, fun h2 => by show s.voted = s.voted; omega, fun x hx => by cases hx⟩
 ·rw [h23]
  have p28 : ¬ (m.term = s.term) := of_beq_f h23
  refine Dr.takes (fuel' := 0) (is' := _) [2, 3, 4, 5, 6, 7, 8, 9, 10, 11, 12, 13, 14, 15, 16, 17, 18, 19, 20, 21, 22] [(0, (ptr r)), (4, (Value.slice none 0 0)), (13, (ptr b5)), (14, v18), (301, (Value.bool false))] (by kernel_rfl) rfl (by kernel_rfl) ?_
  refine Dr.done (by kernel_rfl) ?_
  refine q_else (o := .tmp 301) (by kernel_rfl) rfl ?_
  refine q_skip (by kernel_rfl) ?_
  refine qs ?_
  refine qg ?_
  refine og 1 [(4, (Value.slice none 0 0)), (325, (ptr r))] 1 ?_
  refine Ops.call (by kernel_rfl) (d := (some 326)) (by kernel_rfl) (Fflush_calls _ r g s.term s.voted s.leader s.commit q.group q.me q.n s.elapsed q.timeout kv cv came (Value.slice none 0 0) Hr) ?_
  rintro _ w30 ⟨rfl, K29, H31⟩
  refine ⟨_, _, rfl, rfl, ?_⟩
  replace K0 := K0.t1 K29 (fun _ => rfl)
  replace H16 := H16.k1 K29 (by omega)
  clear K29
  refine og 1 [(4, (Value.slice none 0 0))] 3 ?_
  refine od ?_
  refine q_ret (by kernel_rfl) ?_
  refine ⟨(Value.slice none 0 0), retv_tmp rfl rfl, ?_⟩
  exact ⟨(⟨s.term, s.voted, s.leader, s.commit, s.elapsed, s.base, s.old, (l.map EntP.key)⟩ : FolS), (Value.slice none 0 0), none, rfl, (K0.mono (fun i _ h => by rw [h]; exact hFr)), ⟨g, T, CF, A, c, l, kv, cv, came, H31, (H0.keep K0 (fun h => hrg h.symm)), (Ents.keep hE K0 hrT), rfl, (ImgK.keep hKv K0 hKr), (ImgC.keep hCv K0 hCr), fun i hi => ⟨hrT i hi, hT i hi, (hT7 i hi).2.2.1, .inl (hT7 i hi).2.2.2, Ents.lt (Ents.keep hE K0 hrT) i hi⟩, fun i hi => ⟨hKr i hi, hKg i hi, (hK8 i hi).2.2.1, .inl (hK8 i hi).2.2.2, ImgK.lt (ImgK.keep hKv K0 hKr) i hi⟩, fun i hi => ⟨hCr i hi, hCg i hi, .inl (hC9 i hi).2.2, (ImgC.keep hCv K0 hCr).1 i hi⟩, by omega, ⟨.inl hFr, H31.lt⟩, ⟨.inl hFg, (H0.keep K0 (fun h => hrg h.symm)).lt⟩, ⟨by show 0 ≤ (s.base : Int) ∧ (s.base : Int) ≤ 1152921504606846976; omega, by show ((l.map EntP.key)).length ≤ 4096; rw [List.length_map]; omega, hBig, by show (s.base : Int) ≤ s.commit ∧ (s.commit : Int) ≤ 2305843009213693952; omega⟩⟩, rfl, rfl, by show s.commit ≤ s.commit; omega, fun h2 => by show s.voted = s.voted; omega, fun x hx => by cases hx⟩

theorem OutIs.low {w : World} {lo lo' : Nat} {q : FolQ} {ov : Value} {o : Option OutM} (h : OutIs w lo q ov o) (hl : lo' ≤ lo) : OutIs w lo' q ov o := by
 cases o with
 | none => exact h
 | some o => obtain ⟨ob, cap, rest, e1, e2, e3⟩ := h; exact ⟨ob, cap, rest, e1, Nat.le_trans hl e2, e3⟩

set_option maxHeartbeats 4000000 in
theorem Step_good (w : World) (F : Nat → Prop) (r : Nat) (q : FolQ) (s : FolS) (m : MsgP) (E : Option Addr) (ec : Nat) (D : Option Addr) (dc : Nat) (U : Nat → Prop) (hF : Fol w F r q s (.slice none 0 0)) (hY : Ents w U (.slice E m.entries.length ec) m.entries) (hBigY : BigK (m.entries.map EntP.key)) (hYl : m.entries.length * 32 ≤ 140737488351232) (hm : m.Ok) (hUF : ∀ i, U i → ¬ F i) (hD : RdB w (.slice D m.data.length dc) m.data) (hDU : m.data ≠ [] → ∀ i, (Value.slice D m.data.length dc).ownBlock = some i → ¬ F i ∧ i < w.heap.size) (hdb : m.data.length ≤ 140737488351232) (hb : ¬ badM q m) : Calls Try.prog 20 ⟨[(ptr r), (MV m.kind m.ok m E ec D dc)]⟩ w (fun e w' => ∃ (s' : FolS) (ov : Value) (o : Option OutM), e = .returned ov ∧ Keeps F w w' ∧ Fol w' (fun i => (F i ∨ w.heap.size ≤ i) ∧ i < w'.heap.size) r q s' (.slice none 0 0) ∧ OutIs w' w.heap.size q ov o ∧ StepRel q m s s' o) := by
 obtain ⟨g, T, CF, A, c, l, kv, cv, came, Hr, H0, hE, hK, hKv, hCv, hT7, hK8, hC9, hrg, hFr, hFg, hOk⟩ := hF
 have hC0 := hCv.1
 have hb2 : ¬ ((m.group ≠ q.group ∨ m.to ≠ q.me ∨ m.frm = q.me ∨ m.frm < 0 ∨ q.n ≤ m.frm) ∨ (m.kind < 1 ∨ 6 < m.kind) ∨ (m.term < 1 ∨ 1152921504606846976 < m.term ∨ m.index < 0 ∨ 1152921504606846976 < m.index ∨ m.logTerm < 0 ∨ 1152921504606846976 < m.logTerm ∨ m.commit < 0 ∨ 1152921504606846976 < m.commit)) := fun z => hb (by unfold badM; omega)
 have hk : ¬ (m.kind < 1 ∨ 6 < m.kind) := fun z => hb2 (.inr (.inl z))
 have hT : ∀ i, T i → i ≠ g := fun i hi => (hT7 i hi).2.1
 have hrT : ∀ i, T i → i ≠ r := fun i hi => (hT7 i hi).1
 have hL : l.length ≤ 4096 := by have z := hOk.len; rw [← hK, List.length_map] at z; exact z
 have hBig : BigK (l.map EntP.key) := by rw [hK]; exact hOk.big
 have hB := hOk.base
 have hCm := hOk.commit
 have hKr : ∀ i, KF kv i → i ≠ r := fun i hi => (hK8 i hi).1
 have hKg : ∀ i, KF kv i → i ≠ g := fun i hi => (hK8 i hi).2.1
 have hcap := Ents.len hE
 have Hg := H0.lt
 have Hrl := Hr.lt
 have hCr : ∀ i, CF i → i ≠ r := fun i hi => (hC9 i hi).1
 have hCg : ∀ i, CF i → i ≠ g := fun i hi => (hC9 i hi).2.1
 have hi0 := hm.kind
 have hi1 := hm.group
 have hi2 := hm.frm
 have hi3 := hm.to
 have hi4 := hm.term
 have hi5 := hm.index
 have hi6 := hm.logTerm
 have hi7 := hm.commit
 have hUr : ∀ i, U i → i ≠ r := fun i hi h => hUF i hi (h ▸ hFr)
 have hUg : ∀ i, U i → i ≠ g := fun i hi h => hUF i hi (h ▸ hFg)
 have K0 : Keeps (fun i => i = r) w w := (Keeps.refl w).mono (fun _ _ h => h.elim)
 refine q_calls Try.func20 (by kernel_rfl) (by kernel_rfl) ?_
 refine qs ?_
 refine qg ?_
 refine Ops.new (o := rowL [(i64 m.kind), (i64 m.group), (i64 m.frm), (i64 m.to), (i64 m.term), (i64 m.index), (i64 m.logTerm), (i64 m.commit), (Value.bool m.ok), (Value.slice E m.entries.length ec), (Value.slice D m.data.length dc)] 46) (V := fun b => (ptr b)) (by kernel_rfl) (d := (some 3)) (by kernel_rfl) (fun b => rfl) (fun b1 w2 hb3 H4 K5 hs6 => ?_)
 have lb1r : r < b1 := by have := Hr.lt; omega
 have lb1g : g < b1 := by have := (H0.keep K0 (fun h => hrg h.symm)).lt; omega
 have nb1 : w.heap.size ≤ b1 := by have := K0.size; omega
 have ot7 : ∀ i, T i → i ≠ b1 := fun i hi => by have := Ents.lt (Ents.keep hE K0 hrT) i hi; omega
 have of8 : ∀ i, (KF kv) i → i ≠ b1 := fun i hi => by have := ImgK.lt (ImgK.keep hKv K0 hKr) i hi; omega
 have of9 : ∀ i, CF i → i ≠ b1 := fun i hi => by have := (ImgC.keep hCv K0 hCr).1 i hi; omega
 have ot10 : ∀ i, U i → i ≠ b1 := fun i hi => by have := Ents.lt (Ents.keep hY K0 hUr) i hi; omega
 replace K0 := K0.tn K5
 replace Hr := Hr.keep K5 (fun h => h)
 clear K5 hs6
 refine og 1 [(0, (ptr r)), (3, (ptr b1)), (4, (Value.slice none 0 0))] 2 ?_
 refine od ?_
 refine qs ?_
 refine qs ?_
 refine q_draw (fun wz => Keeps none_ w2 wz) 43 (by kernel_rfl) (by kernel_rfl) (by kernel_rfl) (fun w11 K12 _ _ => ⟨K12, ?_⟩)
 replace K0 := K0.tn K12
 replace Hr := Hr.keep K12 (fun h => h)
 replace H4 := H4.keep K12 (fun h => h)
 refine Dr.strong (S' := (fun wz => Keeps none_ w11 wz)) (Keeps.refl w11) (fun wz hx => K12.trans hx (fun i _ h => h) (fun _ _ h => h)) ?_
 clear K12
 refine Dr.takes (fuel' := 39) (is' := _) [0, 1, 2, 3] [(0, (ptr r)), (3, (ptr b1)), (4, (Value.slice none 0 0)), (17, (Value.bool false)), (18, (Value.pointer (some ⟨b1, 1, none⟩)))] (by kernel_rfl) rfl (by kernel_rfl) ?_
 refine Dr.take (i := 4) (v := (i64 m.group)) (by kernel_rfl) (by kernel_rfl) (fun wz hS => Runs.load (t := 3) (a := ⟨b1, 1, none⟩) (by kernel_rfl) ((H4.keep hS (fun h => h)).loads (by kernel_rfl))) (d := (some 19)) (by kernel_rfl) rfl ?_
 refine Dr.takes (fuel' := 35) (is' := _) [5, 6, 7] [(0, (ptr r)), (3, (ptr b1)), (4, (Value.slice none 0 0)), (17, (Value.bool false)), (19, (i64 m.group)), (22, (Value.pointer (some ⟨r, 5, none⟩)))] (by kernel_rfl) rfl (by kernel_rfl) ?_
 refine Dr.take (i := 8) (v := (i64 q.group)) (by kernel_rfl) (by kernel_rfl) (fun wz hS => Runs.load (t := 3) (a := ⟨r, 5, none⟩) (by kernel_rfl) ((Hr.keep hS (fun h => h)).loads (by kernel_rfl))) (d := (some 23)) (by kernel_rfl) rfl ?_
 refine Dr.takes (fuel' := 31) (is' := _) [9, 10, 11] [(0, (ptr r)), (3, (ptr b1)), (4, (Value.slice none 0 0)), (26, (Value.bool (m.group != q.group)))] (by kernel_rfl) rfl (by kernel_rfl) ?_
 have h13 : (m.group != q.group) = false := bne_f (by omega)
 rw [h13]
 refine Dr.takes (fuel' := 30) (is' := _) [12] [(0, (ptr r)), (3, (ptr b1)), (4, (Value.slice none 0 0)), (26, (Value.bool false)), (27, (Value.pointer (some ⟨b1, 3, none⟩)))] (by kernel_rfl) rfl (by kernel_rfl) ?_
 refine Dr.take (i := 13) (v := (i64 m.to)) (by kernel_rfl) (by kernel_rfl) (fun wz hS => Runs.load (t := 3) (a := ⟨b1, 3, none⟩) (by kernel_rfl) ((H4.keep hS (fun h => h)).loads (by kernel_rfl))) (d := (some 28)) (by kernel_rfl) rfl ?_
 refine Dr.takes (fuel' := 26) (is' := _) [14, 15, 16] [(0, (ptr r)), (3, (ptr b1)), (4, (Value.slice none 0 0)), (26, (Value.bool false)), (28, (i64 m.to)), (31, (Value.pointer (some ⟨r, 6, none⟩)))] (by kernel_rfl) rfl (by kernel_rfl) ?_
 refine Dr.take (i := 17) (v := (i64 q.me)) (by kernel_rfl) (by kernel_rfl) (fun wz hS => Runs.load (t := 3) (a := ⟨r, 6, none⟩) (by kernel_rfl) ((Hr.keep hS (fun h => h)).loads (by kernel_rfl))) (d := (some 32)) (by kernel_rfl) rfl ?_
 refine Dr.takes (fuel' := 22) (is' := _) [18, 19, 20] [(0, (ptr r)), (3, (ptr b1)), (4, (Value.slice none 0 0)), (35, (Value.bool (m.to != q.me)))] (by kernel_rfl) rfl (by kernel_rfl) ?_
 have h14 : (m.to != q.me) = false := bne_f (by omega)
 rw [h14]
 refine Dr.takes (fuel' := 21) (is' := _) [21] [(0, (ptr r)), (3, (ptr b1)), (4, (Value.slice none 0 0)), (35, (Value.bool false)), (36, (Value.pointer (some ⟨b1, 2, none⟩)))] (by kernel_rfl) rfl (by kernel_rfl) ?_
 refine Dr.take (i := 22) (v := (i64 m.frm)) (by kernel_rfl) (by kernel_rfl) (fun wz hS => Runs.load (t := 3) (a := ⟨b1, 2, none⟩) (by kernel_rfl) ((H4.keep hS (fun h => h)).loads (by kernel_rfl))) (d := (some 37)) (by kernel_rfl) rfl ?_
 refine Dr.takes (fuel' := 17) (is' := _) [23, 24, 25] [(0, (ptr r)), (3, (ptr b1)), (4, (Value.slice none 0 0)), (35, (Value.bool false)), (37, (i64 m.frm)), (40, (Value.pointer (some ⟨r, 6, none⟩)))] (by kernel_rfl) rfl (by kernel_rfl) ?_
 refine Dr.take (i := 26) (v := (i64 q.me)) (by kernel_rfl) (by kernel_rfl) (fun wz hS => Runs.load (t := 3) (a := ⟨r, 6, none⟩) (by kernel_rfl) ((Hr.keep hS (fun h => h)).loads (by kernel_rfl))) (d := (some 41)) (by kernel_rfl) rfl ?_
 refine Dr.takes (fuel' := 13) (is' := _) [27, 28, 29] [(0, (ptr r)), (3, (ptr b1)), (4, (Value.slice none 0 0)), (44, (Value.bool (m.frm == q.me)))] (by kernel_rfl) rfl (by kernel_rfl) ?_
 have h15 : (m.frm == q.me) = false := beq_f (by omega)
 rw [h15]
 refine Dr.takes (fuel' := 12) (is' := _) [30] [(0, (ptr r)), (3, (ptr b1)), (4, (Value.slice none 0 0)), (44, (Value.bool false)), (45, (Value.pointer (some ⟨b1, 2, none⟩)))] (by kernel_rfl) rfl (by kernel_rfl) ?_
 refine Dr.take (i := 31) (v := (i64 m.frm)) (by kernel_rfl) (by kernel_rfl) (fun wz hS => Runs.load (t := 3) (a := ⟨b1, 2, none⟩) (by kernel_rfl) ((H4.keep hS (fun h => h)).loads (by kernel_rfl))) (d := (some 46)) (by kernel_rfl) rfl ?_
 refine Dr.takes (fuel' := 8) (is' := _) [32, 33, 34] [(0, (ptr r)), (3, (ptr b1)), (4, (Value.slice none 0 0)), (49, (Value.bool (decide (m.frm < 0))))] (by kernel_rfl) rfl (by kernel_rfl) ?_
 have h16 : (decide (m.frm < 0)) = false := decide_eq_false (by omega)
 rw [h16]
 refine Dr.takes (fuel' := 7) (is' := _) [35] [(0, (ptr r)), (3, (ptr b1)), (4, (Value.slice none 0 0)), (49, (Value.bool false)), (50, (Value.pointer (some ⟨b1, 2, none⟩)))] (by kernel_rfl) rfl (by kernel_rfl) ?_
 refine Dr.take (i := 36) (v := (i64 m.frm)) (by kernel_rfl) (by kernel_rfl) (fun wz hS => Runs.load (t := 3) (a := ⟨b1, 2, none⟩) (by kernel_rfl) ((H4.keep hS (fun h => h)).loads (by kernel_rfl))) (d := (some 51)) (by kernel_rfl) rfl ?_
 refine Dr.takes (fuel' := 3) (is' := _) [37, 38, 39] [(0, (ptr r)), (3, (ptr b1)), (4, (Value.slice none 0 0)), (49, (Value.bool false)), (51, (i64 m.frm)), (54, (Value.pointer (some ⟨r, 7, none⟩)))] (by kernel_rfl) rfl (by kernel_rfl) ?_
 refine Dr.take (i := 40) (v := (i64 q.n)) (by kernel_rfl) (by kernel_rfl) (fun wz hS => Runs.load (t := 3) (a := ⟨r, 7, none⟩) (by kernel_rfl) ((Hr.keep hS (fun h => h)).loads (by kernel_rfl))) (d := (some 55)) (by kernel_rfl) rfl ?_
 refine Dr.takes (fuel' := 0) (is' := _) [41, 42] [(0, (ptr r)), (3, (ptr b1)), (4, (Value.slice none 0 0)), (57, (Value.bool (decide (m.frm ≥ q.n))))] (by kernel_rfl) rfl (by kernel_rfl) ?_
 refine Dr.done (by kernel_rfl) ?_
 have h17 : (decide (m.frm ≥ q.n)) = false := decide_eq_false (by omega)
 rw [h17]
 refine q_else (o := .tmp 57) (by kernel_rfl) rfl ?_
 refine q_skip (by kernel_rfl) ?_
 refine qs ?_
 refine qg ?_
 refine Ops.go (v := (MV m.kind m.ok m E ec D dc)) (by kernel_rfl) (Runs.load (t := 46) (a := ⟨b1, 0, none⟩) (by kernel_rfl) (H4.loads (by kernel_rfl))) (d := (some 58)) (by kernel_rfl) rfl ?_
 refine Ops.call (by kernel_rfl) (d := (some 59)) (by kernel_rfl) (kindX_calls _ m E ec D dc hk) ?_
 rintro _ w19 ⟨t9, x9, rfl, K18, hki⟩
 refine ⟨_, _, rfl, rfl, ?_⟩
 replace K0 := K0.tn K18
 replace Hr := Hr.keep K18 (fun h => h)
 replace H4 := H4.keep K18 (fun h => h)
 clear K18
 refine og 1 [(0, (ptr r)), (3, (ptr b1)), (4, (Value.slice none 0 0)), (5, (Value.iface t9 x9))] 3 ?_
 refine od ?_
 refine qs ?_
 refine qs ?_
 refine qg ?_
 refine og 4 [(0, (ptr r)), (3, (ptr b1)), (4, (Value.slice none 0 0)), (5, (Value.iface t9 x9)), (62, (Value.bool false)), (63, (Value.pointer (some ⟨b1, 4, none⟩)))] 4 ?_
 refine Ops.go (v := (i64 m.term)) (by kernel_rfl) (Runs.load (t := 2) (a := ⟨b1, 4, none⟩) (by kernel_rfl) (H4.loads (by kernel_rfl))) (d := (some 64)) (by kernel_rfl) rfl ?_
 refine Ops.call (by kernel_rfl) (d := (some 65)) (by kernel_rfl) (within_calls _ m.term 1 1152921504606846976) ?_
 rintro _ w23 ⟨t20, rfl, ht21, K22⟩
 refine ⟨_, _, rfl, rfl, ?_⟩
 replace K0 := K0.tn K22
 replace Hr := Hr.keep K22 (fun h => h)
 replace H4 := H4.keep K22 (fun h => h)
 clear K22
 refine og 3 [(0, (ptr r)), (3, (ptr b1)), (4, (Value.slice none 0 0)), (5, (Value.iface t9 x9)), (68, (Value.bool (!t20)))] 9 ?_
 have h24 : (!t20) = false := by rw [show t20 = true from ht21.2 ⟨by omega, by omega⟩]; rfl
 rw [h24]
 refine og 1 [(0, (ptr r)), (3, (ptr b1)), (4, (Value.slice none 0 0)), (5, (Value.iface t9 x9)), (68, (Value.bool false)), (69, (Value.pointer (some ⟨b1, 5, none⟩)))] 10 ?_
 refine Ops.go (v := (i64 m.index)) (by kernel_rfl) (Runs.load (t := 2) (a := ⟨b1, 5, none⟩) (by kernel_rfl) (H4.loads (by kernel_rfl))) (d := (some 70)) (by kernel_rfl) rfl ?_
 refine Ops.call (by kernel_rfl) (d := (some 71)) (by kernel_rfl) (within_calls _ m.index 0 1152921504606846976) ?_
 rintro _ w28 ⟨t25, rfl, ht26, K27⟩
 refine ⟨_, _, rfl, rfl, ?_⟩
 replace K0 := K0.tn K27
 replace Hr := Hr.keep K27 (fun h => h)
 replace H4 := H4.keep K27 (fun h => h)
 clear K27
 refine og 3 [(0, (ptr r)), (3, (ptr b1)), (4, (Value.slice none 0 0)), (5, (Value.iface t9 x9)), (74, (Value.bool (!t25)))] 15 ?_
 have h29 : (!t25) = false := by rw [show t25 = true from ht26.2 ⟨by omega, by omega⟩]; rfl
 rw [h29]
 refine og 1 [(0, (ptr r)), (3, (ptr b1)), (4, (Value.slice none 0 0)), (5, (Value.iface t9 x9)), (74, (Value.bool false)), (75, (Value.pointer (some ⟨b1, 6, none⟩)))] 16 ?_
 refine Ops.go (v := (i64 m.logTerm)) (by kernel_rfl) (Runs.load (t := 2) (a := ⟨b1, 6, none⟩) (by kernel_rfl) (H4.loads (by kernel_rfl))) (d := (some 76)) (by kernel_rfl) rfl ?_
 refine Ops.call (by kernel_rfl) (d := (some 77)) (by kernel_rfl) (within_calls _ m.logTerm 0 1152921504606846976) ?_
 rintro _ w33 ⟨t30, rfl, ht31, K32⟩
 refine ⟨_, _, rfl, rfl, ?_⟩
 replace K0 := K0.tn K32
 replace Hr := Hr.keep K32 (fun h => h)
 replace H4 := H4.keep K32 (fun h => h)
 clear K32
 refine og 3 [(0, (ptr r)), (3, (ptr b1)), (4, (Value.slice none 0 0)), (5, (Value.iface t9 x9)), (80, (Value.bool (!t30)))] 21 ?_
 have h34 : (!t30) = false := by rw [show t30 = true from ht31.2 ⟨by omega, by omega⟩]; rfl
 rw [h34]
 refine og 1 [(0, (ptr r)), (3, (ptr b1)), (4, (Value.slice none 0 0)), (5, (Value.iface t9 x9)), (80, (Value.bool false)), (81, (Value.pointer (some ⟨b1, 7, none⟩)))] 22 ?_
 refine Ops.go (v := (i64 m.commit)) (by kernel_rfl) (Runs.load (t := 2) (a := ⟨b1, 7, none⟩) (by kernel_rfl) (H4.loads (by kernel_rfl))) (d := (some 82)) (by kernel_rfl) rfl ?_
 refine Ops.call (by kernel_rfl) (d := (some 83)) (by kernel_rfl) (within_calls _ m.commit 0 1152921504606846976) ?_
 rintro _ w38 ⟨t35, rfl, ht36, K37⟩
 refine ⟨_, _, rfl, rfl, ?_⟩
 replace K0 := K0.tn K37
 replace Hr := Hr.keep K37 (fun h => h)
 replace H4 := H4.keep K37 (fun h => h)
 clear K37
 refine og 2 [(0, (ptr r)), (3, (ptr b1)), (4, (Value.slice none 0 0)), (5, (Value.iface t9 x9)), (85, (Value.bool (!t35)))] 26 ?_
 refine od ?_
 have h39 : (!t35) = false := by rw [show t35 = true from ht36.2 ⟨by omega, by omega⟩]; rfl
 rw [h39]
 refine q_else (o := .tmp 85) (by kernel_rfl) rfl ?_
 refine q_skip (by kernel_rfl) ?_
 refine qs ?_
 refine qs ?_
 refine q_draw (fun wz => Keeps none_ w38 wz) 8 (by kernel_rfl) (by kernel_rfl) (by kernel_rfl) (fun w40 K41 _ _ => ⟨K41, ?_⟩)
 replace K0 := K0.tn K41
 replace Hr := Hr.keep K41 (fun h => h)
 replace H4 := H4.keep K41 (fun h => h)
 refine Dr.strong (S' := (fun wz => Keeps none_ w40 wz)) (Keeps.refl w40) (fun wz hx => K41.trans hx (fun i _ h => h) (fun _ _ h => h)) ?_
 clear K41
 refine Dr.takes (fuel' := 7) (is' := _) [0] [(0, (ptr r)), (3, (ptr b1)), (4, (Value.slice none 0 0)), (5, (Value.iface t9 x9)), (86, (Value.pointer (some ⟨b1, 4, none⟩)))] (by kernel_rfl) rfl (by kernel_rfl) ?_
 refine Dr.take (i := 1) (v := (i64 m.term)) (by kernel_rfl) (by kernel_rfl) (fun wz hS => Runs.load (t := 2) (a := ⟨b1, 4, none⟩) (by kernel_rfl) ((H4.keep hS (fun h => h)).loads (by kernel_rfl))) (d := (some 87)) (by kernel_rfl) rfl ?_
 refine Dr.takes (fuel' := 2) (is' := _) [2, 3, 4, 5] [(0, (ptr r)), (3, (ptr b1)), (4, (Value.slice none 0 0)), (5, (Value.iface t9 x9)), (87, (i64 m.term)), (91, (ptr r))] (by kernel_rfl) rfl (by kernel_rfl) ?_
 refine Dr.take (i := 6) (v := (i64 s.term)) (by kernel_rfl) (by kernel_rfl) (fun wz hS => Runs.load (t := 2) (a := ⟨r, 0, none⟩) (by kernel_rfl) ((Hr.keep hS (fun h => h)).loads (by kernel_rfl))) (d := (some 92)) (by kernel_rfl) rfl ?_
 refine Dr.takes (fuel' := 0) (is' := _) [7] [(0, (ptr r)), (3, (ptr b1)), (4, (Value.slice none 0 0)), (5, (Value.iface t9 x9)), (93, (Value.bool (decide (m.term > s.term))))] (by kernel_rfl) rfl (by kernel_rfl) ?_
 refine Dr.done (by kernel_rfl) ?_
 refine q_cond (o := .tmp 93) (b := (decide (m.term > s.term))) (by kernel_rfl) rfl (fun h42 => ?_) (fun h42 => ?_)
 ·rw [h42]
  have p43 : m.term > s.term := of_decide_eq_true h42
  refine qg ?_
  refine og 5 [(0, (ptr r)), (4, (Value.slice none 0 0)), (5, (Value.iface t9 x9)), (94, (ptr r)), (95, (ptr r)), (96, (ptr r)), (97, (ptr r)), (98, (Value.pointer (some ⟨b1, 4, none⟩)))] 5 ?_
  refine Ops.go (v := (i64 m.term)) (by kernel_rfl) (Runs.load (t := 2) (a := ⟨b1, 4, none⟩) (by kernel_rfl) (H4.loads (by kernel_rfl))) (d := (some 99)) (by kernel_rfl) rfl ?_
  refine og 3 [(0, (ptr r)), (4, (Value.slice none 0 0)), (5, (Value.iface t9 x9)), (95, (ptr r)), (96, (ptr r)), (97, (ptr r)), (99, (i64 m.term)), (102, (ptr r))] 9 ?_
  refine Ops.put (t := 2) (b := r) (off := 0) (v := (i64 m.term)) (ys := [(i64 m.term), (i64 s.voted), (i64 0), (i64 s.leader), (i64 s.commit), (i64 q.group), (i64 q.me), (i64 q.n), (ptr g), (i64 s.elapsed), (i64 q.timeout), (Value.slice none 0 0), (Value.map none), (Value.slice none 0 0), kv, cv, (Value.bool came), (Value.slice none 0 0)]) (by kernel_rfl) (by kernel_rfl) Hr (by kernel_rfl) (d := none) (by kernel_rfl) rfl (fun w44 H45 K46 => ?_)
  clear Hr
  replace K0 := K0.t1 K46 (fun _ => rfl)
  replace H4 := H4.k1 K46 (by omega)
  clear K46
  refine og 3 [(0, (ptr r)), (4, (Value.slice none 0 0)), (5, (Value.iface t9 x9)), (96, (ptr r)), (97, (ptr r)), (105, (Value.pointer (some ⟨r, 1, none⟩)))] 13 ?_
  refine Ops.put (t := 3) (b := r) (off := 1) (v := (i64 (-1))) (ys := [(i64 m.term), (i64 (-1)), (i64 0), (i64 s.leader), (i64 s.commit), (i64 q.group), (i64 q.me), (i64 q.n), (ptr g), (i64 s.elapsed), (i64 q.timeout), (Value.slice none 0 0), (Value.map none), (Value.slice none 0 0), kv, cv, (Value.bool came), (Value.slice none 0 0)]) (by kernel_rfl) (by kernel_rfl) H45 (by kernel_rfl) (d := none) (by kernel_rfl) rfl (fun w47 H48 K49 => ?_)
  clear H45
  replace K0 := K0.t1 K49 (fun _ => rfl)
  replace H4 := H4.k1 K49 (by omega)
  clear K49
  refine og 3 [(0, (ptr r)), (4, (Value.slice none 0 0)), (5, (Value.iface t9 x9)), (97, (ptr r)), (108, (Value.pointer (some ⟨r, 2, none⟩)))] 17 ?_
  refine Ops.put (t := 3) (b := r) (off := 2) (v := (i64 0)) (ys := [(i64 m.term), (i64 (-1)), (i64 0), (i64 s.leader), (i64 s.commit), (i64 q.group), (i64 q.me), (i64 q.n), (ptr g), (i64 s.elapsed), (i64 q.timeout), (Value.slice none 0 0), (Value.map none), (Value.slice none 0 0), kv, cv, (Value.bool came), (Value.slice none 0 0)]) (by kernel_rfl) (by kernel_rfl) H48 (by kernel_rfl) (d := none) (by kernel_rfl) rfl (fun w50 H51 K52 => ?_)
  clear H48
  replace K0 := K0.t1 K52 (fun _ => rfl)
  replace H4 := H4.k1 K52 (by omega)
  clear K52
  refine og 3 [(0, (ptr r)), (4, (Value.slice none 0 0)), (5, (Value.iface t9 x9)), (111, (Value.pointer (some ⟨r, 3, none⟩)))] 21 ?_
  refine Ops.put (t := 3) (b := r) (off := 3) (v := (i64 (-1))) (ys := [(i64 m.term), (i64 (-1)), (i64 0), (i64 (-1)), (i64 s.commit), (i64 q.group), (i64 q.me), (i64 q.n), (ptr g), (i64 s.elapsed), (i64 q.timeout), (Value.slice none 0 0), (Value.map none), (Value.slice none 0 0), kv, cv, (Value.bool came), (Value.slice none 0 0)]) (by kernel_rfl) (by kernel_rfl) H51 (by kernel_rfl) (d := none) (by kernel_rfl) rfl (fun w53 H54 K55 => ?_)
  clear H51
  replace K0 := K0.t1 K55 (fun _ => rfl)
  replace H4 := H4.k1 K55 (by omega)
  clear K55
  refine od ?_
  have hF1 : Fol w53 (fun i => (F i ∨ w.heap.size ≤ i) ∧ i < w53.heap.size) r q (⟨m.term, -1, -1, s.commit, s.elapsed, s.base, s.old, s.ks⟩ : FolS) (.slice none 0 0) := by have z : Fol w53 (fun i => (F i ∨ w.heap.size ≤ i) ∧ i < w53.heap.size) r q (⟨m.term, (-1), (-1), s.commit, s.elapsed, s.base, s.old, (l.map EntP.key)⟩ : FolS) (.slice none 0 0) := ⟨g, T, CF, A, c, l, kv, cv, came, H54, (H0.keep K0 (fun h => hrg h.symm)), (Ents.keep hE K0 hrT), rfl, (ImgK.keep hKv K0 hKr), (ImgC.keep hCv K0 hCr), fun i hi => ⟨hrT i hi, hT i hi, (hT7 i hi).2.2.1, .inl (hT7 i hi).2.2.2, Ents.lt (Ents.keep hE K0 hrT) i hi⟩, fun i hi => ⟨hKr i hi, hKg i hi, (hK8 i hi).2.2.1, .inl (hK8 i hi).2.2.2, ImgK.lt (ImgK.keep hKv K0 hKr) i hi⟩, fun i hi => ⟨hCr i hi, hCg i hi, .inl (hC9 i hi).2.2, (ImgC.keep hCv K0 hCr).1 i hi⟩, by omega, ⟨.inl hFr, H54.lt⟩, ⟨.inl hFg, (H0.keep K0 (fun h => hrg h.symm)).lt⟩, ⟨by show 0 ≤ (s.base : Int) ∧ (s.base : Int) ≤ 1152921504606846976; omega, by show ((l.map EntP.key)).length ≤ 4096; rw [List.length_map]; omega, hBig, by show (s.base : Int) ≤ s.commit ∧ (s.commit : Int) ≤ 2305843009213693952; omega⟩⟩; rw [hK] at z; exact z
  have hsz := K0.size
  have hKF : Keeps F w w53 := (K0.mono (fun i _ h => by rw [h]; exact hFr))
  have hUl := Ents.lt hY
  refine q_keep (R := [(0, (ptr r)), (4, (Value.slice none 0 0)), (5, (Value.iface t9 x9))]) (by kernel_rfl) ?_
  rcases hki with ⟨hk, rfl, rfl⟩ | ⟨hk, rfl, rfl⟩ | ⟨hk, rfl, rfl⟩ | ⟨hk, rfl, rfl⟩ | ⟨hk, rfl, rfl⟩ | ⟨hk, rfl, rfl⟩
  ·refine q_tail (Step_vote w53 (fun i => (F i ∨ w.heap.size ≤ i) ∧ i < w53.heap.size) r q (⟨m.term, -1, -1, s.commit, s.elapsed, s.base, s.old, s.ks⟩ : FolS) m E ec D dc U hF1 (Ents.keep hY K0 hUr) hBigY hYl (fun i hi h => h.1.elim (hUF i hi) (fun z => by have := hUl i hi; omega)) (RdB.keepg hD K0 (fun hb i hi h => (hDU hb i hi).1 (by rw [h]; exact hFr))) (fun hb i hi => ⟨fun h => h.1.elim (hDU hb i hi).1 (fun z => by have := (hDU hb i hi).2; omega), by have := (hDU hb i hi).2; omega⟩) hdb (by omega) (by show m.term ≤ m.term; omega) hk) ?_
   rintro e w' ⟨s', ov, o, he, K, hF, hO, t1, t2, t3, t4⟩; have h9 := K.size
   have t1 : s'.term = m.term := t1; have t2 : s.commit ≤ s'.commit := t2
   exact ⟨s', ov, o, he, hKF.trans K (fun i _ h => h) (fun i h1 h => h.1.elim id (fun z => by omega)), hF.wide (fun i hi => ⟨hi.1.elim (fun z => z.1) (fun z => .inr (by omega)), hi.2⟩), hO.low hsz, .inr ⟨hb, by omega, by omega, t2, fun z _ => by omega, t4⟩⟩
  ·refine q_tail (Step_voteTold w53 (fun i => (F i ∨ w.heap.size ≤ i) ∧ i < w53.heap.size) r q (⟨m.term, -1, -1, s.commit, s.elapsed, s.base, s.old, s.ks⟩ : FolS) m E ec D dc U hF1 (Ents.keep hY K0 hUr) hBigY hYl (fun i hi h => h.1.elim (hUF i hi) (fun z => by have := hUl i hi; omega)) (RdB.keepg hD K0 (fun hb i hi h => (hDU hb i hi).1 (by rw [h]; exact hFr))) (fun hb i hi => ⟨fun h => h.1.elim (hDU hb i hi).1 (fun z => by have := (hDU hb i hi).2; omega), by have := (hDU hb i hi).2; omega⟩) hdb (by omega) (by show m.term ≤ m.term; omega) hk) ?_
   rintro e w' ⟨s', ov, o, he, K, hF, hO, t1, t2, t3, t4⟩; have h9 := K.size
   have t1 : s'.term = m.term := t1; have t2 : s.commit ≤ s'.commit := t2
   exact ⟨s', ov, o, he, hKF.trans K (fun i _ h => h) (fun i h1 h => h.1.elim id (fun z => by omega)), hF.wide (fun i hi => ⟨hi.1.elim (fun z => z.1) (fun z => .inr (by omega)), hi.2⟩), hO.low hsz, .inr ⟨hb, by omega, by omega, t2, fun z _ => by omega, t4⟩⟩
  ·refine q_tail (Step_add w53 (fun i => (F i ∨ w.heap.size ≤ i) ∧ i < w53.heap.size) r q (⟨m.term, -1, -1, s.commit, s.elapsed, s.base, s.old, s.ks⟩ : FolS) m E ec D dc U hF1 (Ents.keep hY K0 hUr) hBigY hYl (fun i hi h => h.1.elim (hUF i hi) (fun z => by have := hUl i hi; omega)) (RdB.keepg hD K0 (fun hb i hi h => (hDU hb i hi).1 (by rw [h]; exact hFr))) (fun hb i hi => ⟨fun h => h.1.elim (hDU hb i hi).1 (fun z => by have := (hDU hb i hi).2; omega), by have := (hDU hb i hi).2; omega⟩) hdb (by omega) (by show m.term ≤ m.term; omega) hk) ?_
   rintro e w' ⟨s', ov, o, he, K, hF, hO, t1, t2, t3, t4⟩; have h9 := K.size
   have t1 : s'.term = m.term := t1; have t2 : s.commit ≤ s'.commit := t2
   exact ⟨s', ov, o, he, hKF.trans K (fun i _ h => h) (fun i h1 h => h.1.elim id (fun z => by omega)), hF.wide (fun i hi => ⟨hi.1.elim (fun z => z.1) (fun z => .inr (by omega)), hi.2⟩), hO.low hsz, .inr ⟨hb, by omega, by omega, t2, fun z _ => by omega, t4⟩⟩
  ·refine q_tail (Step_addTold w53 (fun i => (F i ∨ w.heap.size ≤ i) ∧ i < w53.heap.size) r q (⟨m.term, -1, -1, s.commit, s.elapsed, s.base, s.old, s.ks⟩ : FolS) m E ec D dc U hF1 (Ents.keep hY K0 hUr) hBigY hYl (fun i hi h => h.1.elim (hUF i hi) (fun z => by have := hUl i hi; omega)) (RdB.keepg hD K0 (fun hb i hi h => (hDU hb i hi).1 (by rw [h]; exact hFr))) (fun hb i hi => ⟨fun h => h.1.elim (hDU hb i hi).1 (fun z => by have := (hDU hb i hi).2; omega), by have := (hDU hb i hi).2; omega⟩) hdb (by omega) (by show m.term ≤ m.term; omega) hk) ?_
   rintro e w' ⟨s', ov, o, he, K, hF, hO, t1, t2, t3, t4⟩; have h9 := K.size
   have t1 : s'.term = m.term := t1; have t2 : s.commit ≤ s'.commit := t2
   exact ⟨s', ov, o, he, hKF.trans K (fun i _ h => h) (fun i h1 h => h.1.elim id (fun z => by omega)), hF.wide (fun i hi => ⟨hi.1.elim (fun z => z.1) (fun z => .inr (by omega)), hi.2⟩), hO.low hsz, .inr ⟨hb, by omega, by omega, t2, fun z _ => by omega, t4⟩⟩
  ·refine q_tail (Step_snap w53 (fun i => (F i ∨ w.heap.size ≤ i) ∧ i < w53.heap.size) r q (⟨m.term, -1, -1, s.commit, s.elapsed, s.base, s.old, s.ks⟩ : FolS) m E ec D dc U hF1 (Ents.keep hY K0 hUr) hBigY hYl (fun i hi h => h.1.elim (hUF i hi) (fun z => by have := hUl i hi; omega)) (RdB.keepg hD K0 (fun hb i hi h => (hDU hb i hi).1 (by rw [h]; exact hFr))) (fun hb i hi => ⟨fun h => h.1.elim (hDU hb i hi).1 (fun z => by have := (hDU hb i hi).2; omega), by have := (hDU hb i hi).2; omega⟩) hdb (by omega) (by show m.term ≤ m.term; omega) hk) ?_
   rintro e w' ⟨s', ov, o, he, K, hF, hO, t1, t2, t3, t4⟩; have h9 := K.size
   have t1 : s'.term = m.term := t1; have t2 : s.commit ≤ s'.commit := t2
   exact ⟨s', ov, o, he, hKF.trans K (fun i _ h => h) (fun i h1 h => h.1.elim id (fun z => by omega)), hF.wide (fun i hi => ⟨hi.1.elim (fun z => z.1) (fun z => .inr (by omega)), hi.2⟩), hO.low hsz, .inr ⟨hb, by omega, by omega, t2, fun z _ => by omega, t4⟩⟩
  ·refine q_tail (Step_snapTold w53 (fun i => (F i ∨ w.heap.size ≤ i) ∧ i < w53.heap.size) r q (⟨m.term, -1, -1, s.commit, s.elapsed, s.base, s.old, s.ks⟩ : FolS) m E ec D dc U hF1 (Ents.keep hY K0 hUr) hBigY hYl (fun i hi h => h.1.elim (hUF i hi) (fun z => by have := hUl i hi; omega)) (RdB.keepg hD K0 (fun hb i hi h => (hDU hb i hi).1 (by rw [h]; exact hFr))) (fun hb i hi => ⟨fun h => h.1.elim (hDU hb i hi).1 (fun z => by have := (hDU hb i hi).2; omega), by have := (hDU hb i hi).2; omega⟩) hdb (by omega) (by show m.term ≤ m.term; omega) hk) ?_
   rintro e w' ⟨s', ov, o, he, K, hF, hO, t1, t2, t3, t4⟩; have h9 := K.size
   have t1 : s'.term = m.term := t1; have t2 : s.commit ≤ s'.commit := t2
   exact ⟨s', ov, o, he, hKF.trans K (fun i _ h => h) (fun i h1 h => h.1.elim id (fun z => by omega)), hF.wide (fun i hi => ⟨hi.1.elim (fun z => z.1) (fun z => .inr (by omega)), hi.2⟩), hO.low hsz, .inr ⟨hb, by omega, by omega, t2, fun z _ => by omega, t4⟩⟩
 ·rw [h42]
  have p56 : ¬ (m.term > s.term) := of_decide_eq_false h42
  refine q_skip (by kernel_rfl) ?_
  have hF1 : Fol w40 (fun i => (F i ∨ w.heap.size ≤ i) ∧ i < w40.heap.size) r q s (.slice none 0 0) := by have z : Fol w40 (fun i => (F i ∨ w.heap.size ≤ i) ∧ i < w40.heap.size) r q (⟨s.term, s.voted, s.leader, s.commit, s.elapsed, s.base, s.old, (l.map EntP.key)⟩ : FolS) (.slice none 0 0) := ⟨g, T, CF, A, c, l, kv, cv, came, Hr, (H0.keep K0 (fun h => hrg h.symm)), (Ents.keep hE K0 hrT), rfl, (ImgK.keep hKv K0 hKr), (ImgC.keep hCv K0 hCr), fun i hi => ⟨hrT i hi, hT i hi, (hT7 i hi).2.2.1, .inl (hT7 i hi).2.2.2, Ents.lt (Ents.keep hE K0 hrT) i hi⟩, fun i hi => ⟨hKr i hi, hKg i hi, (hK8 i hi).2.2.1, .inl (hK8 i hi).2.2.2, ImgK.lt (ImgK.keep hKv K0 hKr) i hi⟩, fun i hi => ⟨hCr i hi, hCg i hi, .inl (hC9 i hi).2.2, (ImgC.keep hCv K0 hCr).1 i hi⟩, by omega, ⟨.inl hFr, Hr.lt⟩, ⟨.inl hFg, (H0.keep K0 (fun h => hrg h.symm)).lt⟩, ⟨by show 0 ≤ (s.base : Int) ∧ (s.base : Int) ≤ 1152921504606846976; omega, by show ((l.map EntP.key)).length ≤ 4096; rw [List.length_map]; omega, hBig, by show (s.base : Int) ≤ s.commit ∧ (s.commit : Int) ≤ 2305843009213693952; omega⟩⟩; rw [hK] at z; exact z
  have hsz := K0.size
  have hKF : Keeps F w w40 := (K0.mono (fun i _ h => by rw [h]; exact hFr))
  have hUl := Ents.lt hY
  refine q_keep (R := [(0, (ptr r)), (4, (Value.slice none 0 0)), (5, (Value.iface t9 x9))]) (by kernel_rfl) ?_
  rcases hki with ⟨hk, rfl, rfl⟩ | ⟨hk, rfl, rfl⟩ | ⟨hk, rfl, rfl⟩ | ⟨hk, rfl, rfl⟩ | ⟨hk, rfl, rfl⟩ | ⟨hk, rfl, rfl⟩
  ·refine q_tail (Step_vote w40 (fun i => (F i ∨ w.heap.size ≤ i) ∧ i < w40.heap.size) r q s m E ec D dc U hF1 (Ents.keep hY K0 hUr) hBigY hYl (fun i hi h => h.1.elim (hUF i hi) (fun z => by have := hUl i hi; omega)) (RdB.keepg hD K0 (fun hb i hi h => (hDU hb i hi).1 (by rw [h]; exact hFr))) (fun hb i hi => ⟨fun h => h.1.elim (hDU hb i hi).1 (fun z => by have := (hDU hb i hi).2; omega), by have := (hDU hb i hi).2; omega⟩) hdb (by omega) (by skip; omega) hk) ?_
   rintro e w' ⟨s', ov, o, he, K, hF, hO, t1, t2, t3, t4⟩; have h9 := K.size
   have t1 : s'.term = s.term := t1; have t2 : s.commit ≤ s'.commit := t2
   exact ⟨s', ov, o, he, hKF.trans K (fun i _ h => h) (fun i h1 h => h.1.elim id (fun z => by omega)), hF.wide (fun i hi => ⟨hi.1.elim (fun z => z.1) (fun z => .inr (by omega)), hi.2⟩), hO.low hsz, .inr ⟨hb, by omega, by omega, t2, fun _ => t3, t4⟩⟩
  ·refine q_tail (Step_voteTold w40 (fun i => (F i ∨ w.heap.size ≤ i) ∧ i < w40.heap.size) r q s m E ec D dc U hF1 (Ents.keep hY K0 hUr) hBigY hYl (fun i hi h => h.1.elim (hUF i hi) (fun z => by have := hUl i hi; omega)) (RdB.keepg hD K0 (fun hb i hi h => (hDU hb i hi).1 (by rw [h]; exact hFr))) (fun hb i hi => ⟨fun h => h.1.elim (hDU hb i hi).1 (fun z => by have := (hDU hb i hi).2; omega), by have := (hDU hb i hi).2; omega⟩) hdb (by omega) (by skip; omega) hk) ?_
   rintro e w' ⟨s', ov, o, he, K, hF, hO, t1, t2, t3, t4⟩; have h9 := K.size
   have t1 : s'.term = s.term := t1; have t2 : s.commit ≤ s'.commit := t2
   exact ⟨s', ov, o, he, hKF.trans K (fun i _ h => h) (fun i h1 h => h.1.elim id (fun z => by omega)), hF.wide (fun i hi => ⟨hi.1.elim (fun z => z.1) (fun z => .inr (by omega)), hi.2⟩), hO.low hsz, .inr ⟨hb, by omega, by omega, t2, fun _ => t3, t4⟩⟩
  ·refine q_tail (Step_add w40 (fun i => (F i ∨ w.heap.size ≤ i) ∧ i < w40.heap.size) r q s m E ec D dc U hF1 (Ents.keep hY K0 hUr) hBigY hYl (fun i hi h => h.1.elim (hUF i hi) (fun z => by have := hUl i hi; omega)) (RdB.keepg hD K0 (fun hb i hi h => (hDU hb i hi).1 (by rw [h]; exact hFr))) (fun hb i hi => ⟨fun h => h.1.elim (hDU hb i hi).1 (fun z => by have := (hDU hb i hi).2; omega), by have := (hDU hb i hi).2; omega⟩) hdb (by omega) (by skip; omega) hk) ?_
   rintro e w' ⟨s', ov, o, he, K, hF, hO, t1, t2, t3, t4⟩; have h9 := K.size
   have t1 : s'.term = s.term := t1; have t2 : s.commit ≤ s'.commit := t2
   exact ⟨s', ov, o, he, hKF.trans K (fun i _ h => h) (fun i h1 h => h.1.elim id (fun z => by omega)), hF.wide (fun i hi => ⟨hi.1.elim (fun z => z.1) (fun z => .inr (by omega)), hi.2⟩), hO.low hsz, .inr ⟨hb, by omega, by omega, t2, fun _ => t3, t4⟩⟩
  ·refine q_tail (Step_addTold w40 (fun i => (F i ∨ w.heap.size ≤ i) ∧ i < w40.heap.size) r q s m E ec D dc U hF1 (Ents.keep hY K0 hUr) hBigY hYl (fun i hi h => h.1.elim (hUF i hi) (fun z => by have := hUl i hi; omega)) (RdB.keepg hD K0 (fun hb i hi h => (hDU hb i hi).1 (by rw [h]; exact hFr))) (fun hb i hi => ⟨fun h => h.1.elim (hDU hb i hi).1 (fun z => by have := (hDU hb i hi).2; omega), by have := (hDU hb i hi).2; omega⟩) hdb (by omega) (by skip; omega) hk) ?_
   rintro e w' ⟨s', ov, o, he, K, hF, hO, t1, t2, t3, t4⟩; have h9 := K.size
   have t1 : s'.term = s.term := t1; have t2 : s.commit ≤ s'.commit := t2
   exact ⟨s', ov, o, he, hKF.trans K (fun i _ h => h) (fun i h1 h => h.1.elim id (fun z => by omega)), hF.wide (fun i hi => ⟨hi.1.elim (fun z => z.1) (fun z => .inr (by omega)), hi.2⟩), hO.low hsz, .inr ⟨hb, by omega, by omega, t2, fun _ => t3, t4⟩⟩
  ·refine q_tail (Step_snap w40 (fun i => (F i ∨ w.heap.size ≤ i) ∧ i < w40.heap.size) r q s m E ec D dc U hF1 (Ents.keep hY K0 hUr) hBigY hYl (fun i hi h => h.1.elim (hUF i hi) (fun z => by have := hUl i hi; omega)) (RdB.keepg hD K0 (fun hb i hi h => (hDU hb i hi).1 (by rw [h]; exact hFr))) (fun hb i hi => ⟨fun h => h.1.elim (hDU hb i hi).1 (fun z => by have := (hDU hb i hi).2; omega), by have := (hDU hb i hi).2; omega⟩) hdb (by omega) (by skip; omega) hk) ?_
   rintro e w' ⟨s', ov, o, he, K, hF, hO, t1, t2, t3, t4⟩; have h9 := K.size
   have t1 : s'.term = s.term := t1; have t2 : s.commit ≤ s'.commit := t2
   exact ⟨s', ov, o, he, hKF.trans K (fun i _ h => h) (fun i h1 h => h.1.elim id (fun z => by omega)), hF.wide (fun i hi => ⟨hi.1.elim (fun z => z.1) (fun z => .inr (by omega)), hi.2⟩), hO.low hsz, .inr ⟨hb, by omega, by omega, t2, fun _ => t3, t4⟩⟩
  ·refine q_tail (Step_snapTold w40 (fun i => (F i ∨ w.heap.size ≤ i) ∧ i < w40.heap.size) r q s m E ec D dc U hF1 (Ents.keep hY K0 hUr) hBigY hYl (fun i hi h => h.1.elim (hUF i hi) (fun z => by have := hUl i hi; omega)) (RdB.keepg hD K0 (fun hb i hi h => (hDU hb i hi).1 (by rw [h]; exact hFr))) (fun hb i hi => ⟨fun h => h.1.elim (hDU hb i hi).1 (fun z => by have := (hDU hb i hi).2; omega), by have := (hDU hb i hi).2; omega⟩) hdb (by omega) (by skip; omega) hk) ?_
   rintro e w' ⟨s', ov, o, he, K, hF, hO, t1, t2, t3, t4⟩; have h9 := K.size
   have t1 : s'.term = s.term := t1; have t2 : s.commit ≤ s'.commit := t2
   exact ⟨s', ov, o, he, hKF.trans K (fun i _ h => h) (fun i h1 h => h.1.elim id (fun z => by omega)), hF.wide (fun i hi => ⟨hi.1.elim (fun z => z.1) (fun z => .inr (by omega)), hi.2⟩), hO.low hsz, .inr ⟨hb, by omega, by omega, t2, fun _ => t3, t4⟩⟩

theorem Step_calls (w : World) (F : Nat → Prop) (r : Nat) (q : FolQ) (s : FolS) (m : MsgP) (E : Option Addr) (ec : Nat) (D : Option Addr) (dc : Nat) (U : Nat → Prop) (hF : Fol w F r q s (.slice none 0 0)) (hFl : ∀ i, F i → i < w.heap.size) (hY : Ents w U (.slice E m.entries.length ec) m.entries) (hBigY : BigK (m.entries.map EntP.key)) (hYl : m.entries.length * 32 ≤ 140737488351232) (hm : m.Ok) (hUF : ∀ i, U i → ¬ F i) (hD : RdB w (.slice D m.data.length dc) m.data) (hDU : m.data ≠ [] → ∀ i, (Value.slice D m.data.length dc).ownBlock = some i → ¬ F i ∧ i < w.heap.size) (hdb : m.data.length ≤ 140737488351232) : Calls Try.prog 20 ⟨[ptr r, (MV m.kind m.ok m E ec D dc)]⟩ w (fun e w' => ∃ (s' : FolS) (ov : Value) (o : Option OutM), e = .returned ov ∧ Keeps F w w' ∧ Fol w' (fun i => (F i ∨ w.heap.size ≤ i) ∧ i < w'.heap.size) r q s' (.slice none 0 0) ∧ OutIs w' w.heap.size q ov o ∧ StepRel q m s s' o) := by
 by_cases hp : (m.group ≠ q.group ∨ m.to ≠ q.me ∨ m.frm = q.me ∨ m.frm < 0 ∨ q.n ≤ m.frm)
 ·exact Step_bad1 w F r q s m E ec D dc U hF hFl hY hBigY hYl hm hUF hD hDU hdb hp
 by_cases hk : (m.kind < 1 ∨ 6 < m.kind)
 ·exact Step_bad2 w F r q s m E ec D dc U hF hFl hY hBigY hYl hm hUF hD hDU hdb hp hk
 by_cases hw : (m.term < 1 ∨ 1152921504606846976 < m.term ∨ m.index < 0 ∨ 1152921504606846976 < m.index ∨ m.logTerm < 0 ∨ 1152921504606846976 < m.logTerm ∨ m.commit < 0 ∨ 1152921504606846976 < m.commit)
 ·exact Step_bad3 w F r q s m E ec D dc U hF hFl hY hBigY hYl hm hUF hD hDU hdb hp hk hw
 exact Step_good w F r q s m E ec D dc U hF hY hBigY hYl hm hUF hD hDU hdb (by unfold badM; omega)
end Go.Proofs.Ytnmpepjikfbpdaa
namespace Go.Proofs.Ytnmpepjikfbpdaa
open Go.Q Go.RowKit

theorem Repeat_one (w : World) (b : Nat) (n : Int) (Hb : Has w b (rowL [i64 n, i64 0, i64 0] 112)) : Calls Try.prog 60 ⟨[(Value.slice (some ⟨b, 0, none⟩) 1 1), (i64 1)]⟩ w (fun e w' => ∃ A c, e = .returned (.slice A 1 c) ∧ Keeps none_ w w') := by
 have K0 : Keeps none_ w w := Keeps.refl w
 have Hbl := Hb.lt
 refine q_calls Try.func60 (by kernel_rfl) (by kernel_rfl) ?_
 refine qs ?_
 refine qg ?_
 refine og 1 [(0, (Value.slice (some ⟨b, 0, none⟩) 1 1)), (1, (i64 1)), (4, (Value.slice none 0 0))] 1 ?_
 refine od ?_
 refine qs ?_
 refine qs ?_
 refine qg ?_
 refine og 2 [(0, (Value.slice (some ⟨b, 0, none⟩) 1 1)), (1, (i64 1)), (4, (Value.slice none 0 0)), (10, (Value.bool false))] 2 ?_
 refine od ?_
 refine q_else (o := .tmp 10) (by kernel_rfl) rfl ?_
 refine q_skip (by kernel_rfl) ?_
 refine qs ?_
 refine qg ?_
 refine og 5 [(0, (Value.slice (some ⟨b, 0, none⟩) 1 1)), (4, (Value.slice none 0 0)), (15, (Value.int IntKind.u64 1)), (17, (Value.int IntKind.u64 1))] 5 ?_
 refine Ops.call (by kernel_rfl) (d := (some 18)) (by kernel_rfl) (Mul_one _) ?_
 rintro _ w2 ⟨rfl, K1⟩
 refine ⟨_, _, rfl, rfl, ?_⟩
 replace K0 := K0.t0 K1
 replace Hb := Hb.keep K1 (fun h => h)
 clear K1
 refine og 5 [(0, (Value.slice (some ⟨b, 0, none⟩) 1 1)), (4, (Value.slice none 0 0)), (5, (Value.int IntKind.u64 0)), (6, (Value.int IntKind.u64 1))] 11 ?_
 refine od ?_
 refine qs ?_
 refine qs ?_
 refine qg ?_
 refine og 6 [(0, (Value.slice (some ⟨b, 0, none⟩) 1 1)), (4, (Value.slice none 0 0)), (6, (Value.int IntKind.u64 1)), (26, (Value.bool false))] 6 ?_
 refine od ?_
 refine q_else (o := .tmp 26) (by kernel_rfl) rfl ?_
 refine q_skip (by kernel_rfl) ?_
 refine qs ?_
 refine qg ?_
 refine og 2 [(0, (Value.slice (some ⟨b, 0, none⟩) 1 1)), (4, (Value.slice none 0 0)), (29, (i64 1))] 2 ?_
 refine Ops.new (o := rowL [(i64 0), (i64 0), (i64 0)] 112) (V := fun b => (Value.slice (some ⟨b, 0, none⟩) 1 1)) (by kernel_rfl) (d := (some 30)) (by kernel_rfl) (fun b => rfl) (fun b3 w4 hb5 H6 K7 hs8 => ?_)
 have lb3b : b < b3 := by have := Hb.lt; omega
 have nb3 : w.heap.size ≤ b3 := by have := K0.size; omega
 replace K0 := K0.t0 K7
 replace Hb := Hb.keep K7 (fun h => h)
 clear K7 hs8
 refine og 1 [(0, (Value.slice (some ⟨b, 0, none⟩) 1 1)), (4, (Value.slice none 0 0)), (7, (Value.slice (some ⟨b3, 0, none⟩) 1 1))] 4 ?_
 refine od ?_
 refine qs ?_
 refine qg ?_
 refine og 2 [(4, (Value.slice none 0 0)), (7, (Value.slice (some ⟨b3, 0, none⟩) 1 1)), (31, (Value.slice (some ⟨b3, 0, none⟩) 1 1)), (32, (Value.slice (some ⟨b, 0, none⟩) 1 1))] 2 ?_
 obtain ⟨w9, hr10, K11, H12⟩ := copy_rows2 (P := Try.prog) (t := 81) (ty := 3) (e := 112) (sz := 3) (b := b) (cs := [(i64 n), (i64 0), (i64 0)]) Try.underlying81 (by kernel_rfl) H6 rfl rfl (fun j v hj => by rw [Hb.cell]; exact hj) (by intro v hv; simp only [List.mem_cons, List.not_mem_nil, or_false] at hv; rcases hv with rfl | rfl | rfl <;> rfl)
 refine Ops.go (v := i64 1) (by kernel_rfl) (Runs.copied (ts := #[81, 81]) (ty := 3) (vs := [(Value.slice (some ⟨b3, 0, none⟩) 1 1), (Value.slice (some ⟨b, 0, none⟩) 1 1)]) (by kernel_rfl) hr10) (d := (some 33)) (by kernel_rfl) rfl ?_
 replace K0 := K0.trans K11 (U := none_) (fun i h1 h2 => h2) (fun i h1 h2 => by have h2 : i = b3 := h2; exfalso; omega)
 replace Hb := Hb.k1 K11 (by omega)
 clear K11 hr10
 refine og 1 [(4, (Value.slice none 0 0)), (7, (Value.slice (some ⟨b3, 0, none⟩) 1 1)), (8, (i64 1))] 4 ?_
 refine od ?_
 refine qs ?_
 refine q_block (id := 0) (by kernel_rfl) ?_
 refine q_keep (R := [(4, (Value.slice none 0 0)), (7, (Value.slice (some ⟨b3, 0, none⟩) 1 1)), (8, (i64 1))]) (by kernel_rfl) ?_
 refine q_loop (fun (z : Nat) L (wx : World) => L = [(4, (Value.slice none 0 0)), (7, (Value.slice (some ⟨b3, 0, none⟩) 1 1)), (8, (i64 1))] ∧ Keeps none_ w wx ∧ Has wx b (rowL [(i64 n), (i64 0), (i64 0)] 112) ∧ Has wx b3 (rowL [(i64 n), (i64 0), (i64 0)] 112)) (fun (z : Nat) => 0 - z) 0 (by kernel_rfl) ⟨rfl, K0, Hb, H12⟩ ?_
 clear Hb H12 K0
 rintro z _ w13 ⟨rfl, K14, H15, H16⟩
 refine qs ?_
 refine qs ?_
 refine qg ?_
 refine og 4 [(4, (Value.slice none 0 0)), (7, (Value.slice (some ⟨b3, 0, none⟩) 1 1)), (8, (i64 1)), (37, (Value.bool false))] 4 ?_
 refine od ?_
 refine q_else (o := .tmp 37) (by kernel_rfl) rfl ?_
 refine q_exit (id := 0) (by kernel_rfl) ?_
 refine qs ?_
 refine qg ?_
 refine og 2 [(4, (Value.slice (some ⟨b3, 0, none⟩) 1 1))] 2 ?_
 refine od ?_
 refine q_ret (by kernel_rfl) ?_
 refine ⟨(Value.slice (some ⟨b3, 0, none⟩) 1 1), retv_tmp rfl rfl, ?_⟩
 exact ⟨_, _, rfl, K14⟩
end Go.Proofs.Ytnmpepjikfbpdaa
namespace Go.Proofs.Ytnmpepjikfbpdaa
open Go.Q Go.RowKit

set_option maxHeartbeats 1000000 in
theorem agree_calls (w : World) (r g : Nat) (term voted role leader commit group elapsed timeout : Int) (vv pv : Value) (T : Nat → Prop) (base old : Int) (A : Option Addr) (c : Nat) (l : List EntP) (Hr : Has w r (rowL [(i64 term), (i64 voted), (i64 role), (i64 leader), (i64 commit), (i64 group), (i64 0), (i64 1), (ptr g), (i64 elapsed), (i64 timeout), (Value.slice none 0 0), vv, pv, (Value.pointer none), (Value.pointer none), (Value.bool false), (Value.slice none 0 0)] 84)) (H0 : Has w g (rowL [i64 base, i64 old, .slice A l.length c] 78)) (hE : Ents w T (.slice A l.length c) l) (hT : ∀ i, T i → i ≠ g) (hB : 0 ≤ base ∧ base ≤ 2305843009213693952) (hL : l.length ≤ 4096) (hrg : r ≠ g) (hrT : ∀ i, T i → i ≠ r) : Calls Try.prog 42 ⟨[(ptr r)]⟩ w (fun e w' => e = .returned (.tuple #[]) ∧ Keeps (fun i => i = r) w w' ∧ Has w' r (rowL [(i64 term), (i64 voted), (i64 role), (i64 leader), (i64 (agC base old term commit (l.map EntP.key))), (i64 group), (i64 0), (i64 1), (ptr g), (i64 elapsed), (i64 timeout), (Value.slice none 0 0), vv, pv, (Value.pointer none), (Value.pointer none), (Value.bool false), (Value.slice none 0 0)] 84)) := by
 have hcap := Ents.len hE
 have Hg := H0.lt
 have Hrl := Hr.lt
 have K0 : Keeps (fun i => i = r) w w := (Keeps.refl w).mono (fun _ _ h => h.elim)
 refine q_calls Try.func42 (by kernel_rfl) (by kernel_rfl) ?_
 refine qs ?_
 refine qg ?_
 refine Ops.new (o := rowL [(ptr r)] 29) (V := fun b => (ptr b)) (by kernel_rfl) (d := (some 1)) (by kernel_rfl) (fun b => rfl) (fun b1 w2 hb3 H4 K5 hs6 => ?_)
 have lb1g : g < b1 := by have := H0.lt; omega
 have lb1r : r < b1 := by have := Hr.lt; omega
 have nb1 : w.heap.size ≤ b1 := by have := K0.size; omega
 have ot7 : ∀ i, T i → i ≠ b1 := fun i hi => by have := Ents.lt hE i hi; omega
 replace K0 := K0.tn K5
 replace H0 := H0.keep K5 (fun h => h)
 replace Hr := Hr.keep K5 (fun h => h)
 replace hE := Ents.keep0 hE K5
 clear K5 hs6
 refine od ?_
 refine qs ?_
 refine qg ?_
 refine Ops.go (v := (ptr r)) (by kernel_rfl) (Runs.load (t := 29) (a := ⟨b1, 0, none⟩) (by kernel_rfl) (H4.loads (by kernel_rfl))) (d := (some 9)) (by kernel_rfl) rfl ?_
 refine og 2 [(1, (ptr b1)), (11, (Value.pointer (some ⟨r, 8, none⟩)))] 3 ?_
 refine Ops.go (v := (ptr g)) (by kernel_rfl) (Runs.load (t := 24) (a := ⟨r, 8, none⟩) (by kernel_rfl) (Hr.loads (by kernel_rfl))) (d := (some 12)) (by kernel_rfl) rfl ?_
 refine Ops.call (by kernel_rfl) (d := (some 13)) (by kernel_rfl) (Last_calls _ T g base old A c l H0 hE hT (by omega) (by omega)) ?_
 rintro _ w9 ⟨rfl, K8⟩
 refine ⟨_, _, rfl, rfl, ?_⟩
 replace K0 := K0.tn K8
 replace H0 := H0.keep K8 (fun h => h)
 replace Hr := Hr.keep K8 (fun h => h)
 replace H4 := H4.keep K8 (fun h => h)
 replace hE := Ents.keep0 hE K8
 clear K8
 refine og 5 [(1, (ptr b1)), (2, (i64 (base + ((l.length : Nat) : Int))))] 10 ?_
 refine od ?_
 refine qs ?_
 refine qg ?_
 refine og 1 [(1, (ptr b1)), (2, (i64 (base + ((l.length : Nat) : Int)))), (16, (i64 (base + ((l.length : Nat) : Int))))] 1 ?_
 refine Ops.new (o := rowL [(i64 (base + ((l.length : Nat) : Int)))] 2) (V := fun b => (Value.slice (some ⟨b, 0, none⟩) 1 1)) (by kernel_rfl) (d := (some 17)) (by kernel_rfl) (fun b => rfl) (fun b10 w11 hb12 H13 K14 hs15 => ?_)
 have lb10g : g < b10 := by have := H0.lt; omega
 have lb10r : r < b10 := by have := Hr.lt; omega
 have lb10b1 : b1 < b10 := by have := H4.lt; omega
 have nb10 : w.heap.size ≤ b10 := by have := K0.size; omega
 have ot16 : ∀ i, T i → i ≠ b10 := fun i hi => by have := Ents.lt hE i hi; omega
 replace K0 := K0.tn K14
 replace H0 := H0.keep K14 (fun h => h)
 replace Hr := Hr.keep K14 (fun h => h)
 replace H4 := H4.keep K14 (fun h => h)
 replace hE := Ents.keep0 hE K14
 clear K14 hs15
 refine Ops.new (o := rowL [(Value.slice none 0 0)] 61) (V := fun b => (ptr b)) (by kernel_rfl) (d := (some 4)) (by kernel_rfl) (fun b => rfl) (fun b17 w18 hb19 H20 K21 hs22 => ?_)
 have lb17g : g < b17 := by have := H0.lt; omega
 have lb17r : r < b17 := by have := Hr.lt; omega
 have lb17b1 : b1 < b17 := by have := H4.lt; omega
 have lb17b10 : b10 < b17 := by have := H13.lt; omega
 have nb17 : w.heap.size ≤ b17 := by have := K0.size; omega
 have ot23 : ∀ i, T i → i ≠ b17 := fun i hi => by have := Ents.lt hE i hi; omega
 replace K0 := K0.tn K21
 replace H0 := H0.keep K21 (fun h => h)
 replace Hr := Hr.keep K21 (fun h => h)
 replace H4 := H4.keep K21 (fun h => h)
 replace H13 := H13.keep K21 (fun h => h)
 replace hE := Ents.keep0 hE K21
 clear K21 hs22
 refine Ops.put (t := 61) (b := b17) (off := 0) (v := (Value.slice (some ⟨b10, 0, none⟩) 1 1)) (ys := [(Value.slice (some ⟨b10, 0, none⟩) 1 1)]) (by kernel_rfl) (by kernel_rfl) H20 (by kernel_rfl) (d := none) (by kernel_rfl) rfl (fun w24 H25 K26 => ?_)
 clear H20
 replace K0 := K0.trans K26 (U := (fun i => i = r)) (fun i h1 h2 => h2) (fun i h1 h2 => by have h2 : i = b17 := h2; show i = r; omega)
 replace H0 := H0.k1 K26 (by omega)
 replace Hr := Hr.k1 K26 (by omega)
 replace H4 := H4.k1 K26 (by omega)
 replace H13 := H13.k1 K26 (by omega)
 replace hE := Ents.keep hE K26 ot23
 clear K26
 refine od ?_
 refine qs ?_
 refine qg ?_
 refine Ops.go (v := (ptr r)) (by kernel_rfl) (Runs.load (t := 29) (a := ⟨b1, 0, none⟩) (by kernel_rfl) (H4.loads (by kernel_rfl))) (d := (some 18)) (by kernel_rfl) rfl ?_
 refine og 1 [(1, (ptr b1)), (2, (i64 (base + ((l.length : Nat) : Int)))), (4, (ptr b17)), (18, (ptr r)), (19, (Value.func (Fn.func 58) ⟨[]⟩ ⟨[(ptr b17), (ptr b1)]⟩))] 2 ?_
 refine Ops.call (by kernel_rfl) (d := (some 20)) (by kernel_rfl) (others_calls _ r g term voted role leader commit group elapsed timeout vv pv (Value.func (Fn.func 58) ⟨[]⟩ ⟨[(ptr b17), (ptr b1)]⟩) Hr) ?_
 rintro _ w28 ⟨rfl, K27⟩
 refine ⟨_, _, rfl, rfl, ?_⟩
 replace K0 := K0.tn K27
 replace H0 := H0.keep K27 (fun h => h)
 replace Hr := Hr.keep K27 (fun h => h)
 replace H4 := H4.keep K27 (fun h => h)
 replace H13 := H13.keep K27 (fun h => h)
 replace H25 := H25.keep K27 (fun h => h)
 replace hE := Ents.keep0 hE K27
 clear K27
 refine od ?_
 refine qs ?_
 refine qg ?_
 refine Ops.go (v := (Value.slice (some ⟨b10, 0, none⟩) 1 1)) (by kernel_rfl) (Runs.load (t := 61) (a := ⟨b17, 0, none⟩) (by kernel_rfl) (H25.loads (by kernel_rfl))) (d := (some 21)) (by kernel_rfl) rfl ?_
 refine Ops.call (by kernel_rfl) (d := (some 22)) (by kernel_rfl) (Sort_one _ (some ⟨b10, 0, none⟩) 1) ?_
 rintro _ w30 ⟨rfl, K29⟩
 refine ⟨_, _, rfl, rfl, ?_⟩
 replace K0 := K0.tn K29
 replace H0 := H0.keep K29 (fun h => h)
 replace Hr := Hr.keep K29 (fun h => h)
 replace H4 := H4.keep K29 (fun h => h)
 replace H13 := H13.keep K29 (fun h => h)
 replace H25 := H25.keep K29 (fun h => h)
 replace hE := Ents.keep0 hE K29
 clear K29
 refine od ?_
 refine qs ?_
 refine qg ?_
 refine Ops.go (v := (Value.slice (some ⟨b10, 0, none⟩) 1 1)) (by kernel_rfl) (Runs.load (t := 61) (a := ⟨b17, 0, none⟩) (by kernel_rfl) (H25.loads (by kernel_rfl))) (d := (some 23)) (by kernel_rfl) rfl ?_
 refine Ops.go (v := (Value.slice (some ⟨b10, 0, none⟩) 1 1)) (by kernel_rfl) (Runs.load (t := 61) (a := ⟨b17, 0, none⟩) (by kernel_rfl) (H25.loads (by kernel_rfl))) (d := (some 24)) (by kernel_rfl) rfl ?_
 refine og 4 [(1, (ptr b1)), (2, (i64 (base + ((l.length : Nat) : Int)))), (28, (ptr b10))] 6 ?_
 refine Ops.go (v := (i64 (base + ((l.length : Nat) : Int)))) (by kernel_rfl) (Runs.load (t := 2) (a := ⟨b10, 0, none⟩) (by kernel_rfl) (H13.loads (by kernel_rfl))) (d := (some 29)) (by kernel_rfl) rfl ?_
 refine og 2 [(1, (ptr b1)), (31, (i64 (if (base + ((l.length : Nat) : Int) : Int) < (base + ((l.length : Nat) : Int)) then (base + ((l.length : Nat) : Int) : Int) else (base + ((l.length : Nat) : Int)))))] 9 ?_
 have e31 : (if (base + ((l.length : Nat) : Int) : Int) < (base + ((l.length : Nat) : Int)) then (base + ((l.length : Nat) : Int) : Int) else (base + ((l.length : Nat) : Int))) = base + ((l.length : Nat) : Int) := by split <;> rfl
 rw [e31]
 clear e31
 refine og 1 [(1, (ptr b1)), (5, (i64 (base + ((l.length : Nat) : Int))))] 10 ?_
 refine od ?_
 refine qs ?_
 refine qg ?_
 refine Ops.go (v := (ptr r)) (by kernel_rfl) (Runs.load (t := 29) (a := ⟨b1, 0, none⟩) (by kernel_rfl) (H4.loads (by kernel_rfl))) (d := (some 33)) (by kernel_rfl) rfl ?_
 refine og 2 [(1, (ptr b1)), (5, (i64 (base + ((l.length : Nat) : Int)))), (35, (Value.pointer (some ⟨r, 8, none⟩)))] 3 ?_
 refine Ops.go (v := (ptr g)) (by kernel_rfl) (Runs.load (t := 24) (a := ⟨r, 8, none⟩) (by kernel_rfl) (Hr.loads (by kernel_rfl))) (d := (some 36)) (by kernel_rfl) rfl ?_
 refine og 1 [(1, (ptr b1)), (5, (i64 (base + ((l.length : Nat) : Int)))), (36, (ptr g)), (37, (i64 (base + ((l.length : Nat) : Int))))] 5 ?_
 refine Ops.call (by kernel_rfl) (d := (some 38)) (by kernel_rfl) (Term_calls _ T g base old A c l (base + ((l.length : Nat) : Int)) H0 hE hT (by omega) (by omega) (by omega)) ?_
 rintro _ w33 ⟨rfl, K32⟩
 refine ⟨_, _, rfl, rfl, ?_⟩
 replace K0 := K0.tn K32
 replace H0 := H0.keep K32 (fun h => h)
 replace Hr := Hr.keep K32 (fun h => h)
 replace H4 := H4.keep K32 (fun h => h)
 replace H13 := H13.keep K32 (fun h => h)
 replace H25 := H25.keep K32 (fun h => h)
 replace hE := Ents.keep0 hE K32
 clear K32
 refine og 5 [(1, (ptr b1)), (5, (i64 (base + ((l.length : Nat) : Int)))), (6, (i64 ((termK base old (l.map EntP.key) (base + ((l.length : Nat) : Int))).1)))] 11 ?_
 refine od ?_
 refine qs ?_
 refine qg ?_
 refine og 1 [(1, (ptr b1)), (5, (i64 (base + ((l.length : Nat) : Int)))), (6, (i64 ((termK base old (l.map EntP.key) (base + ((l.length : Nat) : Int))).1))), (41, (i64 (base + ((l.length : Nat) : Int))))] 1 ?_
 refine Ops.go (v := (ptr r)) (by kernel_rfl) (Runs.load (t := 29) (a := ⟨b1, 0, none⟩) (by kernel_rfl) (H4.loads (by kernel_rfl))) (d := (some 42)) (by kernel_rfl) rfl ?_
 refine og 3 [(1, (ptr b1)), (5, (i64 (base + ((l.length : Nat) : Int)))), (6, (i64 ((termK base old (l.map EntP.key) (base + ((l.length : Nat) : Int))).1))), (41, (i64 (base + ((l.length : Nat) : Int)))), (45, (Value.pointer (some ⟨r, 4, none⟩)))] 5 ?_
 refine Ops.go (v := (i64 commit)) (by kernel_rfl) (Runs.load (t := 2) (a := ⟨r, 4, none⟩) (by kernel_rfl) (Hr.loads (by kernel_rfl))) (d := (some 46)) (by kernel_rfl) rfl ?_
 refine og 2 [(1, (ptr b1)), (5, (i64 (base + ((l.length : Nat) : Int)))), (6, (i64 ((termK base old (l.map EntP.key) (base + ((l.length : Nat) : Int))).1))), (48, (Value.bool (decide (base + ((l.length : Nat) : Int) > commit))))] 8 ?_
 refine Ops.split (decide (base + ((l.length : Nat) : Int) > commit)) (fun h34 => ?_) (fun h34 => ?_)
 ·rw [h34]
  have p35 : base + ((l.length : Nat) : Int) > commit := of_decide_eq_true h34
  refine og 1 [(1, (ptr b1)), (5, (i64 (base + ((l.length : Nat) : Int)))), (48, (Value.bool true)), (49, (i64 ((termK base old (l.map EntP.key) (base + ((l.length : Nat) : Int))).1)))] 9 ?_
  refine Ops.go (v := (ptr r)) (by kernel_rfl) (Runs.load (t := 29) (a := ⟨b1, 0, none⟩) (by kernel_rfl) (H4.loads (by kernel_rfl))) (d := (some 50)) (by kernel_rfl) rfl ?_
  refine og 3 [(1, (ptr b1)), (5, (i64 (base + ((l.length : Nat) : Int)))), (48, (Value.bool true)), (49, (i64 ((termK base old (l.map EntP.key) (base + ((l.length : Nat) : Int))).1))), (53, (ptr r))] 13 ?_
  refine Ops.go (v := (i64 term)) (by kernel_rfl) (Runs.load (t := 2) (a := ⟨r, 0, none⟩) (by kernel_rfl) (Hr.loads (by kernel_rfl))) (d := (some 54)) (by kernel_rfl) rfl ?_
  refine og 2 [(1, (ptr b1)), (5, (i64 (base + ((l.length : Nat) : Int)))), (56, (Value.bool (((termK base old (l.map EntP.key) (base + ((l.length : Nat) : Int))).1) == term)))] 16 ?_
  refine od ?_
  refine q_cond (o := .tmp 56) (b := (((termK base old (l.map EntP.key) (base + ((l.length : Nat) : Int))).1) == term)) (by kernel_rfl) rfl (fun h36 => ?_) (fun h36 => ?_)
  ·rw [h36]
   have p37 : (termK base old (l.map EntP.key) (base + ((l.length : Nat) : Int))).1 = term := of_beq_t h36
   refine qg ?_
   refine Ops.go (v := (ptr r)) (by kernel_rfl) (Runs.load (t := 29) (a := ⟨b1, 0, none⟩) (by kernel_rfl) (H4.loads (by kernel_rfl))) (d := (some 57)) (by kernel_rfl) rfl ?_
   refine og 4 [(58, (i64 (base + ((l.length : Nat) : Int)))), (61, (Value.pointer (some ⟨r, 4, none⟩)))] 5 ?_
   refine Ops.put (t := 2) (b := r) (off := 4) (v := (i64 (base + ((l.length : Nat) : Int)))) (ys := [(i64 term), (i64 voted), (i64 role), (i64 leader), (i64 (base + ((l.length : Nat) : Int))), (i64 group), (i64 0), (i64 1), (ptr g), (i64 elapsed), (i64 timeout), (Value.slice none 0 0), vv, pv, (Value.pointer none), (Value.pointer none), (Value.bool false), (Value.slice none 0 0)]) (by kernel_rfl) (by kernel_rfl) Hr (by kernel_rfl) (d := none) (by kernel_rfl) rfl (fun w38 H39 K40 => ?_)
   clear Hr
   replace K0 := K0.t1 K40 (fun _ => rfl)
   replace H0 := H0.k1 K40 (by omega)
   replace H4 := H4.k1 K40 (by omega)
   replace H13 := H13.k1 K40 (by omega)
   replace H25 := H25.k1 K40 (by omega)
   replace hE := Ents.keep hE K40 hrT
   clear K40
   refine od ?_
   refine ⟨(Value.tuple #[]), retv_none rfl, ?_⟩
   have e : agC base old term commit (l.map EntP.key) = base + ((l.length : Nat) : Int) := by unfold agC; rw [List.length_map]; first | (rw [if_pos ⟨by omega, by unfold lastK; rw [List.length_map]; omega⟩]; done) | (rw [if_neg (fun q => by first | omega | (have q2 := q.2; unfold lastK at q2; rw [List.length_map] at q2; omega))])
   exact ⟨rfl, K0, by rw [e]; exact H39⟩
  ·rw [h36]
   have p41 : ¬ ((termK base old (l.map EntP.key) (base + ((l.length : Nat) : Int))).1 = term) := of_beq_f h36
   refine q_skip (by kernel_rfl) ?_
   refine ⟨(Value.tuple #[]), retv_none rfl, ?_⟩
   have e : agC base old term commit (l.map EntP.key) = commit := by unfold agC; rw [List.length_map]; first | (rw [if_pos ⟨by omega, by unfold lastK; rw [List.length_map]; omega⟩]; done) | (rw [if_neg (fun q => by first | omega | (have q2 := q.2; unfold lastK at q2; rw [List.length_map] at q2; omega))])
   exact ⟨rfl, K0, by rw [e]; exact Hr⟩
 ·rw [h34]
  have p42 : ¬ (base + ((l.length : Nat) : Int) > commit) := of_decide_eq_false h34
  refine og 8 [(1, (ptr b1)), (5, (i64 (base + ((l.length : Nat) : Int)))), (56, (Value.bool false))] 16 ?_
  refine od ?_
  refine q_else (o := .tmp 56) (by kernel_rfl) rfl ?_
  refine q_skip (by kernel_rfl) ?_
  refine ⟨(Value.tuple #[]), retv_none rfl, ?_⟩
  have e : agC base old term commit (l.map EntP.key) = commit := by unfold agC; rw [List.length_map]; first | (rw [if_pos ⟨by omega, by unfold lastK; rw [List.length_map]; omega⟩]; done) | (rw [if_neg (fun q => by first | omega | (have q2 := q.2; unfold lastK at q2; rw [List.length_map] at q2; omega))])
  exact ⟨rfl, K0, by rw [e]; exact Hr⟩
end Go.Proofs.Ytnmpepjikfbpdaa
