/- What the claim stands on, part 10: rules of the walk, contracts of the functions, plain laws. -/
import Derived.Test.YtnmpepjikfbpdaaProg
import Derived.Test.YtnmpepjikfbpdaaKRDeaf8
import Derived.Test.YtnmpepjikfbpdaaKRDeaf9
import Derived.Test.YtnmpepjikfbpdaaKRDeaf5
import Derived.Test.YtnmpepjikfbpdaaKRDeaf7
set_option linter.unusedVariables false
namespace Go.Proofs.Ytnmpepjikfbpdaa
open Go.Q Go.RowKit

theorem current_none (w : World) (r : Nat) (q : FolQ) (s : FolS) (g : Nat) (T : Nat → Prop) (A : Option Addr) (c : Nat) (l : List EntP) (cv : Value) (came : Bool) (Hr : Has w r (rowL [(i64 s.term), (i64 s.voted), (i64 0), (i64 s.leader), (i64 s.commit), (i64 q.group), (i64 q.me), (i64 q.n), (ptr g), (i64 s.elapsed), (i64 q.timeout), (Value.slice none 0 0), (Value.map none), (Value.slice none 0 0), (Value.pointer none), cv, (Value.bool came), (Value.slice none 0 0)] 84)) (H0 : Has w g (rowL [i64 s.base, i64 s.old, .slice A l.length c] 78)) (hE : Ents w T (.slice A l.length c) l) (hT : ∀ i, T i → i ≠ g) (hB : 0 ≤ s.base ∧ s.base ≤ 1152921504606846976) (hL : l.length ≤ 4096) : Calls Try.prog 52 ⟨[(ptr r)]⟩ w (fun e w' => ∃ v, e = .returned v ∧ Keeps none_ w w') := by
 have hcap := Ents.len hE
 have Hg := H0.lt
 have Hrl := Hr.lt
 have K0 : Keeps none_ w w := Keeps.refl w
 refine q_calls Try.func52 (by kernel_rfl) (by kernel_rfl) ?_
 refine qs ?_
 refine qg ?_
 refine og 1 [(0, (ptr r)), (2, (Value.pointer none))] 1 ?_
 refine od ?_
 refine qs ?_
 refine qg ?_
 refine og 3 [(0, (ptr r)), (2, (Value.pointer none)), (8, (Value.pointer (some ⟨r, 8, none⟩)))] 3 ?_
 refine Ops.go (v := (ptr g)) (by kernel_rfl) (Runs.load (t := 24) (a := ⟨r, 8, none⟩) (by kernel_rfl) (Hr.loads (by kernel_rfl))) (d := (some 9)) (by kernel_rfl) rfl ?_
 refine Ops.call (by kernel_rfl) (d := (some 10)) (by kernel_rfl) (Base_calls _ T g s.base s.old A c l H0 hE hT (by omega) (by omega)) ?_
 rintro _ w2 ⟨rfl, K1⟩
 refine ⟨_, _, rfl, rfl, ?_⟩
 replace K0 := K0.t0 K1
 replace Hr := Hr.keep K1 (fun h => h)
 replace H0 := H0.keep K1 (fun h => h)
 replace hE := Ents.keep0 hE K1
 clear K1
 refine og 5 [(0, (ptr r)), (2, (Value.pointer none)), (3, (i64 s.base))] 10 ?_
 refine od ?_
 refine qs ?_
 refine qs ?_
 refine qg ?_
 refine og 3 [(0, (ptr r)), (2, (Value.pointer none)), (3, (i64 s.base)), (15, (Value.pointer (some ⟨r, 14, none⟩)))] 3 ?_
 refine Ops.go (v := (Value.pointer none)) (by kernel_rfl) (Runs.load (t := 82) (a := ⟨r, 14, none⟩) (by kernel_rfl) (Hr.loads (by kernel_rfl))) (d := (some 16)) (by kernel_rfl) rfl ?_
 refine og 12 [(0, (ptr r)), (2, (Value.pointer none)), (28, (Value.bool true))] 16 ?_
 refine od ?_
 refine q_then (o := .tmp 28) (by kernel_rfl) rfl ?_
 refine qs ?_
 refine qg ?_
 refine og 1 [(0, (ptr r)), (2, (Value.pointer none))] 1 ?_
 refine od ?_
 refine q_ret (by kernel_rfl) ?_
 refine ⟨(Value.pointer none), retv_tmp rfl rfl, ?_⟩
 exact ⟨_, rfl, K0⟩

theorem current_some (w : World) (r : Nat) (q : FolQ) (s : FolS) (g : Nat) (T : Nat → Prop) (A : Option Addr) (c : Nat) (l : List EntP) (cv : Value) (came : Bool) (kb : Nat) (ka kt : Int) (KD : Option Addr) (kn kc : Nat) (Hr : Has w r (rowL [(i64 s.term), (i64 s.voted), (i64 0), (i64 s.leader), (i64 s.commit), (i64 q.group), (i64 q.me), (i64 q.n), (ptr g), (i64 s.elapsed), (i64 q.timeout), (Value.slice none 0 0), (Value.map none), (Value.slice none 0 0), (ptr kb), cv, (Value.bool came), (Value.slice none 0 0)] 84)) (H0 : Has w g (rowL [i64 s.base, i64 s.old, .slice A l.length c] 78)) (hE : Ents w T (.slice A l.length c) l) (hT : ∀ i, T i → i ≠ g) (hB : 0 ≤ s.base ∧ s.base ≤ 1152921504606846976) (hL : l.length ≤ 4096) (Hk : Has w kb (rowL [i64 ka, i64 kt, .slice KD kn kc] 110)) : Calls Try.prog 52 ⟨[(ptr r)]⟩ w (fun e w' => ∃ v, e = .returned v ∧ Keeps none_ w w') := by
 have hcap := Ents.len hE
 have Hg := H0.lt
 have Hrl := Hr.lt
 have K0 : Keeps none_ w w := Keeps.refl w
 refine q_calls Try.func52 (by kernel_rfl) (by kernel_rfl) ?_
 refine qs ?_
 refine qg ?_
 refine og 1 [(0, (ptr r)), (2, (Value.pointer none))] 1 ?_
 refine od ?_
 refine qs ?_
 refine qg ?_
 refine og 3 [(0, (ptr r)), (2, (Value.pointer none)), (8, (Value.pointer (some ⟨r, 8, none⟩)))] 3 ?_
 refine Ops.go (v := (ptr g)) (by kernel_rfl) (Runs.load (t := 24) (a := ⟨r, 8, none⟩) (by kernel_rfl) (Hr.loads (by kernel_rfl))) (d := (some 9)) (by kernel_rfl) rfl ?_
 refine Ops.call (by kernel_rfl) (d := (some 10)) (by kernel_rfl) (Base_calls _ T g s.base s.old A c l H0 hE hT (by omega) (by omega)) ?_
 rintro _ w2 ⟨rfl, K1⟩
 refine ⟨_, _, rfl, rfl, ?_⟩
 replace K0 := K0.t0 K1
 replace Hr := Hr.keep K1 (fun h => h)
 replace H0 := H0.keep K1 (fun h => h)
 replace Hk := Hk.keep K1 (fun h => h)
 replace hE := Ents.keep0 hE K1
 clear K1
 refine og 5 [(0, (ptr r)), (2, (Value.pointer none)), (3, (i64 s.base))] 10 ?_
 refine od ?_
 refine qs ?_
 refine qs ?_
 refine qg ?_
 refine og 3 [(0, (ptr r)), (2, (Value.pointer none)), (3, (i64 s.base)), (15, (Value.pointer (some ⟨r, 14, none⟩)))] 3 ?_
 refine Ops.go (v := (ptr kb)) (by kernel_rfl) (Runs.load (t := 82) (a := ⟨r, 14, none⟩) (by kernel_rfl) (Hr.loads (by kernel_rfl))) (d := (some 16)) (by kernel_rfl) rfl ?_
 refine og 5 [(0, (ptr r)), (2, (Value.pointer none)), (3, (i64 s.base)), (18, (Value.bool false)), (21, (Value.pointer (some ⟨r, 14, none⟩)))] 9 ?_
 refine Ops.go (v := (ptr kb)) (by kernel_rfl) (Runs.load (t := 82) (a := ⟨r, 14, none⟩) (by kernel_rfl) (Hr.loads (by kernel_rfl))) (d := (some 22)) (by kernel_rfl) rfl ?_
 refine og 2 [(0, (ptr r)), (2, (Value.pointer none)), (3, (i64 s.base)), (18, (Value.bool false)), (24, (ptr kb))] 12 ?_
 refine Ops.go (v := (i64 ka)) (by kernel_rfl) (Runs.load (t := 2) (a := ⟨kb, 0, none⟩) (by kernel_rfl) (Hk.loads (by kernel_rfl))) (d := (some 25)) (by kernel_rfl) rfl ?_
 refine og 3 [(0, (ptr r)), (2, (Value.pointer none)), (28, (Value.bool (ka != s.base)))] 16 ?_
 refine od ?_
 refine q_cond (o := .tmp 28) (b := (ka != s.base)) (by kernel_rfl) rfl (fun h3 => ?_) (fun h3 => ?_)
 ·rw [h3]
  have p4 : ¬ (ka = s.base) := of_bne_t h3
  refine qs ?_
  refine qg ?_
  refine og 1 [(0, (ptr r)), (2, (Value.pointer none))] 1 ?_
  refine od ?_
  refine q_ret (by kernel_rfl) ?_
  refine ⟨(Value.pointer none), retv_tmp rfl rfl, ?_⟩
  exact ⟨_, rfl, K0⟩
 ·rw [h3]
  have p5 : ka = s.base := of_bne_f h3
  refine q_skip (by kernel_rfl) ?_
  refine qs ?_
  refine qg ?_
  refine og 3 [(2, (Value.pointer none)), (31, (Value.pointer (some ⟨r, 14, none⟩)))] 3 ?_
  refine Ops.go (v := (ptr kb)) (by kernel_rfl) (Runs.load (t := 82) (a := ⟨r, 14, none⟩) (by kernel_rfl) (Hr.loads (by kernel_rfl))) (d := (some 32)) (by kernel_rfl) rfl ?_
  refine og 1 [(2, (ptr kb))] 5 ?_
  refine od ?_
  refine q_ret (by kernel_rfl) ?_
  refine ⟨(ptr kb), retv_tmp rfl rfl, ?_⟩
  exact ⟨_, rfl, K0⟩

theorem current_calls (w : World) (r : Nat) (q : FolQ) (s : FolS) (g : Nat) (T : Nat → Prop) (A : Option Addr) (c : Nat) (l : List EntP) (cv : Value) (came : Bool) (kv : Value) (Hr : Has w r (rowL [(i64 s.term), (i64 s.voted), (i64 0), (i64 s.leader), (i64 s.commit), (i64 q.group), (i64 q.me), (i64 q.n), (ptr g), (i64 s.elapsed), (i64 q.timeout), (Value.slice none 0 0), (Value.map none), (Value.slice none 0 0), kv, cv, (Value.bool came), (Value.slice none 0 0)] 84)) (H0 : Has w g (rowL [i64 s.base, i64 s.old, .slice A l.length c] 78)) (hE : Ents w T (.slice A l.length c) l) (hT : ∀ i, T i → i ≠ g) (hB : 0 ≤ s.base ∧ s.base ≤ 1152921504606846976) (hL : l.length ≤ 4096) (hK : ImgK w kv) : Calls Try.prog 52 ⟨[ptr r]⟩ w (fun e w' => ∃ v, e = .returned v ∧ Keeps none_ w w') := by
 rcases hK with rfl | ⟨kb, ka, kt, KD, kn, kc, rfl, Hk⟩
 ·exact current_none w r q s g T A c l cv came Hr H0 hE hT hB hL
 ·exact current_some w r q s g T A c l cv came kb ka kt KD kn kc Hr H0 hE hT hB hL Hk

set_option maxHeartbeats 2000000 in
theorem install_calls (w : World) (r g : Nat) (term voted leader commit group me n elapsed timeout : Int) (kv : Value) (came : Bool) (T : Nat → Prop) (base old : Int) (A : Option Addr) (c : Nat) (l : List EntP) (cb : Nat) (ca ct : Int) (CD : Option Addr) (cn cdc : Nat) (Hr : Has w r (rowL [(i64 term), (i64 voted), (i64 0), (i64 leader), (i64 commit), (i64 group), (i64 me), (i64 n), (ptr g), (i64 elapsed), (i64 timeout), (Value.slice none 0 0), (Value.map none), (Value.slice none 0 0), kv, (Value.pointer none), (Value.bool came), (Value.slice none 0 0)] 84)) (H0 : Has w g (rowL [i64 base, i64 old, .slice A l.length c] 78)) (hE : Ents w T (.slice A l.length c) l) (hT : ∀ i, T i → i ≠ g) (hB : 0 ≤ base ∧ base ≤ 2305843009213693952) (hL : l.length ≤ 4096) (hrg : r ≠ g) (hrT : ∀ i, T i → i ≠ r) (hBig : BigK (l.map EntP.key)) (Hcb : Has w cb (rowL [(i64 ca), (i64 ct), (Value.slice CD cn cdc)] 110)) (hTcb : ∀ i, T i → i ≠ cb) (hcb : cb ≠ r ∧ cb ≠ g) (hca : 0 ≤ ca ∧ ca ≤ 1152921504606846976) (hac : commit < ca) (hbc : base ≤ commit) (hb60 : base ≤ 1152921504606846976) : Calls Try.prog 66 ⟨[(ptr r), (ptr cb)]⟩ w (fun e w' => ∃ (bb : Bool) (g' : Nat) (base' old' : Int) (A' : Option Addr) (c' : Nat) (l' : List EntP) (T' : Nat → Prop) (cm : Int) (kv' : Value) (came' : Bool), e = .returned (.bool bb) ∧ Keeps (fun i => i = r ∨ i = g) w w' ∧ Has w' r (rowL [(i64 term), (i64 voted), (i64 0), (i64 leader), (i64 cm), (i64 group), (i64 me), (i64 n), (ptr g'), (i64 elapsed), (i64 timeout), (Value.slice none 0 0), (Value.map none), (Value.slice none 0 0), kv', (Value.pointer none), (Value.bool came'), (Value.slice none 0 0)] 84) ∧ Has w' g' (rowL [i64 base', i64 old', .slice A' l'.length c'] 78) ∧ Ents w' T' (.slice A' l'.length c') l' ∧ l'.length ≤ 4096 ∧ BigK (l'.map EntP.key) ∧ (∀ i, T' i → i ≠ g' ∧ i ≠ r ∧ (T i ∨ w.heap.size ≤ i)) ∧ (g' = g ∨ w.heap.size ≤ g') ∧ r ≠ g' ∧ (0 ≤ base' ∧ base' ≤ 1152921504606846976) ∧ (base' ≤ cm ∧ commit ≤ cm ∧ cm ≤ 2305843009213693952) ∧ (kv = kv' ∨ ptr cb = kv')) := by
 have hcap := Ents.len hE
 have Hg := H0.lt
 have Hrl := Hr.lt
 have Hcl := Hcb.lt
 have hcr := hcb.1
 have hcg := hcb.2
 have K0 : Keeps (fun i => i = r ∨ i = g) w w := (Keeps.refl w).mono (fun _ _ h => h.elim)
 refine q_calls Try.func66 (by kernel_rfl) (by kernel_rfl) ?_
 refine qs ?_
 refine qg ?_
 refine og 1 [(0, (ptr r)), (1, (ptr cb)), (4, (Value.bool false))] 1 ?_
 refine od ?_
 refine qs ?_
 refine qs ?_
 refine q_draw (fun wz => Keeps none_ w wz) 14 (by kernel_rfl) (by kernel_rfl) (by kernel_rfl) (fun w1 K2 _ _ => ⟨K2, ?_⟩)
 replace K0 := K0.tn K2
 replace Hr := Hr.keep K2 (fun h => h)
 replace H0 := H0.keep K2 (fun h => h)
 replace Hcb := Hcb.keep K2 (fun h => h)
 replace hE := Ents.keep0 hE K2
 refine Dr.strong (S' := (fun wz => Keeps none_ w1 wz)) (Keeps.refl w1) (fun wz hx => K2.trans hx (fun i _ h => h) (fun _ _ h => h)) ?_
 clear K2
 refine Dr.takes (fuel' := 11) (is' := _) [0, 1, 2] [(0, (ptr r)), (1, (ptr cb)), (4, (Value.bool false)), (12, (Value.pointer (some ⟨r, 8, none⟩)))] (by kernel_rfl) rfl (by kernel_rfl) ?_
 refine Dr.take (i := 3) (v := (ptr g)) (by kernel_rfl) (by kernel_rfl) (fun wz hS => Runs.load (t := 24) (a := ⟨r, 8, none⟩) (by kernel_rfl) ((Hr.keep hS (fun h => h)).loads (by kernel_rfl))) (d := (some 13)) (by kernel_rfl) rfl ?_
 refine Dr.takes (fuel' := 7) (is' := _) [4, 5, 6] [(0, (ptr r)), (1, (ptr cb)), (4, (Value.bool false)), (13, (ptr g)), (16, (ptr cb))] (by kernel_rfl) rfl (by kernel_rfl) ?_
 refine Dr.take (i := 7) (v := (i64 ca)) (by kernel_rfl) (by kernel_rfl) (fun wz hS => Runs.load (t := 2) (a := ⟨cb, 0, none⟩) (by kernel_rfl) ((Hcb.keep hS (fun h => h)).loads (by kernel_rfl))) (d := (some 17)) (by kernel_rfl) rfl ?_
 refine Dr.call (i := 8) (by kernel_rfl) (by kernel_rfl) (d := (some 18)) (by kernel_rfl) (fun _ => Term_calls _ T g base old A c l ca H0 hE hT (by omega) (by omega) (by omega)) ?_
 rintro _ w4 ⟨rfl, K3⟩
 replace K0 := K0.tn K3
 replace Hr := Hr.keep K3 (fun h => h)
 replace H0 := H0.keep K3 (fun h => h)
 replace Hcb := Hcb.keep K3 (fun h => h)
 replace hE := Ents.keep0 hE K3
 refine ⟨_, _, rfl, rfl, K3, ?_⟩
 refine Dr.strong (S' := (fun wz => Keeps none_ w4 wz)) (Keeps.refl w4) (fun wz hx => K3.trans hx (fun i _ h => h) (fun _ _ h => h)) ?_
 clear K3
 refine Dr.takes (fuel' := 0) (is' := _) [9, 10, 11, 12, 13] [(0, (ptr r)), (1, (ptr cb)), (4, (Value.bool false)), (5, (i64 ((termK base old (l.map EntP.key) ca).1))), (6, (i64 ((termK base old (l.map EntP.key) ca).2)))] (by kernel_rfl) rfl (by kernel_rfl) ?_
 refine Dr.done (by kernel_rfl) ?_
 refine qs ?_
 refine qg ?_
 refine og 3 [(0, (ptr r)), (1, (ptr cb)), (4, (Value.bool false)), (5, (i64 ((termK base old (l.map EntP.key) ca).1))), (23, (Value.bool (((termK base old (l.map EntP.key) ca).2) == 0)))] 3 ?_
 refine Ops.split (((termK base old (l.map EntP.key) ca).2) == 0) (fun h5 => ?_) (fun h5 => ?_)
 ·rw [h5]
  have p6 : (termK base old (l.map EntP.key) ca).2 = 0 := of_beq_t h5
  have hin := termK_there (show (termK base old (l.map EntP.key) ca).2 = 0 by omega)
  rw [List.length_map] at hin
  refine og 4 [(0, (ptr r)), (1, (ptr cb)), (4, (Value.bool false)), (23, (Value.bool true)), (24, (i64 ((termK base old (l.map EntP.key) ca).1))), (27, (Value.pointer (some ⟨cb, 1, none⟩)))] 7 ?_
  refine Ops.go (v := (i64 ct)) (by kernel_rfl) (Runs.load (t := 2) (a := ⟨cb, 1, none⟩) (by kernel_rfl) (Hcb.loads (by kernel_rfl))) (d := (some 28)) (by kernel_rfl) rfl ?_
  refine og 2 [(0, (ptr r)), (1, (ptr cb)), (4, (Value.bool false)), (30, (Value.bool (((termK base old (l.map EntP.key) ca).1) == ct)))] 10 ?_
  refine od ?_
  refine q_cond (o := .tmp 30) (b := (((termK base old (l.map EntP.key) ca).1) == ct)) (by kernel_rfl) rfl (fun h7 => ?_) (fun h7 => ?_)
  ·rw [h7]
   have p8 : (termK base old (l.map EntP.key) ca).1 = ct := of_beq_t h7
   refine q_draw (fun wz => Keeps (fun i => i = g) w4 wz) 9 (by kernel_rfl) (by kernel_rfl) (by kernel_rfl) (fun w9 K10 _ _ => ⟨(K10.mono (fun _ _ h => h.elim)), ?_⟩)
   replace K0 := K0.tn K10
   replace Hr := Hr.keep K10 (fun h => h)
   replace H0 := H0.keep K10 (fun h => h)
   replace Hcb := Hcb.keep K10 (fun h => h)
   replace hE := Ents.keep0 hE K10
   refine Dr.strong (S' := (fun wz => Keeps (fun i => i = g) w9 wz)) ((Keeps.refl w9).mono (fun _ _ h => h.elim)) (fun wz hx => K10.trans hx (fun i _ h => h.elim) (fun _ _ h => h)) ?_
   clear K10
   refine Dr.takes (fuel' := 6) (is' := _) [0, 1, 2] [(0, (ptr r)), (1, (ptr cb)), (4, (Value.bool false)), (33, (Value.pointer (some ⟨r, 8, none⟩)))] (by kernel_rfl) rfl (by kernel_rfl) ?_
   refine Dr.take (i := 3) (v := (ptr g)) (by kernel_rfl) (by kernel_rfl) (fun wz hS => Runs.load (t := 24) (a := ⟨r, 8, none⟩) (by kernel_rfl) ((Hr.keep hS (by intro h; change r = g at h; omega)).loads (by kernel_rfl))) (d := (some 34)) (by kernel_rfl) rfl ?_
   refine Dr.takes (fuel' := 2) (is' := _) [4, 5, 6] [(0, (ptr r)), (1, (ptr cb)), (4, (Value.bool false)), (34, (ptr g)), (37, (ptr cb))] (by kernel_rfl) rfl (by kernel_rfl) ?_
   refine Dr.take (i := 7) (v := (i64 ca)) (by kernel_rfl) (by kernel_rfl) (fun wz hS => Runs.load (t := 2) (a := ⟨cb, 0, none⟩) (by kernel_rfl) ((Hcb.keep hS (by intro h; change cb = g at h; omega)).loads (by kernel_rfl))) (d := (some 38)) (by kernel_rfl) rfl ?_
   have hz11 := K0.size
   rcases comp_or base l.length ca with q13 | ⟨k12, q13, q14⟩
   ·exfalso; omega
   ·skip
    refine Dr.call (i := 8) (by kernel_rfl) (by kernel_rfl) (d := (some 39)) (by kernel_rfl) (fun _ => Compact_ok _ T g base old A c l ca k12 H0 hE hT (by omega) (by omega) (by omega) q13 q14) ?_
    rintro _ w19 ⟨l15, A16, c17, T18, rfl, K20, H21, hE22, hK23, hT24⟩
    have ot25 : ∀ i, T18 i → i ≠ r := fun i hi => by rcases (hT24 i hi).2 with h | h; (exact hrT i h); (have := Hr.lt; omega)
    have ot26 : ∀ i, T18 i → i ≠ g := fun i hi => (hT24 i hi).1
    have ot27 : ∀ i, T18 i → i ≠ cb := fun i hi => by rcases (hT24 i hi).2 with h | h; (exact hTcb i h); (have := Hcb.lt; omega)
    have hn28 := keys_len2 hK23
    try rw [List.length_drop] at hn28
    try rw [List.length_append] at hn28
    try rw [List.length_map] at hn28
    try rw [List.length_map] at hn28
    have hz29 := K0.size
    replace K0 := K0.trans K20 (U := (fun i => i = r ∨ i = g)) (fun i h1 h2 => h2) (fun i h1 h2 => by have h2 : i = g := h2; show i = r ∨ i = g; omega)
    replace Hr := Hr.k1 K20 (by omega)
    replace Hcb := Hcb.k1 K20 (by omega)
    replace hE := Ents.keep hE K20 hT
    refine ⟨_, _, rfl, rfl, K20, ?_⟩
    refine Dr.strong (S' := (fun wz => Keeps (fun i => i = g) w19 wz)) ((Keeps.refl w19).mono (fun _ _ h => h.elim)) (fun wz hx => K20.trans hx (fun i _ h => by have h : i = g := h; show i = g; omega) (fun _ _ h => h)) ?_
    clear K20
    refine Dr.done (by kernel_rfl) ?_
    refine qs ?_
    refine qg ?_
    refine og 6 [(1, (ptr cb)), (4, (Value.bool false)), (58, (ptr r)), (59, (ptr r)), (60, (ptr r)), (63, (ptr cb))] 6 ?_
    refine Ops.go (v := (i64 ca)) (by kernel_rfl) (Runs.load (t := 2) (a := ⟨cb, 0, none⟩) (by kernel_rfl) (Hcb.loads (by kernel_rfl))) (d := (some 64)) (by kernel_rfl) rfl ?_
    refine og 4 [(4, (Value.bool false)), (59, (ptr r)), (60, (ptr r)), (64, (i64 ca)), (65, (ptr cb)), (68, (Value.pointer (some ⟨r, 4, none⟩)))] 11 ?_
    refine Ops.put (t := 2) (b := r) (off := 4) (v := (i64 ca)) (ys := [(i64 term), (i64 voted), (i64 0), (i64 leader), (i64 ca), (i64 group), (i64 me), (i64 n), (ptr g), (i64 elapsed), (i64 timeout), (Value.slice none 0 0), (Value.map none), (Value.slice none 0 0), kv, (Value.pointer none), (Value.bool came), (Value.slice none 0 0)]) (by kernel_rfl) (by kernel_rfl) Hr (by kernel_rfl) (d := none) (by kernel_rfl) rfl (fun w30 H31 K32 => ?_)
    clear Hr
    replace K0 := K0.trans K32 (U := (fun i => i = r ∨ i = g)) (fun i h1 h2 => h2) (fun i h1 h2 => by have h2 : i = r := h2; show i = r ∨ i = g; omega)
    replace H21 := H21.k1 K32 (by omega)
    replace Hcb := Hcb.k1 K32 (by omega)
    replace hE := Ents.keep hE K32 hrT
    replace hE22 := Ents.keep hE22 K32 ot25
    clear K32
    refine og 2 [(4, (Value.bool false)), (60, (ptr r)), (65, (ptr cb)), (70, (Value.pointer (some ⟨r, 14, none⟩)))] 14 ?_
    refine Ops.put (t := 82) (b := r) (off := 14) (v := (ptr cb)) (ys := [(i64 term), (i64 voted), (i64 0), (i64 leader), (i64 ca), (i64 group), (i64 me), (i64 n), (ptr g), (i64 elapsed), (i64 timeout), (Value.slice none 0 0), (Value.map none), (Value.slice none 0 0), (ptr cb), (Value.pointer none), (Value.bool came), (Value.slice none 0 0)]) (by kernel_rfl) (by kernel_rfl) H31 (by kernel_rfl) (d := none) (by kernel_rfl) rfl (fun w33 H34 K35 => ?_)
    clear H31
    replace K0 := K0.trans K35 (U := (fun i => i = r ∨ i = g)) (fun i h1 h2 => h2) (fun i h1 h2 => by have h2 : i = r := h2; show i = r ∨ i = g; omega)
    replace H21 := H21.k1 K35 (by omega)
    replace Hcb := Hcb.k1 K35 (by omega)
    replace hE := Ents.keep hE K35 hrT
    replace hE22 := Ents.keep hE22 K35 ot25
    clear K35
    refine og 2 [(4, (Value.bool false)), (72, (Value.pointer (some ⟨r, 16, none⟩)))] 17 ?_
    refine Ops.put (t := 4) (b := r) (off := 16) (v := (Value.bool true)) (ys := [(i64 term), (i64 voted), (i64 0), (i64 leader), (i64 ca), (i64 group), (i64 me), (i64 n), (ptr g), (i64 elapsed), (i64 timeout), (Value.slice none 0 0), (Value.map none), (Value.slice none 0 0), (ptr cb), (Value.pointer none), (Value.bool true), (Value.slice none 0 0)]) (by kernel_rfl) (by kernel_rfl) H34 (by kernel_rfl) (d := none) (by kernel_rfl) rfl (fun w36 H37 K38 => ?_)
    clear H34
    replace K0 := K0.trans K38 (U := (fun i => i = r ∨ i = g)) (fun i h1 h2 => h2) (fun i h1 h2 => by have h2 : i = r := h2; show i = r ∨ i = g; omega)
    replace H21 := H21.k1 K38 (by omega)
    replace Hcb := Hcb.k1 K38 (by omega)
    replace hE := Ents.keep hE K38 hrT
    replace hE22 := Ents.keep hE22 K38 ot25
    clear K38
    refine od ?_
    refine qs ?_
    refine qg ?_
    refine og 1 [(4, (Value.bool true))] 1 ?_
    refine od ?_
    refine q_ret (by kernel_rfl) ?_
    refine ⟨(Value.bool true), retv_tmp rfl rfl, ?_⟩
    exact ⟨_, g, _, _, A16, c17, l15, T18, _, _, _, rfl, K0, H37, H21, hE22, by have z := keys_len2 hK23; rw [List.length_drop, List.length_map] at z; omega, (BigK.keys hK23 (BigK.drop k12 hBig)), fun i hi => ⟨ot26 i hi, ot25 i hi, (hT24 i hi).2.imp id (fun z => by omega)⟩, .inl rfl, by omega, ⟨by omega, by omega⟩, ⟨by omega, by omega, by omega⟩, .inr rfl⟩
  ·rw [h7]
   have p39 : ¬ ((termK base old (l.map EntP.key) ca).1 = ct) := of_beq_f h7
   refine qs ?_
   refine q_draw (fun wz => Keeps none_ w4 wz) 14 (by kernel_rfl) (by kernel_rfl) (by kernel_rfl) (fun w40 K41 _ _ => ⟨K41, ?_⟩)
   replace K0 := K0.tn K41
   replace Hr := Hr.keep K41 (fun h => h)
   replace H0 := H0.keep K41 (fun h => h)
   replace Hcb := Hcb.keep K41 (fun h => h)
   replace hE := Ents.keep0 hE K41
   refine Dr.strong (S' := (fun wz => Keeps none_ w40 wz)) (Keeps.refl w40) (fun wz hx => K41.trans hx (fun i _ h => h) (fun _ _ h => h)) ?_
   clear K41
   refine Dr.takes (fuel' := 11) (is' := _) [0, 1, 2] [(0, (ptr r)), (1, (ptr cb)), (4, (Value.bool false)), (43, (ptr cb))] (by kernel_rfl) rfl (by kernel_rfl) ?_
   refine Dr.take (i := 3) (v := (i64 ca)) (by kernel_rfl) (by kernel_rfl) (fun wz hS => Runs.load (t := 2) (a := ⟨cb, 0, none⟩) (by kernel_rfl) ((Hcb.keep hS (fun h => h)).loads (by kernel_rfl))) (d := (some 44)) (by kernel_rfl) rfl ?_
   refine Dr.takes (fuel' := 7) (is' := _) [4, 5, 6] [(0, (ptr r)), (1, (ptr cb)), (4, (Value.bool false)), (44, (i64 ca)), (47, (Value.pointer (some ⟨cb, 1, none⟩)))] (by kernel_rfl) rfl (by kernel_rfl) ?_
   refine Dr.take (i := 7) (v := (i64 ct)) (by kernel_rfl) (by kernel_rfl) (fun wz hS => Runs.load (t := 2) (a := ⟨cb, 1, none⟩) (by kernel_rfl) ((Hcb.keep hS (fun h => h)).loads (by kernel_rfl))) (d := (some 48)) (by kernel_rfl) rfl ?_
   have hz42 := K0.size
   by_cases hq43 : newE ca ct [] = 0
   ·skip
    refine Dr.call (i := 8) (by kernel_rfl) (by kernel_rfl) (d := (some 49)) (by kernel_rfl) (fun _ => New_ok _ none_ ca ct none 0 [] (Ents.nil _) BigK.nil hq43) ?_
    rintro _ w48 ⟨g44, l45, A46, c47, rfl, hg53, K49, H50, hE51, hK52⟩
    have ot54 : ∀ i, (fun i => (w40.heap.size ≤ i ∧ i < w48.heap.size) ∧ i ≠ g44) i → i ≠ r := fun i hi => by have := hi.1.1; have := Hr.lt; omega
    have lg44r : r < g44 := by have := Hr.lt; omega
    have ot55 : ∀ i, (fun i => (w40.heap.size ≤ i ∧ i < w48.heap.size) ∧ i ≠ g44) i → i ≠ g := fun i hi => by have := hi.1.1; have := H0.lt; omega
    have lg44g : g < g44 := by have := H0.lt; omega
    have ot56 : ∀ i, (fun i => (w40.heap.size ≤ i ∧ i < w48.heap.size) ∧ i ≠ g44) i → i ≠ cb := fun i hi => by have := hi.1.1; have := Hcb.lt; omega
    have lg44cb : cb < g44 := by have := Hcb.lt; omega
    have ot57 : ∀ i, T i → i ≠ g44 := fun i hi => by have := Ents.lt hE i hi; omega
    have ot58 : ∀ i, (fun i => (w40.heap.size ≤ i ∧ i < w48.heap.size) ∧ i ≠ g44) i → i ≠ g44 := fun i hi => hi.2
    have ng44 : w.heap.size ≤ g44 := by have := K0.size; omega
    have hn59 := keys_len2 hK52
    try rw [List.length_drop] at hn59
    try rw [List.length_append] at hn59
    try rw [List.length_map] at hn59
    try rw [List.length_map] at hn59
    replace K0 := K0.tn K49
    replace Hr := Hr.keep K49 (fun h => h)
    replace H0 := H0.keep K49 (fun h => h)
    replace Hcb := Hcb.keep K49 (fun h => h)
    replace hE := Ents.keep0 hE K49
    refine ⟨_, _, rfl, rfl, K49, ?_⟩
    refine Dr.strong (S' := (fun wz => Keeps none_ w48 wz)) (Keeps.refl w48) (fun wz hx => K49.trans hx (fun i _ h => h) (fun _ _ h => h)) ?_
    clear K49
    refine Dr.takes (fuel' := 0) (is' := _) [9, 10, 11, 12, 13] [(0, (ptr r)), (1, (ptr cb)), (4, (Value.bool false)), (7, (ptr g44)), (8, (i64 0))] (by kernel_rfl) rfl (by kernel_rfl) ?_
    refine Dr.done (by kernel_rfl) ?_
    refine qs ?_
    refine qs ?_
    refine qg ?_
    refine og 2 [(0, (ptr r)), (1, (ptr cb)), (4, (Value.bool false)), (7, (ptr g44)), (53, (Value.bool false))] 2 ?_
    refine od ?_
    refine q_else (o := .tmp 53) (by kernel_rfl) rfl ?_
    refine q_skip (by kernel_rfl) ?_
    refine qg ?_
    refine og 4 [(0, (ptr r)), (1, (ptr cb)), (4, (Value.bool false)), (55, (ptr g44)), (57, (Value.pointer (some ⟨r, 8, none⟩)))] 4 ?_
    refine Ops.put (t := 24) (b := r) (off := 8) (v := (ptr g44)) (ys := [(i64 term), (i64 voted), (i64 0), (i64 leader), (i64 commit), (i64 group), (i64 me), (i64 n), (ptr g44), (i64 elapsed), (i64 timeout), (Value.slice none 0 0), (Value.map none), (Value.slice none 0 0), kv, (Value.pointer none), (Value.bool came), (Value.slice none 0 0)]) (by kernel_rfl) (by kernel_rfl) Hr (by kernel_rfl) (d := none) (by kernel_rfl) rfl (fun w60 H61 K62 => ?_)
    clear Hr
    replace K0 := K0.trans K62 (U := (fun i => i = r ∨ i = g)) (fun i h1 h2 => h2) (fun i h1 h2 => by have h2 : i = r := h2; show i = r ∨ i = g; omega)
    replace H0 := H0.k1 K62 (by omega)
    replace Hcb := Hcb.k1 K62 (by omega)
    replace H50 := H50.k1 K62 (by omega)
    replace hE := Ents.keep hE K62 hrT
    replace hE51 := Ents.keep hE51 K62 ot54
    clear K62
    refine od ?_
    refine qs ?_
    refine qg ?_
    refine og 6 [(1, (ptr cb)), (4, (Value.bool false)), (58, (ptr r)), (59, (ptr r)), (60, (ptr r)), (63, (ptr cb))] 6 ?_
    refine Ops.go (v := (i64 ca)) (by kernel_rfl) (Runs.load (t := 2) (a := ⟨cb, 0, none⟩) (by kernel_rfl) (Hcb.loads (by kernel_rfl))) (d := (some 64)) (by kernel_rfl) rfl ?_
    refine og 4 [(4, (Value.bool false)), (59, (ptr r)), (60, (ptr r)), (64, (i64 ca)), (65, (ptr cb)), (68, (Value.pointer (some ⟨r, 4, none⟩)))] 11 ?_
    refine Ops.put (t := 2) (b := r) (off := 4) (v := (i64 ca)) (ys := [(i64 term), (i64 voted), (i64 0), (i64 leader), (i64 ca), (i64 group), (i64 me), (i64 n), (ptr g44), (i64 elapsed), (i64 timeout), (Value.slice none 0 0), (Value.map none), (Value.slice none 0 0), kv, (Value.pointer none), (Value.bool came), (Value.slice none 0 0)]) (by kernel_rfl) (by kernel_rfl) H61 (by kernel_rfl) (d := none) (by kernel_rfl) rfl (fun w63 H64 K65 => ?_)
    clear H61
    replace K0 := K0.trans K65 (U := (fun i => i = r ∨ i = g)) (fun i h1 h2 => h2) (fun i h1 h2 => by have h2 : i = r := h2; show i = r ∨ i = g; omega)
    replace H0 := H0.k1 K65 (by omega)
    replace Hcb := Hcb.k1 K65 (by omega)
    replace H50 := H50.k1 K65 (by omega)
    replace hE := Ents.keep hE K65 hrT
    replace hE51 := Ents.keep hE51 K65 ot54
    clear K65
    refine og 2 [(4, (Value.bool false)), (60, (ptr r)), (65, (ptr cb)), (70, (Value.pointer (some ⟨r, 14, none⟩)))] 14 ?_
    refine Ops.put (t := 82) (b := r) (off := 14) (v := (ptr cb)) (ys := [(i64 term), (i64 voted), (i64 0), (i64 leader), (i64 ca), (i64 group), (i64 me), (i64 n), (ptr g44), (i64 elapsed), (i64 timeout), (Value.slice none 0 0), (Value.map none), (Value.slice none 0 0), (ptr cb), (Value.pointer none), (Value.bool came), (Value.slice none 0 0)]) (by kernel_rfl) (by kernel_rfl) H64 (by kernel_rfl) (d := none) (by kernel_rfl) rfl (fun w66 H67 K68 => ?_)
    clear H64
    replace K0 := K0.trans K68 (U := (fun i => i = r ∨ i = g)) (fun i h1 h2 => h2) (fun i h1 h2 => by have h2 : i = r := h2; show i = r ∨ i = g; omega)
    replace H0 := H0.k1 K68 (by omega)
    replace Hcb := Hcb.k1 K68 (by omega)
    replace H50 := H50.k1 K68 (by omega)
    replace hE := Ents.keep hE K68 hrT
    replace hE51 := Ents.keep hE51 K68 ot54
    clear K68
    refine og 2 [(4, (Value.bool false)), (72, (Value.pointer (some ⟨r, 16, none⟩)))] 17 ?_
    refine Ops.put (t := 4) (b := r) (off := 16) (v := (Value.bool true)) (ys := [(i64 term), (i64 voted), (i64 0), (i64 leader), (i64 ca), (i64 group), (i64 me), (i64 n), (ptr g44), (i64 elapsed), (i64 timeout), (Value.slice none 0 0), (Value.map none), (Value.slice none 0 0), (ptr cb), (Value.pointer none), (Value.bool true), (Value.slice none 0 0)]) (by kernel_rfl) (by kernel_rfl) H67 (by kernel_rfl) (d := none) (by kernel_rfl) rfl (fun w69 H70 K71 => ?_)
    clear H67
    replace K0 := K0.trans K71 (U := (fun i => i = r ∨ i = g)) (fun i h1 h2 => h2) (fun i h1 h2 => by have h2 : i = r := h2; show i = r ∨ i = g; omega)
    replace H0 := H0.k1 K71 (by omega)
    replace Hcb := Hcb.k1 K71 (by omega)
    replace H50 := H50.k1 K71 (by omega)
    replace hE := Ents.keep hE K71 hrT
    replace hE51 := Ents.keep hE51 K71 ot54
    clear K71
    refine od ?_
    refine qs ?_
    refine qg ?_
    refine og 1 [(4, (Value.bool true))] 1 ?_
    refine od ?_
    refine q_ret (by kernel_rfl) ?_
    refine ⟨(Value.bool true), retv_tmp rfl rfl, ?_⟩
    exact ⟨_, g44, _, _, A46, c47, l45, (fun i => (w40.heap.size ≤ i ∧ i < w48.heap.size) ∧ i ≠ g44), _, _, _, rfl, K0, H70, H50, hE51, by have z := congrArg List.length hK52; simp only [List.length_map, List.length_nil] at z; omega, (BigK.keys hK52 BigK.nil), fun i hi => ⟨ot58 i hi, ot54 i hi, .inr (by have := hi.1.1; omega)⟩, .inr ng44, by omega, ⟨by omega, by omega⟩, ⟨by omega, by omega, by omega⟩, .inr rfl⟩
   ·skip
    refine Dr.call (i := 8) (by kernel_rfl) (by kernel_rfl) (d := (some 49)) (by kernel_rfl) (fun _ => New_bad _ none_ ca ct none 0 [] (Ents.nil _) BigK.nil hq43) ?_
    rintro _ w73 ⟨rfl, K72⟩
    replace K0 := K0.tn K72
    replace Hr := Hr.keep K72 (fun h => h)
    replace H0 := H0.keep K72 (fun h => h)
    replace Hcb := Hcb.keep K72 (fun h => h)
    replace hE := Ents.keep0 hE K72
    refine ⟨_, _, rfl, rfl, K72, ?_⟩
    refine Dr.strong (S' := (fun wz => Keeps none_ w73 wz)) (Keeps.refl w73) (fun wz hx => K72.trans hx (fun i _ h => h) (fun _ _ h => h)) ?_
    clear K72
    refine Dr.takes (fuel' := 0) (is' := _) [9, 10, 11, 12, 13] [(0, (ptr r)), (1, (ptr cb)), (4, (Value.bool false)), (7, (Value.pointer none)), (8, (i64 (newE ca ct [])))] (by kernel_rfl) rfl (by kernel_rfl) ?_
    refine Dr.done (by kernel_rfl) ?_
    refine qs ?_
    refine qs ?_
    refine qg ?_
    refine og 2 [(0, (ptr r)), (1, (ptr cb)), (4, (Value.bool false)), (7, (Value.pointer none)), (53, (Value.bool ((newE ca ct []) != 0)))] 2 ?_
    refine od ?_
    have h74 : ((newE ca ct []) != 0) = true := bne_t hq43
    rw [h74]
    refine q_then (o := .tmp 53) (by kernel_rfl) rfl ?_
    refine qs ?_
    refine qg ?_
    refine og 1 [(0, (ptr r)), (1, (ptr cb)), (4, (Value.bool false)), (7, (Value.pointer none))] 1 ?_
    refine od ?_
    refine q_ret (by kernel_rfl) ?_
    refine ⟨(Value.bool false), retv_tmp rfl rfl, ?_⟩
    exact ⟨_, g, _, _, A, c, l, T, _, _, _, rfl, K0, Hr, H0, hE, hL, hBig, fun i hi => ⟨hT i hi, hrT i hi, .inl hi⟩, .inl rfl, by omega, ⟨by omega, by omega⟩, ⟨by omega, by omega, by omega⟩, .inl rfl⟩
 ·rw [h5]
  have p75 : ¬ ((termK base old (l.map EntP.key) ca).2 = 0) := of_beq_f h5
  refine og 7 [(0, (ptr r)), (1, (ptr cb)), (4, (Value.bool false)), (30, (Value.bool false))] 10 ?_
  refine od ?_
  refine q_else (o := .tmp 30) (by kernel_rfl) rfl ?_
  refine qs ?_
  refine q_draw (fun wz => Keeps none_ w4 wz) 14 (by kernel_rfl) (by kernel_rfl) (by kernel_rfl) (fun w76 K77 _ _ => ⟨K77, ?_⟩)
  replace K0 := K0.tn K77
  replace Hr := Hr.keep K77 (fun h => h)
  replace H0 := H0.keep K77 (fun h => h)
  replace Hcb := Hcb.keep K77 (fun h => h)
  replace hE := Ents.keep0 hE K77
  refine Dr.strong (S' := (fun wz => Keeps none_ w76 wz)) (Keeps.refl w76) (fun wz hx => K77.trans hx (fun i _ h => h) (fun _ _ h => h)) ?_
  clear K77
  refine Dr.takes (fuel' := 11) (is' := _) [0, 1, 2] [(0, (ptr r)), (1, (ptr cb)), (4, (Value.bool false)), (43, (ptr cb))] (by kernel_rfl) rfl (by kernel_rfl) ?_
  refine Dr.take (i := 3) (v := (i64 ca)) (by kernel_rfl) (by kernel_rfl) (fun wz hS => Runs.load (t := 2) (a := ⟨cb, 0, none⟩) (by kernel_rfl) ((Hcb.keep hS (fun h => h)).loads (by kernel_rfl))) (d := (some 44)) (by kernel_rfl) rfl ?_
  refine Dr.takes (fuel' := 7) (is' := _) [4, 5, 6] [(0, (ptr r)), (1, (ptr cb)), (4, (Value.bool false)), (44, (i64 ca)), (47, (Value.pointer (some ⟨cb, 1, none⟩)))] (by kernel_rfl) rfl (by kernel_rfl) ?_
  refine Dr.take (i := 7) (v := (i64 ct)) (by kernel_rfl) (by kernel_rfl) (fun wz hS => Runs.load (t := 2) (a := ⟨cb, 1, none⟩) (by kernel_rfl) ((Hcb.keep hS (fun h => h)).loads (by kernel_rfl))) (d := (some 48)) (by kernel_rfl) rfl ?_
  have hz78 := K0.size
  by_cases hq79 : newE ca ct [] = 0
  ·skip
   refine Dr.call (i := 8) (by kernel_rfl) (by kernel_rfl) (d := (some 49)) (by kernel_rfl) (fun _ => New_ok _ none_ ca ct none 0 [] (Ents.nil _) BigK.nil hq79) ?_
   rintro _ w84 ⟨g80, l81, A82, c83, rfl, hg89, K85, H86, hE87, hK88⟩
   have ot90 : ∀ i, (fun i => (w76.heap.size ≤ i ∧ i < w84.heap.size) ∧ i ≠ g80) i → i ≠ r := fun i hi => by have := hi.1.1; have := Hr.lt; omega
   have lg80r : r < g80 := by have := Hr.lt; omega
   have ot91 : ∀ i, (fun i => (w76.heap.size ≤ i ∧ i < w84.heap.size) ∧ i ≠ g80) i → i ≠ g := fun i hi => by have := hi.1.1; have := H0.lt; omega
   have lg80g : g < g80 := by have := H0.lt; omega
   have ot92 : ∀ i, (fun i => (w76.heap.size ≤ i ∧ i < w84.heap.size) ∧ i ≠ g80) i → i ≠ cb := fun i hi => by have := hi.1.1; have := Hcb.lt; omega
   have lg80cb : cb < g80 := by have := Hcb.lt; omega
   have ot93 : ∀ i, T i → i ≠ g80 := fun i hi => by have := Ents.lt hE i hi; omega
   have ot94 : ∀ i, (fun i => (w76.heap.size ≤ i ∧ i < w84.heap.size) ∧ i ≠ g80) i → i ≠ g80 := fun i hi => hi.2
   have ng80 : w.heap.size ≤ g80 := by have := K0.size; omega
   have hn95 := keys_len2 hK88
   try rw [List.length_drop] at hn95
   try rw [List.length_append] at hn95
   try rw [List.length_map] at hn95
   try rw [List.length_map] at hn95
   replace K0 := K0.tn K85
   replace Hr := Hr.keep K85 (fun h => h)
   replace H0 := H0.keep K85 (fun h => h)
   replace Hcb := Hcb.keep K85 (fun h => h)
   replace hE := Ents.keep0 hE K85
   refine ⟨_, _, rfl, rfl, K85, ?_⟩
   refine Dr.strong (S' := (fun wz => Keeps none_ w84 wz)) (Keeps.refl w84) (fun wz hx => K85.trans hx (fun i _ h => h) (fun _ _ h => h)) ?_
   clear K85
   refine Dr.takes (fuel' := 0) (is' := _) [9, 10, 11, 12, 13] [(0, (ptr r)), (1, (ptr cb)), (4, (Value.bool false)), (7, (ptr g80)), (8, (i64 0))] (by kernel_rfl) rfl (by kernel_rfl) ?_
   refine Dr.done (by kernel_rfl) ?_
   refine qs ?_
   refine qs ?_
   refine qg ?_
   refine og 2 [(0, (ptr r)), (1, (ptr cb)), (4, (Value.bool false)), (7, (ptr g80)), (53, (Value.bool false))] 2 ?_
   refine od ?_
   refine q_else (o := .tmp 53) (by kernel_rfl) rfl ?_
   refine q_skip (by kernel_rfl) ?_
   refine qg ?_
   refine og 4 [(0, (ptr r)), (1, (ptr cb)), (4, (Value.bool false)), (55, (ptr g80)), (57, (Value.pointer (some ⟨r, 8, none⟩)))] 4 ?_
   refine Ops.put (t := 24) (b := r) (off := 8) (v := (ptr g80)) (ys := [(i64 term), (i64 voted), (i64 0), (i64 leader), (i64 commit), (i64 group), (i64 me), (i64 n), (ptr g80), (i64 elapsed), (i64 timeout), (Value.slice none 0 0), (Value.map none), (Value.slice none 0 0), kv, (Value.pointer none), (Value.bool came), (Value.slice none 0 0)]) (by kernel_rfl) (by kernel_rfl) Hr (by kernel_rfl) (d := none) (by kernel_rfl) rfl (fun w96 H97 K98 => ?_)
   clear Hr
   replace K0 := K0.trans K98 (U := (fun i => i = r ∨ i = g)) (fun i h1 h2 => h2) (fun i h1 h2 => by have h2 : i = r := h2; show i = r ∨ i = g; omega)
   replace H0 := H0.k1 K98 (by omega)
   replace Hcb := Hcb.k1 K98 (by omega)
   replace H86 := H86.k1 K98 (by omega)
   replace hE := Ents.keep hE K98 hrT
   replace hE87 := Ents.keep hE87 K98 ot90
   clear K98
   refine od ?_
   refine qs ?_
   refine qg ?_
   refine og 6 [(1, (ptr cb)), (4, (Value.bool false)), (58, (ptr r)), (59, (ptr r)), (60, (ptr r)), (63, (ptr cb))] 6 ?_
   refine Ops.go (v := (i64 ca)) (by kernel_rfl) (Runs.load (t := 2) (a := ⟨cb, 0, none⟩) (by kernel_rfl) (Hcb.loads (by kernel_rfl))) (d := (some 64)) (by kernel_rfl) rfl ?_
   refine og 4 [(4, (Value.bool false)), (59, (ptr r)), (60, (ptr r)), (64, (i64 ca)), (65, (ptr cb)), (68, (Value.pointer (some ⟨r, 4, none⟩)))] 11 ?_
   refine Ops.put (t := 2) (b := r) (off := 4) (v := (i64 ca)) (ys := [(i64 term), (i64 voted), (i64 0), (i64 leader), (i64 ca), (i64 group), (i64 me), (i64 n), (ptr g80), (i64 elapsed), (i64 timeout), (Value.slice none 0 0), (Value.map none), (Value.slice none 0 0), kv, (Value.pointer none), (Value.bool came), (Value.slice none 0 0)]) (by kernel_rfl) (by kernel_rfl) H97 (by kernel_rfl) (d := none) (by kernel_rfl) rfl (fun w99 H100 K101 => ?_)
   clear H97
   replace K0 := K0.trans K101 (U := (fun i => i = r ∨ i = g)) (fun i h1 h2 => h2) (fun i h1 h2 => by have h2 : i = r := h2; show i = r ∨ i = g; omega)
   replace H0 := H0.k1 K101 (by omega)
   replace Hcb := Hcb.k1 K101 (by omega)
   replace H86 := H86.k1 K101 (by omega)
   replace hE := Ents.keep hE K101 hrT
   replace hE87 := Ents.keep hE87 K101 ot90
   clear K101
   refine og 2 [(4, (Value.bool false)), (60, (ptr r)), (65, (ptr cb)), (70, (Value.pointer (some ⟨r, 14, none⟩)))] 14 ?_
   refine Ops.put (t := 82) (b := r) (off := 14) (v := (ptr cb)) (ys := [(i64 term), (i64 voted), (i64 0), (i64 leader), (i64 ca), (i64 group), (i64 me), (i64 n), (ptr g80), (i64 elapsed), (i64 timeout), (Value.slice none 0 0), (Value.map none), (Value.slice none 0 0), (ptr cb), (Value.pointer none), (Value.bool came), (Value.slice none 0 0)]) (by kernel_rfl) (by kernel_rfl) H100 (by kernel_rfl) (d := none) (by kernel_rfl) rfl (fun w102 H103 K104 => ?_)
   clear H100
   replace K0 := K0.trans K104 (U := (fun i => i = r ∨ i = g)) (fun i h1 h2 => h2) (fun i h1 h2 => by have h2 : i = r := h2; show i = r ∨ i = g; omega)
   replace H0 := H0.k1 K104 (by omega)
   replace Hcb := Hcb.k1 K104 (by omega)
   replace H86 := H86.k1 K104 (by omega)
   replace hE := Ents.keep hE K104 hrT
   replace hE87 := Ents.keep hE87 K104 ot90
   clear K104
   refine og 2 [(4, (Value.bool false)), (72, (Value.pointer (some ⟨r, 16, none⟩)))] 17 ?_
   refine Ops.put (t := 4) (b := r) (off := 16) (v := (Value.bool true)) (ys := [(i64 term), (i64 voted), (i64 0), (i64 leader), (i64 ca), (i64 group), (i64 me), (i64 n), (ptr g80), (i64 elapsed), (i64 timeout), (Value.slice none 0 0), (Value.map none), (Value.slice none 0 0), (ptr cb), (Value.pointer none), (Value.bool true), (Value.slice none 0 0)]) (by kernel_rfl) (by kernel_rfl) H103 (by kernel_rfl) (d := none) (by kernel_rfl) rfl (fun w105 H106 K107 => ?_)
   clear H103
   replace K0 := K0.trans K107 (U := (fun i => i = r ∨ i = g)) (fun i h1 h2 => h2) (fun i h1 h2 => by have h2 : i = r := h2; show i = r ∨ i = g; omega)
   replace H0 := H0.k1 K107 (by omega)
   replace Hcb := Hcb.k1 K107 (by omega)
   replace H86 := H86.k1 K107 (by omega)
   replace hE := Ents.keep hE K107 hrT
   replace hE87 := Ents.keep hE87 K107 ot90
   clear K107
   refine od ?_
   refine qs ?_
   refine qg ?_
   refine og 1 [(4, (Value.bool true))] 1 ?_
   refine od ?_
   refine q_ret (by kernel_rfl) ?_
   refine ⟨(Value.bool true), retv_tmp rfl rfl, ?_⟩
   exact ⟨_, g80, _, _, A82, c83, l81, (fun i => (w76.heap.size ≤ i ∧ i < w84.heap.size) ∧ i ≠ g80), _, _, _, rfl, K0, H106, H86, hE87, by have z := congrArg List.length hK88; simp only [List.length_map, List.length_nil] at z; omega, (BigK.keys hK88 BigK.nil), fun i hi => ⟨ot94 i hi, ot90 i hi, .inr (by have := hi.1.1; omega)⟩, .inr ng80, by omega, ⟨by omega, by omega⟩, ⟨by omega, by omega, by omega⟩, .inr rfl⟩
  ·skip
   refine Dr.call (i := 8) (by kernel_rfl) (by kernel_rfl) (d := (some 49)) (by kernel_rfl) (fun _ => New_bad _ none_ ca ct none 0 [] (Ents.nil _) BigK.nil hq79) ?_
   rintro _ w109 ⟨rfl, K108⟩
   replace K0 := K0.tn K108
   replace Hr := Hr.keep K108 (fun h => h)
   replace H0 := H0.keep K108 (fun h => h)
   replace Hcb := Hcb.keep K108 (fun h => h)
   replace hE := Ents.keep0 hE K108
   refine ⟨_, _, rfl, rfl, K108, ?_⟩
   refine Dr.strong (S' := (fun wz => Keeps none_ w109 wz)) (Keeps.refl w109) (fun wz hx => K108.trans hx (fun i _ h => h) (fun _ _ h => h)) ?_
   clear K108
   refine Dr.takes (fuel' := 0) (is' := _) [9, 10, 11, 12, 13] [(0, (ptr r)), (1, (ptr cb)), (4, (Value.bool false)), (7, (Value.pointer none)), (8, (i64 (newE ca ct [])))] (by kernel_rfl) rfl (by kernel_rfl) ?_
   refine Dr.done (by kernel_rfl) ?_
   refine qs ?_
   refine qs ?_
   refine qg ?_
   refine og 2 [(0, (ptr r)), (1, (ptr cb)), (4, (Value.bool false)), (7, (Value.pointer none)), (53, (Value.bool ((newE ca ct []) != 0)))] 2 ?_
   refine od ?_
   have h110 : ((newE ca ct []) != 0) = true := bne_t hq79
   rw [h110]
   refine q_then (o := .tmp 53) (by kernel_rfl) rfl ?_
   refine qs ?_
   refine qg ?_
   refine og 1 [(0, (ptr r)), (1, (ptr cb)), (4, (Value.bool false)), (7, (Value.pointer none))] 1 ?_
   refine od ?_
   refine q_ret (by kernel_rfl) ?_
   refine ⟨(Value.bool false), retv_tmp rfl rfl, ?_⟩
   exact ⟨_, g, _, _, A, c, l, T, _, _, _, rfl, K0, Hr, H0, hE, hL, hBig, fun i hi => ⟨hT i hi, hrT i hi, .inl hi⟩, .inl rfl, by omega, ⟨by omega, by omega⟩, ⟨by omega, by omega, by omega⟩, .inl rfl⟩
end Go.Proofs.Ytnmpepjikfbpdaa
