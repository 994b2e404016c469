/- What the claim stands on, part 3: rules of the walk, contracts of the functions, plain laws. -/
import Derived.Test.YtnbcghbgeiocbaaDoorKHRecords2
import Derived.Maps.RangeRun
import Derived.MapKept
set_option linter.unusedVariables false
namespace Go.Q
open Go.RowKit Go.MapKept
open Go.ChangeMaps (setBlock)
variable {κ α : Type} [DecidableEq κ]
structure KeyTy (P : Program) (k : TypeId) (kf : κ → Value) : Prop where
 check : ∀ (e : Bool) (x : κ) (w : World), (Instr.checkKey e 10000 k (kf x)).run P w = .ok () w
 find : ∀ (x : κ) (es : List MapEntry) (w : World), (∀ e ∈ es, ∃ y, e.key = kf y) →
  (∃ i e, es[i]? = some e ∧ e.key = kf x ∧ (Instr.findKey k (kf x) es).run P w = .ok (some (i, e.val)) w) ∨ ((∀ e ∈ es, e.key ≠ kf x) ∧ (Instr.findKey k (kf x) es).run P w = .ok none w)
 same : ∀ x, Instr.sameBits 10000 (kf x) (kf x) = true
 inj : ∀ x y, kf x = kf y → x = y
def HasMap (w : World) (b : Nat) (kf : κ → Value) (vf : α → Value) (m : List (κ × α)) : Prop :=
 ∃ es clock, w.heap[b]? = some (.map es clock) ∧ Stamped es clock ∧ es.toList.map (fun e => (e.key, e.val)) = m.map (fun x => (kf x.1, vf x.2))
def getM (m : List (κ × α)) (x : κ) : Option α := (m.find? (fun y => decide (y.1 = x))).map (·.2)
def putM (m : List (κ × α)) (x : κ) (a : α) : List (κ × α) := if x ∈ m.map (·.1) then m.map (fun y => if y.1 = x then (x, a) else y) else m ++ [(x, a)]
def delM (m : List (κ × α)) (x : κ) : List (κ × α) := m.filter (fun y => decide (y.1 ≠ x))
section
variable {w w' : World} {b : Nat} {kf : κ → Value} {vf : α → Value} {m : List (κ × α)}
omit [DecidableEq κ] in
theorem HasMap.lt (h : HasMap w b kf vf m) : b < w.heap.size := by
 obtain ⟨es, c, hb, _⟩ := h
 exact (Array.getElem?_eq_some_iff.1 hb).1
omit [DecidableEq κ] in
theorem HasMap.keep {S : Nat → Prop} (h : HasMap w b kf vf m) (k : Keeps S w w') (hb : ¬ S b) : HasMap w' b kf vf m := by
 have hl := h.lt
 obtain ⟨es, c, he, hs⟩ := h
 exact ⟨es, c, by rw [k.blk b hl hb]; exact he, hs⟩
omit [DecidableEq κ] in
theorem HasMap.k1 {x : Nat} (h : HasMap w b kf vf m) (k : Keeps (fun i => i = x) w w') (hb : b ≠ x) : HasMap w' b kf vf m := h.keep k hb
omit [DecidableEq κ] in
theorem HasMap.nodup (h : HasMap w b kf vf m) : (m.map (·.1)).Nodup := by
 obtain ⟨es, c, _, hs, he⟩ := h
 have h1 := hs.2.2
 have h2 : es.toList.map (·.key) = m.map (fun x => kf x.1) := by
  have := congrArg (List.map Prod.fst) he
  simpa [List.map_map, Function.comp_def] using this
 rw [h2] at h1
 have h3 : (m.map (·.1)).map kf = m.map (fun x => kf x.1) := by rw [List.map_map]; rfl
 rw [← h3] at h1
 exact List.Pairwise.of_map kf (fun a b h e => h (congrArg kf e)) h1
omit [DecidableEq κ] in
theorem ents_at {es : List MapEntry} (he : es.map (fun e => (e.key, e.val)) = m.map (fun x => (kf x.1, vf x.2))) {i : Nat} {e : MapEntry} (hi : es[i]? = some e) : ∃ y, m[i]? = some y ∧ e.key = kf y.1 ∧ e.val = vf y.2 := by
 have h := congrArg (fun l => l[i]?) he
 simp only [List.getElem?_map, hi, Option.map_some] at h
 cases hm : m[i]? with
 | none => rw [hm] at h; cases h
 | some y =>
  rw [hm] at h
  simp only [Option.map_some, Option.some.injEq, Prod.mk.injEq] at h
  exact ⟨y, rfl, h.1, h.2⟩
theorem getM_at {x : κ} {i : Nat} {y : κ × α} (hn : (m.map (·.1)).Nodup) (hi : m[i]? = some y) (hx : y.1 = x) : getM m x = some y.2 := by
 unfold getM
 have : m.find? (fun y => decide (y.1 = x)) = some y := by
  induction m generalizing i with
  | nil => cases hi
  | cons z l ih =>
   cases i with
   | zero =>
    simp only [List.getElem?_cons_zero, Option.some.injEq] at hi
    subst hi
    simp [hx]
   | succ i =>
    simp only [List.getElem?_cons_succ] at hi
    rw [List.map_cons, List.nodup_cons] at hn
    rw [List.find?_cons_of_neg]
    ·exact ih hn.2 hi
    ·intro hz
     have hz : z.1 = x := by simpa using hz
     exact hn.1 (List.mem_map.2 ⟨y, List.mem_of_getElem? hi, by rw [hx, hz]⟩)
 rw [this]; rfl
theorem getM_none {x : κ} (h : x ∉ m.map (·.1)) : getM m x = none := by
 unfold getM
 rw [List.find?_eq_none.2, Option.map_none]
 intro y hy hd
 exact h (List.mem_map.2 ⟨y, hy, by simpa using hd⟩)
theorem getM_mem {x : κ} {a : α} (h : getM m x = some a) : (x, a) ∈ m := by
 unfold getM at h
 rw [Option.map_eq_some_iff] at h
 obtain ⟨y, h1, h2⟩ := h
 have h3 := List.mem_of_find?_eq_some h1
 have h4 := List.find?_some h1
 have h4 : y.1 = x := by simpa using h4
 rw [← h4, ← h2]
 exact h3
theorem getM_key {x : κ} {a : α} (h : getM m x = some a) : x ∈ m.map (·.1) := List.mem_map.2 ⟨_, getM_mem h, rfl⟩
theorem getM_not {x : κ} (h : getM m x = none) : x ∉ m.map (·.1) := by
 intro hx
 obtain ⟨y, hy, rfl⟩ := List.mem_map.1 hx
 unfold getM at h
 rw [Option.map_eq_none_iff, List.find?_eq_none] at h
 exact h y hy (by simp)
end
section
variable {P : Program} {k t e : TypeId} {w w' : World} {b : Nat} {kf : κ → Value} {vf : α → Value} {m : List (κ × α)} {x : κ} {a : α}
omit [DecidableEq κ] in
theorem entKeys {es : List MapEntry} (he : es.map (fun e => (e.key, e.val)) = m.map (fun x => (kf x.1, vf x.2))) : ∀ e ∈ es, ∃ y, e.key = kf y := by
 intro e hm
 obtain ⟨i, hi⟩ := List.getElem?_of_mem hm
 obtain ⟨y, _, h, _⟩ := ents_at he hi
 exact ⟨y.1, h⟩
theorem HasMap.seek (K : KeyTy P k kf) (h : HasMap w b kf vf m) (x : κ) (w1 : World) : ∃ es clock, w.heap[b]? = some (.map es clock) ∧ Stamped es clock ∧ es.toList.map (fun e => (e.key, e.val)) = m.map (fun x => (kf x.1, vf x.2)) ∧
  ((∃ i a, m[i]? = some (x, a) ∧ getM m x = some a ∧ (∃ e, es[i]? = some e ∧ e.key = kf x) ∧ (Instr.findKey k (kf x) es.toList).run P w1 = .ok (some (i, vf a)) w1) ∨ (getM m x = none ∧ (∀ e ∈ es.toList, e.key ≠ kf x) ∧ (Instr.findKey k (kf x) es.toList).run P w1 = .ok none w1)) := by
 have hn := h.nodup
 obtain ⟨es, clock, hb, hs, he⟩ := h
 refine ⟨es, clock, hb, hs, he, ?_⟩
 rcases K.find x es.toList w1 (entKeys he) with ⟨i, e, hi, hk, hr⟩ | ⟨hk, hr⟩
 ·obtain ⟨y, hy, h1, h2⟩ := ents_at he hi
  have hx : y.1 = x := K.inj _ _ (h1.symm.trans hk)
  refine .inl ⟨i, y.2, ?_, getM_at hn hy hx, ⟨e, by rw [← Array.getElem?_toList]; exact hi, hk⟩, by rw [hr, h2]⟩
  rw [hy, ← hx]
 ·refine .inr ⟨getM_none fun hx => ?_, hk, hr⟩
  obtain ⟨y, hy, hyx⟩ := List.mem_map.1 hx
  obtain ⟨i, hi⟩ := List.getElem?_of_mem hy
  have h' := congrArg (fun l => l[i]?) he
  simp only [List.getElem?_map, hi, Option.map_some] at h'
  cases he2 : es.toList[i]? with
  | none => rw [he2] at h'; cases h'
  | some e =>
   rw [he2] at h'
   simp only [Option.map_some, Option.some.injEq, Prod.mk.injEq] at h'
   exact hk e (List.mem_of_getElem? he2) (by rw [h'.1, hyx])
def lu? (L : Loc) (o : Oper) : Option (TypeId × Value × Value × Bool) :=
 match o.op with
 | .lookup t x y ok => some (t, ev L x, ev L y, ok)
 | _ => none
theorem Runs.of_lookup {L : Loc} {o : Oper} {v xm xk : Value} {ok : Bool} (h : lu? L o = some (t, xm, xk, ok)) (hr : (Instr.lookup t xm xk ok).run P w = .ok v w') : Runs P L o w v w' := by
 unfold lu? at h
 cases ho : o.op with
 | lookup t' x' y' ok' =>
  rw [ho] at h
  simp only [Option.some.injEq, Prod.mk.injEq] at h
  obtain ⟨rfl, hx, hy, rfl⟩ := h
  unfold Runs execOp
  simp only [ho, hx, hy, Sem.run_bind, Result.andThen_ok, hr, Sem.run_pure]
 | _ => rw [ho] at h; cases h
def zero? (P : Program) (t : TypeId) : Option Value := match P.info? t with | some i => i.zero | none => none
theorem run_zero {z : Value} (h : zero? P t = some z) (w : World) : (zeroValue t).run P w = .ok z w := by
 unfold zero? at h
 cases hi : P.info? t with
 | none => rw [hi] at h; cases h
 | some i =>
  rw [hi] at h
  simp only at h
  simp [zeroValue, typeInfo, hi, h]
theorem Runs.lookup_some {L : Loc} {o : Oper} {ok : Bool} (K : KeyTy P k kf) (ht : P.underlying t = some (.map k e)) (H : HasMap w b kf vf m) (hg : getM m x = some a) (h : lu? L o = some (t, .map (some b), kf x, ok)) :
  Runs P L o w (bif ok then .tuple #[vf a, .bool true] else vf a) w := by
 refine Runs.of_lookup h ?_
 obtain ⟨es, clock, hb, hs, he, hc⟩ := H.seek K x w
 rcases hc with ⟨i, a', hi, hg', _, hr⟩ | ⟨hg', _⟩
 ·rw [hg] at hg'
  obtain rfl := Option.some.inj hg'
  cases ok <;> simp [Instr.lookup, run_underlying ht, Go.MapKept.run_getObj_map hb, K.check, hr]
 ·rw [hg] at hg'; cases hg'
theorem Runs.lookup_none {L : Loc} {o : Oper} {ok : Bool} {z : Value} (K : KeyTy P k kf) (ht : P.underlying t = some (.map k e)) (hz : zero? P e = some z) (H : HasMap w b kf vf m) (hg : getM m x = none) (h : lu? L o = some (t, .map (some b), kf x, ok)) :
  Runs P L o w (bif ok then .tuple #[z, .bool false] else z) w := by
 refine Runs.of_lookup h ?_
 obtain ⟨es, clock, hb, hs, he, hc⟩ := H.seek K x w
 rcases hc with ⟨i, a', hi, hg', _, hr⟩ | ⟨hg', _, hr⟩
 ·rw [hg] at hg'; cases hg'
 ·cases ok <;> simp [Instr.lookup, run_underlying ht, Go.MapKept.run_getObj_map hb, K.check, hr, run_zero hz]
end
theorem Keeps.setBlock (w : World) (b : Nat) (o : Obj) : Keeps (fun i => i = b) w (setBlock w b o) :=
 ⟨rfl, rfl, rfl, by simp [Go.ChangeMaps.setBlock], fun i hi hn => by simp only [Go.ChangeMaps.setBlock]; rw [Array.getElem?_setIfInBounds_ne (fun h => hn h.symm)]⟩
theorem setBlock_at {w : World} {b : Nat} (o : Obj) (h : b < w.heap.size) : (setBlock w b o).heap[b]? = some o := by
 simp only [Go.ChangeMaps.setBlock]
 rw [Array.getElem?_setIfInBounds_self_of_lt h]
section
variable {P : Program} {k t e : TypeId} {w w' : World} {b : Nat} {kf : κ → Value} {vf : α → Value} {m : List (κ × α)} {x : κ} {a : α}
def mu? (L : Loc) (o : Oper) : Option (TypeId × Value × Value × Value) :=
 match o.op with
 | .mapUpdate t x y z => some (t, ev L x, ev L y, ev L z)
 | .insert t x y z => some (t, ev L x, ev L y, ev L z)
 | _ => none
theorem RunsU.of_update {L : Loc} {o : Oper} {xm xk xv : Value} (h : mu? L o = some (t, xm, xk, xv)) (hr : (Instr.mapUpdate t xm xk xv).run P w = .ok () w') : RunsU P L o w w' := by
 unfold mu? at h
 cases ho : o.op with
 | mapUpdate t' x' y' z' =>
  rw [ho] at h
  simp only [Option.some.injEq, Prod.mk.injEq] at h
  obtain ⟨rfl, hx, hy, hz⟩ := h
  unfold RunsU execOp
  simp only [ho, hx, hy, hz, Sem.run_bind, Result.andThen_ok, hr, Sem.run_pure]
 | insert t' x' y' z' =>
  rw [ho] at h
  simp only [Option.some.injEq, Prod.mk.injEq] at h
  obtain ⟨rfl, hx, hy, hz⟩ := h
  unfold RunsU execOp
  simp only [ho, hx, hy, hz, Sem.run_bind, Result.andThen_ok, hr, Sem.run_pure]
 | _ => rw [ho] at h; cases h
theorem map_modify_at {es : List MapEntry} {m : List (κ × α)} (he : es.map (fun e => (e.key, e.val)) = m.map (fun x => (kf x.1, vf x.2))) {i : Nat} {a0 : α} (hi : m[i]? = some (x, a0)) (hn : (m.map (·.1)).Nodup) (f : MapEntry → MapEntry)
  (hf : ∀ e, e.key = kf x → (f e).key = kf x ∧ (f e).val = vf a) : (es.modify i f).map (fun e => (e.key, e.val)) = (m.map (fun y => if y.1 = x then (x, a) else y)).map (fun x => (kf x.1, vf x.2)) := by
 apply List.ext_getElem?
 intro j
 have hj := congrArg (fun l => l[j]?) he
 simp only [List.getElem?_map] at hj
 simp only [List.getElem?_map, List.getElem?_modify]
 by_cases hij : i = j
 ·subst hij
  rw [hi] at hj ⊢
  cases h1 : es[i]? with
  | none => rw [h1] at hj; cases hj
  | some e0 =>
   rw [h1] at hj
   simp only [Option.map_some, Option.some.injEq, Prod.mk.injEq] at hj
   have := hf e0 hj.1
   simp [this.1, this.2]
 ·simp only [if_neg hij, Functor.map, Option.map_id']
  rw [hj]
  cases h1 : m[j]? with
  | none => rfl
  | some y =>
   have hne : y.1 ≠ x := by
    intro hy
    have h2 : (m.map (·.1))[i]? = some x := by rw [List.getElem?_map, hi]; rfl
    have h3 : (m.map (·.1))[j]? = some x := by rw [List.getElem?_map, h1, ← hy]; rfl
    exact hij ((List.getElem?_inj (List.getElem?_eq_some_iff.1 h2).1 hn).1 (h2.trans h3.symm))
   simp [hne]
theorem HasMap.update (K : KeyTy P k kf) (ht : P.underlying t = some (.map k e)) (H : HasMap w b kf vf m) (x : κ) (a : α) :
  ∃ w', (Instr.mapUpdate t (.map (some b)) (kf x) (vf a)).run P w = .ok () w' ∧ Keeps (fun i => i = b) w w' ∧ HasMap w' b kf vf (putM m x a) := by
 have hn := H.nodup
 have hlt := H.lt
 obtain ⟨es, clock, hb, hs, he, hc⟩ := H.seek K x w
 rcases hc with ⟨i, a', hi, hg', ⟨e0, hei, hek⟩, hr⟩ | ⟨hg', hk, hr⟩
 ·have hmem : x ∈ m.map (·.1) := getM_key hg'
  refine ⟨setBlock w b (.map (es.modify i fun e => { e with key := kf x, val := vf a }) clock), ?_, Keeps.setBlock _ _ _, ?_⟩
  ·have hks : (Instr.keyThatStays (kf x) (kf x)).run P w = .ok (kf x) w := by simp [Instr.keyThatStays, K.same]
   simp [Instr.mapUpdate, run_underlying ht, Go.MapKept.run_getObj_map hb, K.check, hr, hei, hek, hks, Go.MapKept.run_setObj_map _ hb, Result.andThen, Go.ChangeMaps.setBlock]
  ·refine ⟨_, clock, setBlock_at _ hlt, ?_, ?_⟩
   ·exact stamped_modify hs i _ (fun _ _ => rfl) (fun e1 _ h1 => by rw [hei] at h1; obtain rfl := Option.some.inj h1; exact hek.symm)
   ·unfold putM
    rw [if_pos hmem, Array.toList_modify]
    exact map_modify_at he hi hn _ fun e _ => ⟨rfl, rfl⟩
 ·have hmem : x ∉ m.map (·.1) := getM_not hg'
  refine ⟨setBlock w b (.map (es.push { key := kf x, val := vf a, born := clock }) (clock + 1)), ?_, Keeps.setBlock _ _ _, ?_⟩
  ·simp [Instr.mapUpdate, run_underlying ht, Go.MapKept.run_getObj_map hb, K.check, hr, Go.MapKept.run_setObj_map _ hb, Result.andThen, Go.ChangeMaps.setBlock]
  ·refine ⟨_, clock + 1, setBlock_at _ hlt, stamped_push hs hk, ?_⟩
   unfold putM
   rw [if_neg hmem, Array.toList_push, List.map_append, List.map_append, he]
   rfl
theorem RunsU.update {L : Loc} {o : Oper} (K : KeyTy P k kf) (ht : P.underlying t = some (.map k e)) (H : HasMap w b kf vf m) (h : mu? L o = some (t, .map (some b), kf x, vf a)) :
  ∃ w', RunsU P L o w w' ∧ Keeps (fun i => i = b) w w' ∧ HasMap w' b kf vf (putM m x a) := by
 obtain ⟨w', hr, hk, hm⟩ := H.update K ht x a
 exact ⟨w', RunsU.of_update h hr, hk, hm⟩
theorem Runs.builtin {L : Loc} {o : Oper} {ts : Array TypeId} {ty : TypeId} {vs : List Value} {v : Value} {bi : Builtin} (h : bi? L o = some (bi, ts, ty, vs))
  (hr : ∀ cs, (Go.builtin bi ts ty cs ⟨vs⟩).run P w = .ok (.value v) w') : Runs P L o w v w' := by
 unfold bi? at h
 cases ho : o.op with
 | call c =>
  rw [ho] at h
  simp only at h
  cases hc : c.callee with
  | builtin b =>
   rw [hc] at h
   simp only [Option.some.injEq, Prod.mk.injEq] at h
   obtain ⟨rfl, rfl, rfl, rfl⟩ := h
   unfold Runs execOp
   have he : c.args.map (ev L) = ⟨c.args.toList.map (ev L)⟩ := by
    apply Array.ext'; simp
   simp only [ho, resolve, hc, Sem.run_bind, Sem.run_pure, Result.andThen_ok, invoke]
   rw [he, hr]
  | _ => rw [hc] at h; cases h
 | _ => rw [ho] at h; cases h
omit [DecidableEq κ] in
theorem HasMap.len {ts : Array TypeId} {t0 : TypeId} (hts : ts[0]? = some t0) (ht : P.underlying t0 = some (.map k e)) (H : HasMap w b kf vf m) (ty : TypeId) :
  (Builtin.len_ ts ty ⟨[.map (some b)]⟩).run P w = .ok (i64 ((m.length : Nat) : Int)) w := by
 obtain ⟨es, clock, hb, hs, he⟩ := H
 have hl : es.size = m.length := by have := congrArg List.length he; simpa using this
 simp [Builtin.len_, hts, run_underlying ht, Go.MapKept.run_getObj_map hb, hl, goInt]
omit [DecidableEq κ] in
theorem Runs.maplen {L : Loc} {o : Oper} {ts : Array TypeId} {ty t0 : TypeId} (hts : ts[0]? = some t0) (ht : P.underlying t0 = some (.map k e)) (H : HasMap w b kf vf m) (h : bi? L o = some (.len, ts, ty, [.map (some b)])) : Runs P L o w (i64 ((m.length : Nat) : Int)) w := by
 refine Runs.builtin h fun cs => ?_
 simp [Go.builtin, H.len hts ht]
def mk? (L : Loc) (o : Oper) : Option TypeId := match o.op with | .makeMap t none => some t | _ => none
omit [DecidableEq κ] in
theorem HasMap.made (P : Program) (w : World) (t : TypeId) (kf : κ → Value) (vf : α → Value) :
  ∃ b w', (Instr.makeMap t none).run P w = .ok (.map (some b)) w' ∧ Keeps none_ w w' ∧ w.heap.size ≤ b ∧ HasMap w' b kf vf ([] : List (κ × α)) :=
 ⟨w.heap.size, w.alloc (.map #[] 0), by simp [Instr.makeMap, Result.andThen, go_sem], Keeps.alloc _ _, Nat.le_refl _, #[], 0, heap_alloc_new _ _, stamped_empty 0, rfl⟩
theorem Runs.of_makeMap {L : Loc} {o : Oper} {v : Value} (h : mk? L o = some t) (hr : (Instr.makeMap t none).run P w = .ok v w') : Runs P L o w v w' := by
 unfold mk? at h
 cases ho : o.op with
 | makeMap t' r =>
  rw [ho] at h
  cases r with
  | none =>
   simp only [Option.some.injEq] at h
   subst h
   unfold Runs execOp
   simp only [ho, Option.map_none, Sem.run_bind, Result.andThen_ok, hr, Sem.run_pure]
  | some r => cases h
 | _ => rw [ho] at h; cases h
end
def IterM (w : World) (r mb : Nat) (kf : κ → Value) (vf : α → Value) (m rest : List (κ × α)) (last : Option (κ × α)) : Prop :=
 ∃ es clock since seen c0, w.heap[r]? = some (.mapIter (some mb) since seen c0) ∧ w.heap[mb]? = some (.map es clock) ∧ Stamped es clock ∧ es.toList.map (fun e => (e.key, e.val)) = m.map (fun x => (kf x.1, vf x.2)) ∧
  (∀ x ∈ es.toList, x.born < since) ∧ (since ≤ c0 ∧ since ≤ clock) ∧ (leftOf es seen).toList.map (fun e => (e.key, e.val)) = rest.map (fun x => (kf x.1, vf x.2)) ∧
  ∀ y, last = some y → c0 = clock ∧ ∃ (seen' : Array Nat) (e : MapEntry), e ∈ es.toList ∧ seen = seen'.push e.born ∧ e.key = kf y.1 ∧ e.val = vf y.2
section
variable {P : Program} {k t e : TypeId} {w w' : World} {b r mb : Nat} {kf : κ → Value} {vf : α → Value} {m rest : List (κ × α)} {last : Option (κ × α)}
omit [DecidableEq κ]
theorem IterM.lt (h : IterM w r mb kf vf m rest last) : r < w.heap.size := by
 obtain ⟨es, clock, since, seen, c0, hr, _⟩ := h
 exact (Array.getElem?_eq_some_iff.1 hr).1
theorem IterM.lt2 (h : IterM w r mb kf vf m rest last) : mb < w.heap.size := by
 obtain ⟨es, clock, since, seen, c0, hr, hb, _⟩ := h
 exact (Array.getElem?_eq_some_iff.1 hb).1
theorem IterM.map (h : IterM w r mb kf vf m rest last) : HasMap w mb kf vf m := by
 obtain ⟨es, clock, since, seen, c0, hr, hb, hs, he, _⟩ := h
 exact ⟨es, clock, hb, hs, he⟩
theorem IterM.keep {S : Nat → Prop} (h : IterM w r mb kf vf m rest last) (k : Keeps S w w') (h1 : ¬ S r) (h2 : ¬ S mb) : IterM w' r mb kf vf m rest last := by
 have l1 := h.lt
 have l2 := h.lt2
 obtain ⟨es, clock, since, seen, c0, hr, hb, hx⟩ := h
 exact ⟨es, clock, since, seen, c0, by rw [k.blk r l1 h1]; exact hr, by rw [k.blk mb l2 h2]; exact hb, hx⟩
theorem HasMap.range (ht : P.underlying t = some (.map k e)) (H : HasMap w mb kf vf m) :
  ∃ r w', (Instr.range t (.map (some mb))).run P w = .ok (ptr r) w' ∧ Keeps none_ w w' ∧ r = w.heap.size ∧ IterM w' r mb kf vf m m none := by
 have hl := H.lt
 obtain ⟨es, clock, hb, hs, he⟩ := H
 refine ⟨w.heap.size, w.alloc (.mapIter (some mb) clock #[] clock), run_range_map w t k e mb es clock ht hb, Keeps.alloc _ _, rfl, es, clock, clock, #[], clock, heap_alloc_new _ _, ?_, hs, he, hs.1, ⟨Nat.le_refl _, Nat.le_refl _⟩, ?_, fun y h => by cases h⟩
 ·rw [heap_alloc_old _ _ hl]; exact hb
 ·rw [show leftOf es #[] = es from by unfold leftOf; simp, he]
def rg? (L : Loc) (o : Oper) : Option (TypeId × Value) := match o.op with | .range t x => some (t, ev L x) | _ => none
theorem Runs.of_range {L : Loc} {o : Oper} {xm v : Value} (h : rg? L o = some (t, xm)) (hr : (Instr.range t xm).run P w = .ok v w') : Runs P L o w v w' := by
 unfold rg? at h
 cases ho : o.op with
 | range t' x' =>
  rw [ho] at h
  simp only [Option.some.injEq, Prod.mk.injEq] at h
  obtain ⟨rfl, hx⟩ := h
  unfold Runs execOp
  simp only [ho, hx, Sem.run_bind, Result.andThen_ok, hr, Sem.run_pure]
 | _ => rw [ho] at h; cases h
theorem IterM.next (h : IterM w r mb kf vf m rest last) (ty : TypeId) :
  (rest = [] ∧ (Instr.next (ptr r) false ty).run P w = .ok (.tuple #[.bool false]) w) ∨
  ∃ x a pre post w', rest = pre ++ (x, a) :: post ∧ (Instr.next (ptr r) false ty).run P w = .ok (.tuple #[.bool true, kf x, vf a]) w' ∧ Keeps (fun i => i = r) w w' ∧ (r ≠ mb → IterM w' r mb kf vf m (pre ++ post) (some (x, a))) := by
 have hl := h.lt
 have hl2 := h.lt2
 obtain ⟨es, clock, since, seen, c0, hr, hb, hs, he, hold, hsc, hleft, _⟩ := h
 rcases run_next_at (P := P) w ty r mb since c0 seen es clock hr hb hold hsc.1 with ⟨h0, hrun⟩ | ⟨e, hme, w1, hw1, hrun⟩
 ·refine .inl ⟨?_, hrun⟩
  have : (leftOf es seen).toList = [] := by rw [← List.length_eq_zero_iff]; simpa using h0
  rw [this] at hleft
  simpa using hleft.symm
 ·refine .inr ?_
  obtain ⟨l1, l2, hl12⟩ := List.append_of_mem hme
  rw [hl12, List.map_append, List.map_cons] at hleft
  obtain ⟨pre, tl, h1, h2, h3⟩ := List.map_eq_append_iff.1 hleft.symm
  obtain ⟨xa, post, h4, h5, h6⟩ := List.map_eq_cons_iff.1 h3
  obtain ⟨x, a⟩ := xa
  simp only [Prod.mk.injEq] at h5
  have k1 : Keeps none_ w w1 := by
   rcases hw1 with rfl | rfl
   ·exact Keeps.refl _
   ·exact (Keeps.refl w).drew
  have k2 : Keeps (fun i => i = r) w (Go.ChangeMaps.setBlock w1 r (.mapIter (some mb) since (seen.push e.born) clock)) := k1.trans (Keeps.setBlock _ _ _) (fun _ _ h => h.elim) fun _ _ h => h
  have hr1 : r < w1.heap.size := Nat.lt_of_lt_of_le hl k1.size
  refine ⟨x, a, pre, post, _, by rw [h1, h4], by rw [hrun, h5.1, h5.2], k2, fun hne => ?_⟩
  refine ⟨es, clock, since, seen.push e.born, clock, setBlock_at _ hr1, ?_, hs, he, hold, ?_, ?_, fun y hy => ⟨rfl, seen, e, ?_, rfl, ?_, ?_⟩⟩
  ·rw [k2.blk mb hl2 (fun h => hne h.symm)]; exact hb
  ·exact ⟨hsc.2, hsc.2⟩
  ·have hnd : ((l1 ++ e :: l2).map (·.born)).Nodup := by
    rw [← hl12]
    unfold leftOf
    rw [Array.toList_filter]
    exact hs.2.1.sublist ((List.filter_sublist).map _)
   have hf : (leftOf es (seen.push e.born)).toList = l1 ++ l2 := by
    have e1 : (leftOf es (seen.push e.born)).toList = (leftOf es seen).toList.filter (fun z => decide (z.born ≠ e.born)) := by
     unfold leftOf
     rw [Array.toList_filter, Array.toList_filter, List.filter_filter]
     congr 1
     funext z
     rw [Array.contains_push]
     rw [Bool.not_or, Bool.and_comm]
     congr 1
     by_cases h : z.born = e.born
     ·simp [h]
     ·simp [h]
    rw [e1, hl12, List.filter_append, List.filter_cons_of_neg (by simp)]
    rw [List.map_append, List.map_cons, List.nodup_append] at hnd
    obtain ⟨n1, n2, n3⟩ := hnd
    rw [List.nodup_cons] at n2
    rw [List.filter_eq_self.2, List.filter_eq_self.2]
    ·intro z hz
     have : z.born ≠ e.born := fun h => n2.1 (List.mem_map.2 ⟨z, hz, h⟩)
     simpa using this
    ·intro z hz
     have : z.born ≠ e.born := fun h => n3 _ (List.mem_map.2 ⟨z, hz, rfl⟩) _ (List.mem_cons_self ..) h
     simpa using this
   rw [hf, List.map_append, List.map_append, h2, h6]
  ·unfold leftOf at hme
   simp only [Array.toList_filter, List.mem_filter] at hme
   exact hme.1
  ·obtain rfl := Option.some.inj hy; exact h5.1.symm
  ·obtain rfl := Option.some.inj hy; exact h5.2.symm
def nx? (L : Loc) (o : Oper) : Option (Value × Bool × TypeId) := match o.op with | .next x s => some (ev L x, s, o.type) | _ => none
theorem Runs.of_next {L : Loc} {o : Oper} {x v : Value} {s : Bool} {ty : TypeId} (h : nx? L o = some (x, s, ty)) (hr : (Instr.next x s ty).run P w = .ok v w') : Runs P L o w v w' := by
 unfold nx? at h
 cases ho : o.op with
 | next x' s' =>
  rw [ho] at h
  simp only [Option.some.injEq, Prod.mk.injEq] at h
  obtain ⟨hx, rfl, rfl⟩ := h
  unfold Runs execOp
  simp only [ho, hx, Sem.run_bind, Result.andThen_ok, hr, Sem.run_pure]
 | _ => rw [ho] at h; cases h
theorem IterM.entry {x : κ} {a : α} (h : IterM w r mb kf vf m rest (some (x, a))) : (Instr.entry (ptr r)).run P w = .ok (.tuple #[kf x, vf a]) w := by
 obtain ⟨es, clock, since, seen, c0, hr, hb, hs, he, hold, hsc, hleft, hlast⟩ := h
 obtain ⟨rfl, seen', e, hin, rfl, hk, hv⟩ := hlast _ rfl
 rw [← hk, ← hv]
 exact run_entry_at w r mb since seen' es c0 e hr hb hin hs.2.1
def en? (L : Loc) (o : Oper) : Option Value := match o.op with | .entry x => some (ev L x) | _ => none
theorem Runs.of_entry {L : Loc} {o : Oper} {x v : Value} (h : en? L o = some x) (hr : (Instr.entry x).run P w = .ok v w') : Runs P L o w v w' := by
 unfold en? at h
 cases ho : o.op with
 | entry x' =>
  rw [ho] at h
  simp only [Option.some.injEq] at h
  unfold Runs execOp
  simp only [ho, h, Sem.run_bind, Result.andThen_ok, hr, Sem.run_pure]
 | _ => rw [ho] at h; cases h
end
def kstr (x : List UInt8) : Value := .string (str x)
theorem keyTy_str {P : Program} {k : TypeId} (hk : P.underlying k = some .string) : KeyTy P k kstr where
 check e x w := run_checkKey hk (by trivial) e 9999
 find x es w h := by
  have hks : ∀ e ∈ es, IsKey .string e.key := fun e he => by obtain ⟨y, hy⟩ := h e he; rw [hy]; trivial
  rcases findNow_spec (d := .string) (k := kstr x) trivial es 0 hks with ⟨h1, h2⟩ | ⟨j, e, h1, h2, h3⟩
  ·exact .inr ⟨h2, run_findKey hk h1⟩
  ·exact .inl ⟨j, e, h2, h3, by rw [run_findKey hk h1, Nat.zero_add]⟩
 same x := sameBits_self (d := .string) (by trivial) 10000
 inj x y h := by
  simp only [kstr, Value.string.injEq] at h
  have := congrArg (fun z : ByteArray => z.data.toList) h
  simpa [str] using this
end Go.Q
