/- What the claim stands on, part 9: rules of the walk, contracts of the functions, plain laws. -/
import Derived.Test.YtlnidnadpdpciaaKDDesk2
import Derived.Maps.RangeRun
import Derived.MapKept
import Derived.Test.YtlnidnadpdpciaaKDDesk8
import Derived.Test.YtlnidnadpdpciaaProg
import Derived.Test.YtlnidnadpdpciaaKDDesk5
set_option linter.unusedVariables false
namespace Go.Q
open Go.RowKit Go.MapKept
open Go.ChangeMaps (setBlock)

variable {κ α : Type} [DecidableEq κ]
/-- What the key of a map stands for. -/
structure KeyTy (P : Program) (k : TypeId) (kf : κ → Value) : Prop where
  check : ∀ (e : Bool) (x : κ) (w : World), (Instr.checkKey e 10000 k (kf x)).run P w = .ok () w
  find : ∀ (x : κ) (es : List MapEntry) (w : World), (∀ e ∈ es, ∃ y, e.key = kf y) →
    (∃ i e, es[i]? = some e ∧ e.key = kf x ∧ (Instr.findKey k (kf x) es).run P w = .ok (some (i, e.val)) w) ∨ ((∀ e ∈ es, e.key ≠ kf x) ∧ (Instr.findKey k (kf x) es).run P w = .ok none w)
  same : ∀ x, Instr.sameBits 10000 (kf x) (kf x) = true
  inj : ∀ x y, kf x = kf y → x = y

/-- The block b is the map m, in the order in which its keys came. -/
def HasMap (w : World) (b : Nat) (kf : κ → Value) (vf : α → Value) (m : List (κ × α)) : Prop :=
  ∃ es clock, w.heap[b]? = some (.map es clock) ∧ Stamped es clock ∧ es.toList.map (fun e => (e.key, e.val)) = m.map (fun x => (kf x.1, vf x.2))

def getM (m : List (κ × α)) (x : κ) : Option α := (m.find? (fun y => decide (y.1 = x))).map (·.2)
def putM (m : List (κ × α)) (x : κ) (a : α) : List (κ × α) := if x ∈ m.map (·.1) then m.map (fun y => if y.1 = x then (x, a) else y) else m ++ [(x, a)]
def delM (m : List (κ × α)) (x : κ) : List (κ × α) := m.filter (fun y => decide (y.1 ≠ x))

section
variable {w w' : World} {b : Nat} {kf : κ → Value} {vf : α → Value} {m : List (κ × α)}
omit [DecidableEq κ] in
theorem HasMap.lt (h : HasMap w b kf vf m) : b < w.heap.size := by
  obtain ⟨es, c, hb, _⟩ := h
  exact (Array.getElem?_eq_some_iff.1 hb).1
omit [DecidableEq κ] in
theorem HasMap.keep {S : Nat → Prop} (h : HasMap w b kf vf m) (k : Keeps S w w') (hb : ¬ S b) : HasMap w' b kf vf m := by
  have hl := h.lt
  obtain ⟨es, c, he, hs⟩ := h
  exact ⟨es, c, by rw [k.blk b hl hb]; exact he, hs⟩
omit [DecidableEq κ] in
theorem HasMap.k1 {x : Nat} (h : HasMap w b kf vf m) (k : Keeps (fun i => i = x) w w') (hb : b ≠ x) : HasMap w' b kf vf m := h.keep k hb
omit [DecidableEq κ] in
omit [DecidableEq κ] in
end

section
variable {P : Program} {k t e : TypeId} {w w' : World} {b : Nat} {kf : κ → Value} {vf : α → Value} {m : List (κ × α)} {x : κ} {a : α}
omit [DecidableEq κ] in
def lu? (L : Loc) (o : Oper) : Option (TypeId × Value × Value × Bool) :=
  match o.op with
  | .lookup t x y ok => some (t, ev L x, ev L y, ok)
  | _ => none
def zero? (P : Program) (t : TypeId) : Option Value := match P.info? t with | some i => i.zero | none => none
end

theorem Keeps.setBlock (w : World) (b : Nat) (o : Obj) : Keeps (fun i => i = b) w (setBlock w b o) :=
  ⟨rfl, rfl, rfl, by simp [Go.ChangeMaps.setBlock], fun i hi hn => by simp only [Go.ChangeMaps.setBlock]; rw [Array.getElem?_setIfInBounds_ne (fun h => hn h.symm)]⟩
theorem setBlock_at {w : World} {b : Nat} (o : Obj) (h : b < w.heap.size) : (setBlock w b o).heap[b]? = some o := by
  simp only [Go.ChangeMaps.setBlock]
  rw [Array.getElem?_setIfInBounds_self_of_lt h]

section
variable {P : Program} {k t e : TypeId} {w w' : World} {b : Nat} {kf : κ → Value} {vf : α → Value} {m : List (κ × α)} {x : κ} {a : α}
def mu? (L : Loc) (o : Oper) : Option (TypeId × Value × Value × Value) :=
  match o.op with
  | .mapUpdate t x y z => some (t, ev L x, ev L y, ev L z)
  | .insert t x y z => some (t, ev L x, ev L y, ev L z)
  | _ => none
theorem Runs.builtin {L : Loc} {o : Oper} {ts : Array TypeId} {ty : TypeId} {vs : List Value} {v : Value} {bi : Builtin} (h : bi? L o = some (bi, ts, ty, vs))
    (hr : ∀ cs, (Go.builtin bi ts ty cs ⟨vs⟩).run P w = .ok (.value v) w') : Runs P L o w v w' := by
  unfold bi? at h
  cases ho : o.op with
  | call c =>
    rw [ho] at h
    simp only at h
    cases hc : c.callee with
    | builtin b =>
      rw [hc] at h
      simp only [Option.some.injEq, Prod.mk.injEq] at h
      obtain ⟨rfl, rfl, rfl, rfl⟩ := h
      unfold Runs execOp
      have he : c.args.map (ev L) = ⟨c.args.toList.map (ev L)⟩ := by
        apply Array.ext'; simp
      simp only [ho, resolve, hc, Sem.run_bind, Sem.run_pure, Result.andThen_ok, invoke]
      rw [he, hr]
    | _ => rw [hc] at h; cases h
  | _ => rw [ho] at h; cases h
omit [DecidableEq κ] in
theorem HasMap.len {ts : Array TypeId} {t0 : TypeId} (hts : ts[0]? = some t0) (ht : P.underlying t0 = some (.map k e)) (H : HasMap w b kf vf m) (ty : TypeId) :
    (Builtin.len_ ts ty ⟨[.map (some b)]⟩).run P w = .ok (i64 ((m.length : Nat) : Int)) w := by
  obtain ⟨es, clock, hb, hs, he⟩ := H
  have hl : es.size = m.length := by have := congrArg List.length he; simpa using this
  simp [Builtin.len_, hts, run_underlying ht, Go.MapKept.run_getObj_map hb, hl, goInt]
omit [DecidableEq κ] in
def mk? (L : Loc) (o : Oper) : Option TypeId := match o.op with | .makeMap t none => some t | _ => none
omit [DecidableEq κ] in
theorem HasMap.made (P : Program) (w : World) (t : TypeId) (kf : κ → Value) (vf : α → Value) :
    ∃ b w', (Instr.makeMap t none).run P w = .ok (.map (some b)) w' ∧ Keeps none_ w w' ∧ w.heap.size ≤ b ∧ HasMap w' b kf vf ([] : List (κ × α)) :=
  ⟨w.heap.size, w.alloc (.map #[] 0), by simp [Instr.makeMap, Result.andThen, go_sem], Keeps.alloc _ _, Nat.le_refl _, #[], 0, heap_alloc_new _ _, stamped_empty 0, rfl⟩
end

/-- The iterator r over the map in block mb: 'rest' is still to come; 'last' is what came last. -/
def IterM (w : World) (r mb : Nat) (kf : κ → Value) (vf : α → Value) (m rest : List (κ × α)) (last : Option (κ × α)) : Prop :=
  ∃ es clock since seen c0, w.heap[r]? = some (.mapIter (some mb) since seen c0) ∧ w.heap[mb]? = some (.map es clock) ∧ Stamped es clock ∧ es.toList.map (fun e => (e.key, e.val)) = m.map (fun x => (kf x.1, vf x.2)) ∧
    (∀ x ∈ es.toList, x.born < since) ∧ (since ≤ c0 ∧ since ≤ clock) ∧ (leftOf es seen).toList.map (fun e => (e.key, e.val)) = rest.map (fun x => (kf x.1, vf x.2)) ∧
    ∀ y, last = some y → c0 = clock ∧ ∃ (seen' : Array Nat) (e : MapEntry), e ∈ es.toList ∧ seen = seen'.push e.born ∧ e.key = kf y.1 ∧ e.val = vf y.2
section
variable {P : Program} {k t e : TypeId} {w w' : World} {b r mb : Nat} {kf : κ → Value} {vf : α → Value} {m rest : List (κ × α)} {last : Option (κ × α)}
omit [DecidableEq κ]
theorem IterM.lt (h : IterM w r mb kf vf m rest last) : r < w.heap.size := by
  obtain ⟨es, clock, since, seen, c0, hr, _⟩ := h
  exact (Array.getElem?_eq_some_iff.1 hr).1
theorem IterM.lt2 (h : IterM w r mb kf vf m rest last) : mb < w.heap.size := by
  obtain ⟨es, clock, since, seen, c0, hr, hb, _⟩ := h
  exact (Array.getElem?_eq_some_iff.1 hb).1
theorem IterM.map (h : IterM w r mb kf vf m rest last) : HasMap w mb kf vf m := by
  obtain ⟨es, clock, since, seen, c0, hr, hb, hs, he, _⟩ := h
  exact ⟨es, clock, hb, hs, he⟩
theorem IterM.keep {S : Nat → Prop} (h : IterM w r mb kf vf m rest last) (k : Keeps S w w') (h1 : ¬ S r) (h2 : ¬ S mb) : IterM w' r mb kf vf m rest last := by
  have l1 := h.lt
  have l2 := h.lt2
  obtain ⟨es, clock, since, seen, c0, hr, hb, hx⟩ := h
  exact ⟨es, clock, since, seen, c0, by rw [k.blk r l1 h1]; exact hr, by rw [k.blk mb l2 h2]; exact hb, hx⟩
theorem HasMap.range (ht : P.underlying t = some (.map k e)) (H : HasMap w mb kf vf m) :
    ∃ r w', (Instr.range t (.map (some mb))).run P w = .ok (ptr r) w' ∧ Keeps none_ w w' ∧ r = w.heap.size ∧ IterM w' r mb kf vf m m none := by
  have hl := H.lt
  obtain ⟨es, clock, hb, hs, he⟩ := H
  refine ⟨w.heap.size, w.alloc (.mapIter (some mb) clock #[] clock), run_range_map w t k e mb es clock ht hb, Keeps.alloc _ _, rfl, es, clock, clock, #[], clock, heap_alloc_new _ _, ?_, hs, he, hs.1, ⟨Nat.le_refl _, Nat.le_refl _⟩, ?_, fun y h => by cases h⟩
  · rw [heap_alloc_old _ _ hl]; exact hb
  · rw [show leftOf es #[] = es from by unfold leftOf; simp, he]
def rg? (L : Loc) (o : Oper) : Option (TypeId × Value) := match o.op with | .range t x => some (t, ev L x) | _ => none
theorem IterM.next (h : IterM w r mb kf vf m rest last) (ty : TypeId) :
    (rest = [] ∧ (Instr.next (ptr r) false ty).run P w = .ok (.tuple #[.bool false]) w) ∨
    ∃ x a pre post w', rest = pre ++ (x, a) :: post ∧ (Instr.next (ptr r) false ty).run P w = .ok (.tuple #[.bool true, kf x, vf a]) w' ∧ Keeps (fun i => i = r) w w' ∧ (r ≠ mb → IterM w' r mb kf vf m (pre ++ post) (some (x, a))) := by
  have hl := h.lt
  have hl2 := h.lt2
  obtain ⟨es, clock, since, seen, c0, hr, hb, hs, he, hold, hsc, hleft, _⟩ := h
  rcases run_next_at (P := P) w ty r mb since c0 seen es clock hr hb hold hsc.1 with ⟨h0, hrun⟩ | ⟨e, hme, w1, hw1, hrun⟩
  · refine .inl ⟨?_, hrun⟩
    have : (leftOf es seen).toList = [] := by rw [← List.length_eq_zero_iff]; simpa using h0
    rw [this] at hleft
    simpa using hleft.symm
  · refine .inr ?_
    obtain ⟨l1, l2, hl12⟩ := List.append_of_mem hme
    rw [hl12, List.map_append, List.map_cons] at hleft
    obtain ⟨pre, tl, h1, h2, h3⟩ := List.map_eq_append_iff.1 hleft.symm
    obtain ⟨xa, post, h4, h5, h6⟩ := List.map_eq_cons_iff.1 h3
    obtain ⟨x, a⟩ := xa
    simp only [Prod.mk.injEq] at h5
    have k1 : Keeps none_ w w1 := by
      rcases hw1 with rfl | rfl
      · exact Keeps.refl _
      · exact (Keeps.refl w).drew
    have k2 : Keeps (fun i => i = r) w (Go.ChangeMaps.setBlock w1 r (.mapIter (some mb) since (seen.push e.born) clock)) := k1.trans (Keeps.setBlock _ _ _) (fun _ _ h => h.elim) fun _ _ h => h
    have hr1 : r < w1.heap.size := Nat.lt_of_lt_of_le hl k1.size
    refine ⟨x, a, pre, post, _, by rw [h1, h4], by rw [hrun, h5.1, h5.2], k2, fun hne => ?_⟩
    refine ⟨es, clock, since, seen.push e.born, clock, setBlock_at _ hr1, ?_, hs, he, hold, ?_, ?_, fun y hy => ⟨rfl, seen, e, ?_, rfl, ?_, ?_⟩⟩
    · rw [k2.blk mb hl2 (fun h => hne h.symm)]; exact hb
    · exact ⟨hsc.2, hsc.2⟩
    · have hnd : ((l1 ++ e :: l2).map (·.born)).Nodup := by
        rw [← hl12]
        unfold leftOf
        rw [Array.toList_filter]
        exact hs.2.1.sublist ((List.filter_sublist).map _)
      have hf : (leftOf es (seen.push e.born)).toList = l1 ++ l2 := by
        have e1 : (leftOf es (seen.push e.born)).toList = (leftOf es seen).toList.filter (fun z => decide (z.born ≠ e.born)) := by
          unfold leftOf
          rw [Array.toList_filter, Array.toList_filter, List.filter_filter]
          congr 1
          funext z
          rw [Array.contains_push]
          rw [Bool.not_or, Bool.and_comm]
          congr 1
          by_cases h : z.born = e.born
          · simp [h]
          · simp [h]
        rw [e1, hl12, List.filter_append, List.filter_cons_of_neg (by simp)]
        rw [List.map_append, List.map_cons, List.nodup_append] at hnd
        obtain ⟨n1, n2, n3⟩ := hnd
        rw [List.nodup_cons] at n2
        rw [List.filter_eq_self.2, List.filter_eq_self.2]
        · intro z hz
          have : z.born ≠ e.born := fun h => n2.1 (List.mem_map.2 ⟨z, hz, h⟩)
          simpa using this
        · intro z hz
          have : z.born ≠ e.born := fun h => n3 _ (List.mem_map.2 ⟨z, hz, rfl⟩) _ (List.mem_cons_self ..) h
          simpa using this
      rw [hf, List.map_append, List.map_append, h2, h6]
    · unfold leftOf at hme
      simp only [Array.toList_filter, List.mem_filter] at hme
      exact hme.1
    · obtain rfl := Option.some.inj hy; exact h5.1.symm
    · obtain rfl := Option.some.inj hy; exact h5.2.symm
def nx? (L : Loc) (o : Oper) : Option (Value × Bool × TypeId) := match o.op with | .next x s => some (ev L x, s, o.type) | _ => none
theorem IterM.entry {x : κ} {a : α} (h : IterM w r mb kf vf m rest (some (x, a))) : (Instr.entry (ptr r)).run P w = .ok (.tuple #[kf x, vf a]) w := by
  obtain ⟨es, clock, since, seen, c0, hr, hb, hs, he, hold, hsc, hleft, hlast⟩ := h
  obtain ⟨rfl, seen', e, hin, rfl, hk, hv⟩ := hlast _ rfl
  rw [← hk, ← hv]
  exact run_entry_at w r mb since seen' es c0 e hr hb hin hs.2.1
def en? (L : Loc) (o : Oper) : Option Value := match o.op with | .entry x => some (ev L x) | _ => none
end
/-- Keys that are texts. -/
def kstr (x : List UInt8) : Value := .string (str x)
end Go.Q
namespace Go.Q
open Go.RowKit

/-- As 'TellsN', of elements of which it is known alone which lists of them can come. -/
def TellsM {β : Type} (P : Program) (m : Nat) (gf : Nat) (lb : List Value) (enc : β → List Value) (T : Nat → Prop) (S : List β → Prop) (w0 : World) : Prop :=
  ∀ (l : Nat) (J : List β → World → Prop) (W : World), Keeps T w0 W → (∀ k W1 W2, J k W1 → Loose W.heap.size W1 W2 → J k W2) →
    (∀ pre x W1, J pre W1 → (∃ post, S (pre ++ x :: post)) → YieldAt Fence.wide m P l ⟨enc x⟩ W1 fun e W' => e = .returned (.bool true) ∧ J (pre ++ [x]) W' ∧ Keeps T W1 W' ∧ KeepsFrom W.heap.size W1 W') →
    J [] W → Calls P gf ⟨.func (.yield l) #[] #[] :: lb⟩ W fun e W' => (∃ v, e = .returned v) ∧ ∃ all, S all ∧ J all W'
theorem Loose.le {B B' : Nat} {W W' : World} (k : Loose B' W W') (h : B ≤ B') : Loose B W W' := k.mono fun _ _ hs => ⟨Nat.le_trans h hs.1, hs.2⟩
theorem KeepsFrom.le {B B' : Nat} {W W' : World} (k : KeepsFrom B W W') (h : B ≤ B') : KeepsFrom B' W W' := ⟨k.size, fun i o hB hi ho => k.same i o (Nat.le_trans h hB) hi ho⟩
theorem keepsFrom_put {B l : Nat} {W : World} {o o' : Obj} (h : W.heap[l]? = some o) (hB : l < B) : KeepsFrom B W (W.putObj l o') :=
  ⟨by simp, fun i x hi hx _ => (World.putObj_heap_other (by omega)).trans hx⟩
section
variable {κ α : Type} {w w' : World} {r mb : Nat} {kf : κ → Value} {vf : α → Value} {m rest : List (κ × α)} {last : Option (κ × α)}
theorem OpsR.go {F : Fence} {P : Program} {m n : Nat} {os : Array Oper} {K : List Deferred → Exit → Loc → World → Prop} {L L' : Loc} {w : World} {i : Nat} {d : Option Tmp} {ds : List Deferred} (hF : Open F) (hd : noDefer os = true) {v : Value} {w' : World} (h0 : okAt os L i = true) (hr : Runs P L (opn os i) w v w') (hdd : dst? os i = some d) (hs : setL n d v L = some L')
    (hn : OpsR F P m n os (i + 1) K ds L' w') : OpsR F P m n os i K ds L w := by
  have h1 := at?_opn h0
  have hd' : (opn os i).dst = d := by have := (at?_spec h1).1; simpa [dst?, this] using hdd
  refine OpsR.run hF hd h1 hr fun a ha => ?_
  show ∃ a2 L', (wd ds a).put (opn os i).dst v = wd ds a2 ∧ _
  rw [hd']
  exact ⟨a.put d v, L', wd_put _ _ _ _, ha.setL hs, hn⟩
end
/-- A loop over a function that is never left ahead of its end. -/
theorem qr_eachM {β : Type} {P : Program} {m n : Nat} {Q : List Deferred → Exit → Loc → World → Prop} {L : Loc} {w : World} {f : Func} {p : List Nat} {ds : List Deferred} {g : Operand} {ts : List Tmp}
    (hc : isRange (cd f p) = some (g, ⟨ts⟩)) (h1 : 1 ≤ m) {gf : Nat} {lb : List Value} (hg : evo L g = some (.func (.func gf) #[] ⟨lb⟩)) (eg : ∀ args w, (callFunc gf args).run P w = .ok (.enter gf args) w)
    {enc : β → List Value} {T : Nat → Prop} {S : List β → Prop} {w0 : World} (hseq : TellsM P (m - 1 - 1) gf lb enc T S w0) (hT : ∀ i, w.heap.size ≤ i → T i) (hw0 : Keeps T w0 w)
    (I : List β → World → Prop) (hI : ∀ k W W', I k W → Loose w.heap.size W W' → I k W') (h0 : I [] w) (La : β → Loc) (hLa : ∀ x, setLs n ts (enc x) L = some (La x))
    (Ax : β → Loc → World → Prop) (hAx : ∀ x L W W', Ax x L W → Loose w.heap.size W W' → Ax x L W')
    (hassign : ∀ (l : Nat) (pre : List β) (x : β) (W : World), w.heap.size + 1 < W.heap.size → I pre W → (∃ post, S (pre ++ x :: post)) → wpR (Fence.wide.inRound l) P (m - 1 - 1) n (cd f (0 :: p)) (fun ds e L' W' => e = .normal ∧ ds = [] ∧ Keeps none_ W W' ∧ Ax x L' W') [] (La x) W)
    (hbody : ∀ (l : Nat) (pre : List β) (x : β) (L1 : Loc) (W : World), I pre W → (∃ post, S (pre ++ x :: post)) → Ax x L1 W → wpR (Fence.wide.inRound l) P (m - 1 - 1) n (cd f (1 :: p)) (fun _ e _ W' => e = .normal ∧ KeepsFrom w.heap.size W W' ∧ Keeps T W W' ∧ I (pre ++ [x]) W') [] L1 W)
    (hdone : ∀ (D : Nat) (all : List β) (W : World), w.heap.size ≤ D → S all → I all W → W.heap[D]? = some (.deferred (some [])) → Q ({ target := .collected D, args := #[] } :: ds) .normal L W) :
    wpR Fence.wide P m n (cd f p) Q ds L w := by
  intro a ha
  simp only [cd] at hassign hbody
  cases e : cd f p with
  | rangeFunc g' ps assign body =>
    rw [e] at hc hassign hbody
    simp only [isRange, Option.some.injEq, Prod.mk.injEq] at hc
    obtain ⟨rfl, rfl⟩ := hc
    simp only [sub] at hassign hbody
    refine wpIn_rangeFunc fun fn hfn => ?_
    obtain ⟨rec, hrec⟩ : ∃ rec : LoopState → Loop, rec = fun st => { state := st, pending := none, fn, tmps := (wd ds a).tmps, params := ⟨ts⟩, assign, body, defers := w.heap.size } := ⟨_, rfl⟩
    have hev : (wd ds a).eval g' = .func (.func gf) #[] ⟨lb⟩ := ha.ev hg
    obtain ⟨W1, hW1⟩ : ∃ W1, (w.alloc (.deferred (some []))).alloc (.loop (rec .ready)) = W1 := ⟨_, rfl⟩
    have hK1 : Keeps none_ w W1 := by rw [← hW1]; exact (Keeps.alloc w _).trans (Keeps.alloc _ _) (fun _ _ h => h) (fun _ _ h => h)
    have hl1 : W1.heap[w.heap.size + 1]? = some (.loop (rec .ready)) := by
      rw [← hW1]; have := World.alloc_heap_new (w.alloc (.deferred (some []))) (.loop (rec .ready)); rwa [World.size_alloc] at this
    have hd1 : W1.heap[w.heap.size]? = some (.deferred (some [])) := by
      rw [← hW1]; exact ((Keeps.alloc (w.alloc (.deferred (some []))) (.loop (rec .ready))).blk _ (by simp) (fun h => h)).trans (World.alloc_heap_new w _)
    refine ⟨w.heap.size + 1, [{ target := .collected w.heap.size, args := #[] }], W1, { target := .fn (.func gf) ⟨lb⟩, args := #[.func (.yield (w.heap.size + 1)) #[] #[]] }, W1, gf,
      #[.func (.yield (w.heap.size + 1)) #[] #[]] ++ ⟨lb⟩, W1, ?_, ?_, fun f' hf' => True.intro, ?_, fun _ => h1, ?_⟩
    · rw [← hW1, hrec]; exact run_enterLoop_outer _ _ _ _ _
    · simp only [resolve, hev]
      simp [go_sem]
    · simp [invoke, go_sem, eg]
    · refine callsIn_wide.2 ?_
      have harr : (#[.func (.yield (w.heap.size + 1)) #[] #[]] ++ ⟨lb⟩ : Array Value) = ⟨.func (.yield (w.heap.size + 1)) #[] #[] :: lb⟩ := by simp
      rw [harr]
      have hs1 : W1.heap.size = w.heap.size + 2 := by rw [← hW1]; simp
      refine (hseq (w.heap.size + 1) (fun k W => I k W ∧ W.heap[w.heap.size + 1]? = some (.loop (rec .ready)) ∧ W.heap[w.heap.size]? = some (.deferred (some []))) _
        (hw0.trans hK1 (fun _ _ h => h) (fun _ _ h => h.elim)) ?_ ?_ ⟨hI _ _ _ h0 (.none hK1), hl1, hd1⟩).mono ?_
      · rintro k W W' ⟨hi, hl, hd⟩ hk
        exact ⟨hI _ _ _ hi (hk.le (by omega)), (hk.blk _ (Array.getElem?_eq_some_iff.1 hl).1 (fun h => by have := h.1; omega)).trans hl, (hk.blk _ (Array.getElem?_eq_some_iff.1 hd).1 (fun h => by have := h.1; omega)).trans hd⟩
      · rintro pre x W ⟨hi, hl, hd⟩ hpost
        have hLv := hLa x
        have hy := run_yield (P := P) (args := ⟨enc x⟩) hl (by rw [hrec]; simpa using setLs_len hLv)
        refine ⟨_, _, _, _, hy, roundIn_of_wpIn trivial ?_⟩
        have hlt : w.heap.size + 1 < W.heap.size := (Array.getElem?_eq_some_iff.1 hl).1
        have hr := setLs_rep ha hLv
        have ea : ({ tmps := ((rec .ready).params.zip ⟨enc x⟩).foldl (fun t (p, v) => t.setIfInBounds p v) (rec .ready).tmps, defers := [] } : Act) = wd [] { tmps := (ts.zip (enc x)).foldl (fun t x => t.setIfInBounds x.1 x.2) a.tmps, defers := a.defers } := by rw [hrec]; simp [wd]
        have easg : (rec .ready).assign = assign := by rw [hrec]
        have ebdy : (rec .ready).body = body := by rw [hrec]
        rw [easg, ebdy]
        refine (congrArg (fun z => Code.wpIn _ _ P assign _ z W) ea).mpr ?_
        refine wpIn_mono (hassign _ pre x W hlt hi hpost _ hr) ?_
        rintro ex a' W' ⟨ds2, a2, L', rfl, r, rfl, rfl, hka, hax⟩
        have hlA := (hka.blk _ hlt (fun h => h)).trans hl
        have hdA := (hka.blk _ (by omega) (fun h => h)).trans hd
        have hltA : w.heap.size + 1 < W'.heap.size := Nat.lt_of_lt_of_le hlt hka.size
        have hp2 : Loose w.heap.size W' (W'.putObj (w.heap.size + 1) (.loop { rec .ready with state := .busy })) := .put _ (by omega) hlA rfl
        have hl2 : (W'.putObj (w.heap.size + 1) (.loop { rec .ready with state := .busy })).heap[w.heap.size + 1]? = some (.loop { rec .ready with state := .busy }) := World.putObj_heap_same hltA
        have hd2 : (W'.putObj (w.heap.size + 1) (.loop { rec .ready with state := .busy })).heap[w.heap.size]? = some (.deferred (some [])) := (World.putObj_heap_other (by omega)).trans hdA
        refine ⟨_, run_beginRound hlA (by rw [hrec]), ?_⟩
        refine wpIn_mono (hbody _ pre x _ _ (hI _ _ _ (hI _ _ _ hi (.none hka)) hp2) hpost (hAx _ _ _ _ hax hp2) _ r) ?_
        rintro ex3 a3 W3 ⟨_, _, _, _, _, rfl, hkf, hkT, hi3⟩
        have hl3 := hkf.same _ _ (by omega) hl2 rfl
        have hd3 := hkf.same _ _ (Nat.le_refl _) hd2 rfl
        have hlt3 : w.heap.size + 1 < W3.heap.size := (Array.getElem?_eq_some_iff.1 hl3).1
        refine ⟨_, _, run_endRound none hl3, rfl, ⟨hI _ _ _ hi3 (.put _ (by omega) hl3 rfl), ?_, (World.putObj_heap_other (by omega)).trans hd3⟩, ?_, ?_⟩
        · rw [World.putObj_heap_same hlt3, hrec]; rfl
        · have kT : ∀ {X : World} {o : Obj}, X.heap[w.heap.size + 1]? = some o → ∀ o', o.isCells = false → Keeps T X (X.putObj (w.heap.size + 1) o') := fun hx o' ho => (Loose.put (B := w.heap.size) o' (by omega) hx ho).keeps.mono fun i _ h => hT i h
          exact ((hka.trans (kT hlA _ rfl) (fun _ _ h => h.elim) (fun _ _ h => h)).trans hkT (fun _ _ h => h) (fun _ _ h => h)).trans (kT hl3 _ rfl) (fun _ _ h => h) (fun _ _ h => h)
        · exact (((keepsFrom_of hka fun i h => h.elim).trans (keepsFrom_put hlA (by omega))).trans (KeepsFrom.le hkf (by omega))).trans (keepsFrom_put hl3 (by omega))
      · rintro ex W ⟨⟨v, rfl⟩, all, hall, hi, hl, hd⟩
        have hel := run_endLoop (P := P) hl (by rw [hrec]; simp)
        rw [show (rec .ready).pending = none from by rw [hrec]] at hel
        refine ⟨none, _, hel, ?_⟩
        exact ⟨_, a, L, rfl, ha, hdone _ all _ (Nat.le_refl _) hall (hI _ _ _ hi (.put _ (by omega) hl rfl)) ((World.putObj_heap_other (by omega)).trans hd)⟩
  | _ => rw [e] at hc; cases hc
end Go.Q
namespace Go.Proofs.Ytlnidnadpdpciaa
open Go.Q Go.RowKit

theorem CloneC_nil (w : World) (n c : Nat)  : Calls Try.prog 39 ⟨[(Value.slice none n c)]⟩ w (fun e w' => e = .returned (.slice none 0 0) ∧ Keeps none_ w w') := by
 have K0 : Keeps none_ w w := Keeps.refl w
 refine q_calls Try.func39 (by kernel_rfl) (by kernel_rfl) ?_
 refine qs ?_
 refine qg ?_
 refine og 1 [(0, (Value.slice none n c)), (2, (Value.slice none 0 0))] 1 ?_
 refine od ?_
 refine qs ?_
 refine qs ?_
 refine qg ?_
 refine og 2 [(0, (Value.slice none n c)), (2, (Value.slice none 0 0)), (4, (Value.bool true))] 2 ?_
 refine od ?_
 refine q_then (o := .tmp 4) (by kernel_rfl) rfl ?_
 refine qs ?_
 refine qg ?_
 refine og 1 [(0, (Value.slice none n c)), (2, (Value.slice none 0 0))] 1 ?_
 refine od ?_
 refine q_ret (by kernel_rfl) ?_
 refine ⟨(Value.slice none 0 0), retv_tmp rfl rfl, ?_⟩
 exact ⟨rfl, K0⟩

theorem CloneC_some (w : World) (a : Addr) (c : Nat) (l : List DCall) (hv : RdT w 11 DCall.cells (.slice (some a) l.length c) l) (hl : l.length ≤ 2000) : Calls Try.prog 39 ⟨[(Value.slice (some a) l.length c)]⟩ w (fun e w' => ∃ v', e = .returned v' ∧ Keeps none_ w w' ∧ OwnT w' w.heap.size 79 11 DCall.cells v' ([] ++ l)) := by
 have K0 : Keeps none_ w w := Keeps.refl w
 refine q_calls Try.func39 (by kernel_rfl) (by kernel_rfl) ?_
 refine qs ?_
 refine qg ?_
 refine og 1 [(0, (Value.slice (some a) l.length c)), (2, (Value.slice none 0 0))] 1 ?_
 refine od ?_
 refine qs ?_
 refine qs ?_
 refine qg ?_
 refine og 2 [(0, (Value.slice (some a) l.length c)), (2, (Value.slice none 0 0)), (4, (Value.bool false))] 2 ?_
 refine od ?_
 refine q_else (o := .tmp 4) (by kernel_rfl) rfl ?_
 refine q_skip (by kernel_rfl) ?_
 refine qs ?_
 refine qg ?_
 refine Ops.new (o := rowL [] 79) (V := fun b => (Value.slice (some ⟨b, 0, none⟩) 0 0)) (by kernel_rfl) (d := (some 5)) (by kernel_rfl) (fun b => rfl) (fun b1 w2 hb3 H4 K5 hs6 => ?_)
 have nb1 : w.heap.size ≤ b1 := by have := K0.size; omega
 replace K0 := K0.t0 K5
 clear K5 hs6
 refine og 1 [(2, (Value.slice none 0 0)), (5, (Value.slice (some ⟨b1, 0, none⟩) 0 0)), (6, (Value.slice (some a) l.length c))] 2 ?_
 have hE7 : OwnT w2 w.heap.size 79 11 DCall.cells (Value.slice (some ⟨b1, 0, none⟩) 0 0) [] := own_empty2 H4 nb1
 obtain ⟨v8, w9, hr10, hO11, hK12, hg13⟩ := OwnT.app (ty := 81) DCall.two DCall.one tyCP hE7 (Rd.keep0 (by decide) hv K0) (by first | omega | (simp only [List.length_nil]; omega)) (by first | omega | (simp only [List.length_nil]; omega)) K0.size
 obtain ⟨A15, c16, rfl⟩ := RdT.form DCall.two (by decide) (OwnT.rd hO11)
 have K14 := hK12
 refine Ops.go (v := (Value.slice A15 (([] ++ l).length) c16)) (by kernel_rfl) (Runs.append (ts := #[81, 81]) (ty := 81) (vs := [(Value.slice (some ⟨b1, 0, none⟩) 0 0), (Value.slice (some a) l.length c)]) (by kernel_rfl) hr10) (d := (some 7)) (by kernel_rfl) rfl ?_
 replace K0 := K0.trans K14 (U := none_) (fun i h1 h2 => h2) (fun i h1 h2 => by have h2 : ((Value.slice (some ⟨b1, 0, none⟩) 0 0)).ownBlock = some i := h2; exfalso; have := (World.ownsRow.lt hE7 i h2).1; omega)
 clear hE7
 clear K14 hr10 hK12 hg13
 refine og 1 [(2, (Value.slice A15 (([] ++ l).length) c16))] 4 ?_
 refine od ?_
 refine q_ret (by kernel_rfl) ?_
 refine ⟨(Value.slice A15 (([] ++ l).length) c16), retv_tmp rfl rfl, ?_⟩
 exact ⟨_, rfl, K0, hO11⟩

theorem CloneC_calls (w : World) (A : Option Addr) (c : Nat) (l : List DCall) (hv : RdT w 11 DCall.cells (.slice A l.length c) l) (hl : l.length ≤ 2000) : Calls Try.prog 39 ⟨[.slice A l.length c]⟩ w (fun e w' => ∃ A' c', e = .returned (.slice A' l.length c') ∧ Keeps none_ w w' ∧ OwnT w' w.heap.size 79 11 DCall.cells (.slice A' l.length c') l) := by
 cases A with
 | none =>
  refine (CloneC_nil w l.length c).mono ?_
  rintro e w' ⟨he, hk⟩
  have h0 : l = [] := by have h1 := Rd.none_nil2 hv; cases l with | nil => rfl | cons x l => simp [DCall.cells] at h1
  subst h0
  exact ⟨none, 0, he, hk, OwnT.nil _ _ _ _ _⟩
 | some a =>
  refine (CloneC_some w a c l hv hl).mono ?_
  rintro e w' ⟨v', he, hk, hO⟩
  rw [List.nil_append] at hO
  obtain ⟨A', c', rfl⟩ := RdT.form DCall.two (by decide) (OwnT.rd hO)
  exact ⟨A', c', he, hk, hO⟩

theorem Open_calls (w : World) (F : Nat → Prop) (d : Nat) (l : List DCall) (A : Option Addr) (c : Nat) (T : Nat → Prop) (Hd : Has w d (rowL [(Value.slice A l.length c)] 84)) (hO : OwnT w 0 79 11 DCall.cells ((Value.slice A l.length c)) l) (hR : RowsE w DCall.rv DCall.rows T l) (hT7 : ∀ i, T i → i ≠ d ∧ F i) (hV7 : ∀ i, ((Value.slice A l.length c)).ownBlock = some i → i ≠ d ∧ F i ∧ ¬ T i) (hFd : F d) (hFl : ∀ i, F i → i < w.heap.size) (h20 : l.length ≤ 2000) : Calls Try.prog 13 ⟨[(ptr d)]⟩ w (fun e w' => ∃ C A' c', e = .returned (.func (.func 40) ⟨[]⟩ ⟨[ptr C]⟩) ∧ Keeps none_ w w' ∧ Has w' C (rowL [.slice A' l.length c'] 81) ∧ OwnT w' w.heap.size 79 11 DCall.cells (.slice A' l.length c') l ∧ w.heap.size ≤ C ∧ ∀ i, (Value.slice A' l.length c').ownBlock = some i → i ≠ C) := by
 have Hdl := Hd.lt
 have hTd : ∀ i, T i → i ≠ d := fun i hi => (hT7 i hi).1
 have hVd : ∀ i, ((Value.slice A l.length c)).ownBlock = some i → i ≠ d := fun i hi => (hV7 i hi).1
 have hVT : ∀ i, ((Value.slice A l.length c)).ownBlock = some i → T i → False := fun i hi h => (hV7 i hi).2.2 h
 have hcap := RdT.len DCall.two (by decide) (OwnT.rd hO)
 have K0 : Keeps none_ w w := (Keeps.refl w).mono (fun _ _ h => h.elim)
 refine q_calls Try.func13 (by kernel_rfl) (by kernel_rfl) ?_
 refine qs ?_
 refine qg ?_
 refine og 1 [(0, (ptr d)), (2, Value.nilFunc)] 1 ?_
 refine od ?_
 refine qs ?_
 refine qg ?_
 refine Ops.new (o := rowL [(Value.slice none 0 0)] 81) (V := fun b => (ptr b)) (by kernel_rfl) (d := (some 3)) (by kernel_rfl) (fun b => rfl) (fun b1 w2 hb3 H4 K5 hs6 => ?_)
 have lb1d : d < b1 := by have := Hd.lt; omega
 have nb1 : w.heap.size ≤ b1 := by have := K0.size; omega
 have ob7 : ∀ i, ((Value.slice A l.length c)).ownBlock = some i → i < b1 := fun i hi => by have := (World.ownsRow.lt hO i hi).2; omega
 have of8 : ∀ i, T i → i ≠ b1 := fun i hi => by have := RowsE.lt hR i hi; omega
 replace K0 := K0.t0 K5
 replace Hd := Hd.keep K5 (fun h => h)
 replace hO := own_keep0 hO K5
 replace hR := RowsE.keep hR K5 (fun _ _ h => h)
 clear K5 hs6
 refine od ?_
 refine qs ?_
 refine qs ?_
 refine qg ?_
 refine og 2 [(0, (ptr d)), (2, Value.nilFunc), (3, (ptr b1)), (5, (Value.bool true))] 2 ?_
 refine od ?_
 refine q_then (o := .tmp 5) (by kernel_rfl) rfl ?_
 refine qg ?_
 refine og 3 [(2, Value.nilFunc), (3, (ptr b1)), (8, (ptr d))] 3 ?_
 refine Ops.go (v := (Value.slice A l.length c)) (by kernel_rfl) (Runs.load (t := 81) (a := ⟨d, 0, none⟩) (by kernel_rfl) (Hd.loads (by kernel_rfl))) (d := (some 9)) (by kernel_rfl) rfl ?_
 refine Ops.call (by kernel_rfl) (d := (some 10)) (by kernel_rfl) (CloneC_calls _ A c l (OwnT.rd hO) h20) ?_
 rintro _ w11 ⟨A9, c10, rfl, K12, hO13⟩
 have ob15 : ∀ i, ((Value.slice A9 l.length c10)).ownBlock = some i → i ≠ d := fun i hi => by have := (World.ownsRow.lt hO13 i hi).1; have := Hd.lt; omega
 have ob16 : ∀ i, ((Value.slice A9 l.length c10)).ownBlock = some i → i ≠ b1 := fun i hi => by have := (World.ownsRow.lt hO13 i hi).1; have := H4.lt; omega
 have oo17 : ∀ i, ((Value.slice A l.length c)).ownBlock = some i → ((Value.slice A9 l.length c10)).ownBlock = some i → False := fun i hi hs => by have := (World.ownsRow.lt hO13 i hs).1; have := (World.ownsRow.lt hO i hi).2; omega
 have oo18 : ∀ i, ((Value.slice A9 l.length c10)).ownBlock = some i → ((Value.slice A l.length c)).ownBlock = some i → False := fun i hi hs => oo17 i hs hi
 have oo19 : ∀ i, ((Value.slice A9 l.length c10)).ownBlock = some i → T i → False := fun i hs hi => by have := (World.ownsRow.lt hO13 i hs).1; have := RowsE.lt hR i hi; omega
 have O14 := own_base hO13 K0.size
 refine ⟨_, _, rfl, rfl, ?_⟩
 replace K0 := K0.t0 K12
 replace Hd := Hd.keep K12 (fun h => h)
 replace H4 := H4.keep K12 (fun h => h)
 replace hO := own_keep0 hO K12
 replace hR := RowsE.keep hR K12 (fun _ _ h => h)
 clear K12
 refine Ops.put (t := 81) (b := b1) (off := 0) (v := (Value.slice A9 l.length c10)) (ys := [(Value.slice A9 l.length c10)]) (by kernel_rfl) (by kernel_rfl) H4 (by kernel_rfl) (d := none) (by kernel_rfl) rfl (fun w20 H21 K22 => ?_)
 clear H4
 replace K0 := K0.trans K22 (U := none_) (fun i h1 h2 => h2) (fun i h1 h2 => by have h2 : i = b1 := h2; exfalso; omega)
 replace Hd := Hd.k1 K22 (by omega)
 replace hO := own_keep hO K22 (fun i hi => by have := ob7 i hi; omega)
 replace hR := RowsE.keep hR K22 (fun i hi hs => by have hs : i = b1 := hs; have := of8 i hi; omega)
 replace O14 := own_keep O14 K22 (fun i hi => by have := ob16 i hi; omega)
 clear K22
 refine od ?_
 refine qs ?_
 refine qg ?_
 refine og 2 [(2, (Value.func (Fn.func 40) ⟨[]⟩ ⟨[(ptr b1)]⟩))] 2 ?_
 refine od ?_
 refine q_ret (by kernel_rfl) ?_
 refine ⟨(Value.func (Fn.func 40) ⟨[]⟩ ⟨[(ptr b1)]⟩), retv_tmp rfl rfl, ?_⟩
 exact ⟨_, _, _, rfl, K0, H21, own_base O14 (Nat.le_refl _), nb1, ob16⟩

/-- What Open makes tells the calls without an answer, one by one. -/
theorem Open1_tells (w0 : World) (m0 : Nat) (C : Nat) (A : Option Addr) (c : Nat) (l : List DCall) (T : Nat → Prop) (hC : Has w0 C (rowL [.slice A l.length c] 81)) (hTC : ¬ T C) (hR : RdT w0 11 DCall.cells (.slice A l.length c) l) (hTA : ∀ i, (Value.slice A l.length c).ownBlock = some i → ¬ T i) :
  TellsM Try.prog m0 40 [ptr C] (fun x : Nat × Opm => [i64 ((x.1 : Nat) : Int), (agg [(i64 x.2.kind), (Value.string (str x.2.frm)), (Value.string (str x.2.to)), (i64 x.2.amount), (Value.string (str x.2.key)), (i64 x.2.slot), (i64 x.2.shard)])]) T (fun all => all = openF 0 l) w0 := by
 intro ln J W hW hJ hY h0
 have hcap := (RdT.len DCall.two (by decide) hR).2
 unfold maxLen at hcap
 obtain ⟨Y, hYd⟩ : ∃ Y, Y = Value.func (.yield ln) #[] #[] := ⟨_, rfl⟩
 rw [← hYd]
 refine qr_calls (m0 + 1) Try.func40 (by kernel_rfl) (by kernel_rfl) ?_
 have hCW := hC.keep hW hTC
 refine qr_seq (by kernel_rfl) ?_
 refine qr_region Open.wide (by kernel_rfl) (by kernel_rfl) ?_
 refine Ops.go (v := .slice A l.length c) (by kernel_rfl) (Runs.load (t := 81) (a := ⟨C, 0, none⟩) (by kernel_rfl) (hCW.loads (by kernel_rfl))) (d := some 5) (by kernel_rfl) rfl ?_
 refine og 2 [(0, Y), (5, .slice A l.length c), (6, i64 ((l.length : Nat) : Int)), (7, i64 0)] 3 ?_
 refine od ?_
 refine qr_block (id := 0) (by kernel_rfl) ?_
 refine qr_loop (fun (k : Nat) ds L wx => ds = [] ∧ L = [(0, Y), (5, .slice A l.length c), (6, i64 ((l.length : Nat) : Int)), (7, i64 ((k : Nat) : Int))] ∧ k ≤ l.length ∧ J (openF 0 (l.take k)) wx ∧ Keeps T w0 wx ∧ W.heap.size ≤ wx.heap.size) (fun k => l.length - k) 0 (by kernel_rfl) ⟨rfl, rfl, Nat.zero_le _, h0, hW, Nat.le_refl _⟩ ?_
 rintro k _ _ wx ⟨rfl, rfl, hk, hj, hK, hsz⟩
 refine qr_seq (by kernel_rfl) ?_
 refine qr_region Open.wide (by kernel_rfl) (by kernel_rfl) ?_
 refine og 1 [(0, Y), (5, .slice A l.length c), (6, i64 ((l.length : Nat) : Int)), (7, i64 ((k : Nat) : Int)), (8, .bool (decide (((k : Nat) : Int) < ((l.length : Nat) : Int))))] 1 ?_
 refine od ?_
 refine qr_seq (by kernel_rfl) ?_
 refine qr_cond (o := .tmp 8) (b := decide (((k : Nat) : Int) < ((l.length : Nat) : Int))) (by kernel_rfl) rfl (fun h => ?_) (fun h => ?_)
 ·have hkl := of_decide_eq_true h
  clear h
  obtain ⟨x, hx⟩ : ∃ x, l[k]? = some x := ⟨_, List.getElem?_eq_getElem (by omega)⟩
  have htake := openF_take hx
  have hRx : RdT wx 11 DCall.cells (.slice A l.length c) l := Rd.keep (by decide) hR hK hTA
  obtain ⟨rb, ro, hA⟩ := Rd.addr hRx (by omega)
  refine qr_keep (R := [(0, Y), (5, .slice A l.length c), (6, i64 ((l.length : Nat) : Int)), (7, i64 ((k : Nat) : Int))]) (by kernel_rfl) ?_
  refine qr_skip (by kernel_rfl) ?_
  refine qr_seq (by kernel_rfl) ?_
  refine qr_block (id := 1) (by kernel_rfl) ?_
  refine qr_seq (by kernel_rfl) ?_
  refine qr_region Open.wide (by kernel_rfl) (by kernel_rfl) ?_
  refine og 1 [(0, Y), (5, .slice A l.length c), (6, i64 ((l.length : Nat) : Int)), (7, i64 ((k : Nat) : Int)), (9, i64 ((k : Nat) : Int))] 1 ?_
  refine Ops.go (v := .pointer (some ⟨rb, ro + k * 11, none⟩)) (by kernel_rfl) (Runs.ixSliceE (k := IntKind.i64) (t := 81) (len := l.length) (cap := c) (s := 11) (off' := ro + k * 11) (i := ((k : Nat) : Int)) hA (by kernel_rfl) (by kernel_rfl) (by omega) (by omega) (by omega)) (d := some 10) (by kernel_rfl) rfl ?_
  refine Ops.go (v := agg x.cells) (by kernel_rfl) (Runs.load (t := 79) (a := ⟨rb, ro + k * 11, none⟩) (by kernel_rfl) (RdT.ld (f := DCall.cells) (x := x) DCall.two hRx (by kernel_rfl) (by kernel_rfl) hA hx)) (d := some 11) (by kernel_rfl) rfl ?_
  refine Ops.new (o := rowL [(i64 0), (Value.string ByteArray.empty), (Value.string ByteArray.empty), (i64 0), (Value.string ByteArray.empty), (i64 0), (i64 0), (i64 0), (i64 0), (Value.slice none 0 0), (Value.bool false)] 79) (V := fun b => ptr b) (by kernel_rfl) (d := some 4) (by kernel_rfl) (fun b => rfl) (fun b w3 hb H3 k3 hs3 => ?_)
  refine og 1 [(0, Y), (3, i64 ((k : Nat) : Int)), (4, ptr b), (5, .slice A l.length c), (6, i64 ((l.length : Nat) : Int)), (7, i64 ((k : Nat) : Int)), (11, agg x.cells)] 5 ?_
  refine Ops.put (t := 79) (b := b) (off := 0) (v := agg x.cells) (ys := x.cells) (by kernel_rfl) (by kernel_rfl) H3 (by kernel_rfl) (d := none) (by kernel_rfl) rfl (fun w4 H4 k4 => ?_)
  refine Ops.keep (R := [(0, Y), (3, i64 ((k : Nat) : Int)), (4, ptr b), (5, .slice A l.length c), (6, i64 ((l.length : Nat) : Int)), (7, i64 ((k : Nat) : Int))]) (by kernel_rfl) ?_
  refine od ?_
  have k24 : Keeps none_ wx w4 := k3.trans k4 (fun _ _ h => h) (fun i hi h => by have h : i = b := h; omega)
  have hj4 := hJ _ _ _ hj ((Loose.none k24).le hsz)
  have hK4 : Keeps T w0 w4 := hK.trans k24 (fun _ _ h => h) (fun _ _ h => h.elim)
  refine qr_seq (by kernel_rfl) ?_
  refine qr_opsR (by kernel_rfl) ?_
  refine OpsR.regs Open.wide (by kernel_rfl) 1 [(0, Y), (3, i64 ((k : Nat) : Int)), (4, ptr b), (5, .slice A l.length c), (6, i64 ((l.length : Nat) : Int)), (7, i64 ((k : Nat) : Int)), (12, .pointer (some ⟨b, 10, none⟩))] (j := 1) (by kernel_rfl) (by kernel_rfl) ?_
  refine OpsR.go Open.wide (by kernel_rfl) (v := .bool x.is) (by kernel_rfl) (Runs.load (t := 4) (a := ⟨b, 10, none⟩) (by kernel_rfl) (H4.loads (by kernel_rfl))) (d := some 13) (by kernel_rfl) rfl ?_
  cases hs : x.is with
  | true =>
   refine OpsR.regs Open.wide (by kernel_rfl) 9 [(0, Y), (5, .slice A l.length c), (6, i64 ((l.length : Nat) : Int)), (7, i64 ((k : Nat) : Int)), (22, .bool false)] (j := 11) (by kernel_rfl) (by kernel_rfl) ?_
   refine OpsR.done (by kernel_rfl) ?_
   refine qr_else (o := .tmp 22) (by kernel_rfl) rfl ?_
   refine qr_keep (R := [(0, Y), (5, .slice A l.length c), (6, i64 ((l.length : Nat) : Int)), (7, i64 ((k : Nat) : Int))]) (by kernel_rfl) ?_
   refine qr_skip (by kernel_rfl) ?_
   refine qr_region Open.wide (by kernel_rfl) (by kernel_rfl) ?_
   refine og 1 [(0, Y), (5, .slice A l.length c), (6, i64 ((l.length : Nat) : Int)), (23, i64 (IntKind.i64.wrap (((k : Nat) : Int) + 1)))] 1 ?_
   rw [show IntKind.i64.wrap (((k : Nat) : Int) + 1) = ((k + 1 : Nat) : Int) from by rw [wrap_i64 (by omega) (by omega)]; omega]
   refine og 1 [(0, Y), (5, .slice A l.length c), (6, i64 ((l.length : Nat) : Int)), (7, i64 ((k + 1 : Nat) : Int))] 2 ?_
   refine od ?_
   rw [hs] at htake
   rw [if_pos rfl, List.append_nil] at htake
   exact ⟨k + 1, ⟨rfl, rfl, by omega, by rw [htake]; exact hj4, hK4, Nat.le_trans hsz k24.size⟩, by omega⟩
  | false =>
   rw [hs] at htake
   rw [if_neg (by decide)] at htake
   refine OpsR.regs Open.wide (by kernel_rfl) 5 [(0, Y), (5, .slice A l.length c), (6, i64 ((l.length : Nat) : Int)), (7, i64 ((k : Nat) : Int)), (15, .bool true), (16, Y), (17, i64 ((k : Nat) : Int)), (18, .pointer (some ⟨b, 0, none⟩))] (j := 7) (by kernel_rfl) (by kernel_rfl) ?_
   refine OpsR.go Open.wide (by kernel_rfl) (v := (agg [(i64 x.op.kind), (Value.string (str x.op.frm)), (Value.string (str x.op.to)), (i64 x.op.amount), (Value.string (str x.op.key)), (i64 x.op.slot), (i64 x.op.shard)])) (by kernel_rfl) (Runs.load (t := 23) (a := ⟨b, 0, none⟩) (by kernel_rfl) (H4.loads (by kernel_rfl))) (d := some 19) (by kernel_rfl) rfl ?_
   subst hYd
   refine OpsR.yield Open.wide (by kernel_rfl) (l := ln) (args := ⟨[i64 ((k : Nat) : Int), (agg [(i64 x.op.kind), (Value.string (str x.op.frm)), (Value.string (str x.op.to)), (i64 x.op.amount), (Value.string (str x.op.key)), (i64 x.op.slot), (i64 x.op.shard)])]⟩) (at?_opn (by kernel_rfl)) ?_ (hY (openF 0 (l.take k)) (k, x.op) w4 hj4 ⟨openF (k + 1) (l.drop (k + 1)), openF_split hx hs⟩) ?_
   ·kernel_rfl
   rintro _ w5 ⟨rfl, hj5, k5, kF5⟩
   refine ⟨_, _, rfl, rfl, ?_⟩
   refine OpsR.regs Open.wide (by kernel_rfl) 2 [(0, .func (.yield ln) #[] #[]), (5, .slice A l.length c), (6, i64 ((l.length : Nat) : Int)), (7, i64 ((k : Nat) : Int)), (22, .bool false)] (j := 11) (by kernel_rfl) (by kernel_rfl) ?_
   refine OpsR.done (by kernel_rfl) ?_
   refine qr_else (o := .tmp 22) (by kernel_rfl) rfl ?_
   refine qr_keep (R := [(0, .func (.yield ln) #[] #[]), (5, .slice A l.length c), (6, i64 ((l.length : Nat) : Int)), (7, i64 ((k : Nat) : Int))]) (by kernel_rfl) ?_
   refine qr_skip (by kernel_rfl) ?_
   refine qr_region Open.wide (by kernel_rfl) (by kernel_rfl) ?_
   refine og 1 [(0, .func (.yield ln) #[] #[]), (5, .slice A l.length c), (6, i64 ((l.length : Nat) : Int)), (23, i64 (IntKind.i64.wrap (((k : Nat) : Int) + 1)))] 1 ?_
   rw [show IntKind.i64.wrap (((k : Nat) : Int) + 1) = ((k + 1 : Nat) : Int) from by rw [wrap_i64 (by omega) (by omega)]; omega]
   refine og 1 [(0, .func (.yield ln) #[] #[]), (5, .slice A l.length c), (6, i64 ((l.length : Nat) : Int)), (7, i64 ((k + 1 : Nat) : Int))] 2 ?_
   refine od ?_
   exact ⟨k + 1, ⟨rfl, rfl, by omega, by rw [htake]; exact hj5, hK4.trans k5 (fun _ _ h => h) (fun _ _ h => h), Nat.le_trans hsz (Nat.le_trans k24.size k5.size)⟩, by omega⟩
 ·have hkl := of_decide_eq_false h
  refine qr_exit (id := 0) (by kernel_rfl) ?_
  rw [List.take_of_length_le (by omega)] at hj
  exact retR_norm (retv_none rfl) ⟨⟨_, rfl⟩, _, rfl, hj⟩
end Go.Proofs.Ytlnidnadpdpciaa
namespace Go.Proofs.Ytlnidnadpdpciaa
open Go.Q Go.RowKit

theorem alike_body (w : World) (ln : Nat) (b4 r b6 b13 b15 n : Nat) (A2 : Option Addr) (c2 : Nat) (l2 : List DCall) (x : Nat × Opm) (y0 : DCall) (H4 : Has w b4 (rowL [ptr r] 52)) (Hr : Has w r (rowL [(Value.slice A2 l2.length c2)] 55)) (H13 : Has w b13 (rowL [(i64 ((n : Nat) : Int))] 3)) (H15 : Has w b15 (rowL [(i64 x.2.kind), (Value.string (str x.2.frm)), (Value.string (str x.2.to)), (i64 x.2.amount), (Value.string (str x.2.key)), (i64 x.2.slot), (i64 x.2.shard)] 23)) (hV : RdT w 11 DCall.cells (Value.slice A2 l2.length c2) l2) (hVb : ∀ q, ((Value.slice A2 l2.length c2)).ownBlock = some q → q ≠ b13) (hd : b4 ≠ b13 ∧ r ≠ b13 ∧ b15 ≠ b13) (hle : n ≤ x.1) (hgap : ∀ j, n ≤ j → j < x.1 → ∀ z, l2[j]? = some z → z.is = true) (hx : l2[x.1]? = some y0) (hs0 : y0.is = false) (ho0 : y0.op = x.2) (h20 : l2.length ≤ 2000) : wpR (Fence.wide.inRound ln) Try.prog 9 Try.f22.ntmps (cd Try.f22 [1, 0, 1, 0, 1, 1, 1, 1, 1, 1, 1]) (fun _ e _ w' => e = .normal ∧ Keeps (fun q => q = b13) w w' ∧ Has w' b13 (rowL [(i64 ((x.1 + 1 : Nat) : Int))] 3)) [] [(4, (ptr b4)), (6, (ptr b6)), (13, (ptr b13)), (14, (i64 ((x.1 : Nat) : Int))), (15, (ptr b15))] w := by
 have hnl := (List.getElem?_eq_some_iff.1 hx).1
 have hV0 := hV
 have K0 : Keeps (fun q => q = b13) w w := (Keeps.refl w).mono (fun _ _ h => h.elim)
 refine qr_block (id := 3) (by kernel_rfl) ?_
 refine qr_seq (by kernel_rfl) ?_
 refine qr_block (id := 4) (by kernel_rfl) ?_
 refine qr_keep (R := [(4, (ptr b4)), (6, (ptr b6)), (13, (ptr b13)), (14, (i64 ((x.1 : Nat) : Int))), (15, (ptr b15))]) (by kernel_rfl) ?_
 refine qr_loop (fun (kk : Nat) (ds : List Deferred) L (wx : World) => ds = [] ∧ L = [(4, (ptr b4)), (6, (ptr b6)), (13, (ptr b13)), (14, (i64 ((x.1 : Nat) : Int))), (15, (ptr b15))] ∧ n ≤ kk ∧ kk ≤ x.1 ∧ Keeps (fun i => i = b13) w wx ∧ Has wx b4 (rowL [(ptr r)] 52) ∧ Has wx r (rowL [(Value.slice A2 l2.length c2)] 55) ∧ Has wx b13 (rowL [(i64 ((kk : Nat) : Int))] 3) ∧ Has wx b15 (rowL [(i64 x.2.kind), (Value.string (str x.2.frm)), (Value.string (str x.2.to)), (i64 x.2.amount), (Value.string (str x.2.key)), (i64 x.2.slot), (i64 x.2.shard)] 23)) (fun (kk : Nat) => x.1 + 1 - kk) n (by kernel_rfl) ⟨rfl, rfl, Nat.le_refl _, hle, K0, H4, Hr, H13, H15⟩ ?_
 clear H4 Hr H13 H15 hV K0
 rintro kk _ _ w1 ⟨rfl, rfl, hk1, hk2, K2, H3, H4, H5, H6⟩
 have hV7 : RdT w1 11 DCall.cells (Value.slice A2 l2.length c2) l2 := Rd.keep (by decide) hV0 K2 (fun i hi h => by have h : i = b13 := h; exact hVb i hi h)
 refine qr_seq (by kernel_rfl) ?_
 refine qr_seq (by kernel_rfl) ?_
 refine qr_draw (Open.round ln) (fun wz => Keeps none_ w1 wz) 17 (by kernel_rfl) (by kernel_rfl) (by kernel_rfl) (by kernel_rfl) (fun w8 K9 _ _ => ⟨K9, ?_⟩)
 replace K2 := K2.tn K9
 replace H3 := H3.keep K9 (fun h => h)
 replace H4 := H4.keep K9 (fun h => h)
 replace H5 := H5.keep K9 (fun h => h)
 replace H6 := H6.keep K9 (fun h => h)
 replace hV7 := (Rd.keep0 (by omega) hV7 K9)
 refine Dr.strong (S' := (fun wz => Keeps none_ w8 wz)) (Keeps.refl w8) (fun wz hx => K9.trans hx (fun i _ h => h) (fun _ _ h => h)) ?_
 clear K9
 refine Dr.take (i := 0) (v := (i64 ((kk : Nat) : Int))) (by kernel_rfl) (by kernel_rfl) (fun wz hS => Runs.load (t := 3) (a := ⟨b13, 0, none⟩) (by kernel_rfl) ((H5.keep hS (fun h => h)).loads (by kernel_rfl))) (d := (some 99)) (by kernel_rfl) rfl ?_
 refine Dr.take (i := 1) (v := (ptr r)) (by kernel_rfl) (by kernel_rfl) (fun wz hS => Runs.load (t := 52) (a := ⟨b4, 0, none⟩) (by kernel_rfl) ((H3.keep hS (fun h => h)).loads (by kernel_rfl))) (d := (some 100)) (by kernel_rfl) rfl ?_
 refine Dr.takes (fuel' := 13) (is' := _) [2, 3] [(4, (ptr b4)), (6, (ptr b6)), (13, (ptr b13)), (14, (i64 ((x.1 : Nat) : Int))), (15, (ptr b15)), (99, (i64 ((kk : Nat) : Int))), (102, (ptr r))] (by kernel_rfl) rfl (by kernel_rfl) ?_
 refine Dr.take (i := 4) (v := (Value.slice A2 l2.length c2)) (by kernel_rfl) (by kernel_rfl) (fun wz hS => Runs.load (t := 53) (a := ⟨r, 0, none⟩) (by kernel_rfl) ((H4.keep hS (fun h => h)).loads (by kernel_rfl))) (d := (some 103)) (by kernel_rfl) rfl ?_
 refine Dr.takes (fuel' := 9) (is' := _) [5, 6, 7] [(4, (ptr b4)), (6, (ptr b6)), (13, (ptr b13)), (14, (i64 ((x.1 : Nat) : Int))), (15, (ptr b15)), (106, (Value.bool (decide (((kk : Nat) : Int) < ((l2.length : Nat) : Int)))))] (by kernel_rfl) rfl (by kernel_rfl) ?_
 have h10 : (decide (((kk : Nat) : Int) < ((l2.length : Nat) : Int))) = true := decide_eq_true (by omega)
 rw [h10]
 refine Dr.take (i := 8) (v := (ptr r)) (by kernel_rfl) (by kernel_rfl) (fun wz hS => Runs.load (t := 52) (a := ⟨b4, 0, none⟩) (by kernel_rfl) ((H3.keep hS (fun h => h)).loads (by kernel_rfl))) (d := (some 107)) (by kernel_rfl) rfl ?_
 refine Dr.takes (fuel' := 6) (is' := _) [9, 10] [(4, (ptr b4)), (6, (ptr b6)), (13, (ptr b13)), (14, (i64 ((x.1 : Nat) : Int))), (15, (ptr b15)), (106, (Value.bool true)), (109, (ptr r))] (by kernel_rfl) rfl (by kernel_rfl) ?_
 refine Dr.take (i := 11) (v := (Value.slice A2 l2.length c2)) (by kernel_rfl) (by kernel_rfl) (fun wz hS => Runs.load (t := 53) (a := ⟨r, 0, none⟩) (by kernel_rfl) ((H4.keep hS (fun h => h)).loads (by kernel_rfl))) (d := (some 110)) (by kernel_rfl) rfl ?_
 refine Dr.take (i := 12) (v := (i64 ((kk : Nat) : Int))) (by kernel_rfl) (by kernel_rfl) (fun wz hS => Runs.load (t := 3) (a := ⟨b13, 0, none⟩) (by kernel_rfl) ((H5.keep hS (fun h => h)).loads (by kernel_rfl))) (d := (some 111)) (by kernel_rfl) rfl ?_
 obtain ⟨y, hy⟩ : ∃ y, l2[kk]? = some y := ⟨_, List.getElem?_eq_getElem (by omega)⟩
 obtain ⟨rb11, ro12, hA13⟩ := Rd.addr hV7 (by omega)
 refine Dr.take (i := 13) (v := (Value.pointer (some ⟨rb11, ro12 + kk * 11, none⟩))) (by kernel_rfl) (by kernel_rfl) (fun wz hS => Runs.ixSliceE (k := IntKind.i64) (t := 53) (len := l2.length) (cap := c2) (s := 11) (off' := ro12 + kk * 11) (i := ((kk : Nat) : Int)) hA13 (by kernel_rfl) (by kernel_rfl) (by omega) (by omega) (by omega)) (d := (some 112)) (by kernel_rfl) rfl ?_
 refine Dr.takes (fuel' := 2) (is' := _) [14] [(4, (ptr b4)), (6, (ptr b6)), (13, (ptr b13)), (14, (i64 ((x.1 : Nat) : Int))), (15, (ptr b15)), (106, (Value.bool true)), (113, (Value.pointer (some ⟨rb11, ro12 + kk * 11 + 10, none⟩)))] (by kernel_rfl) rfl (by kernel_rfl) ?_
 refine Dr.take (i := 15) (v := (Value.bool y.is)) (by kernel_rfl) (by kernel_rfl) (fun wz hS => Runs.load (t := 4) (a := ⟨rb11, ro12 + kk * 11 + 10, none⟩) (by kernel_rfl) (RdT.ldf (f := DCall.cells) (x := y) (o := 10) DCall.two (Rd.keep0 (by decide) hV7 hS) (by kernel_rfl) hA13 hy rfl)) (d := (some 114)) (by kernel_rfl) rfl ?_
 refine Dr.takes (fuel' := 0) (is' := _) [16] [(4, (ptr b4)), (6, (ptr b6)), (13, (ptr b13)), (14, (i64 ((x.1 : Nat) : Int))), (15, (ptr b15)), (115, (Value.bool y.is))] (by kernel_rfl) rfl (by kernel_rfl) ?_
 refine Dr.done (by kernel_rfl) ?_
 refine qr_cond (o := .tmp 115) (b := y.is) (by kernel_rfl) rfl (fun h14 => ?_) (fun h14 => ?_)
 ·rw [h14]
  have p15 : y.is = true := h14
  have hkx := gap_true hy hx hs0 h14 hk2
  refine qr_skip (by kernel_rfl) ?_
  refine qr_block (id := 5) (by kernel_rfl) ?_
  refine qr_region (Open.round ln) (by kernel_rfl) (by kernel_rfl) ?_
  refine Ops.go (v := (i64 ((kk : Nat) : Int))) (by kernel_rfl) (Runs.load (t := 3) (a := ⟨b13, 0, none⟩) (by kernel_rfl) (H5.loads (by kernel_rfl))) (d := (some 116)) (by kernel_rfl) rfl ?_
  refine og 1 [(4, (ptr b4)), (6, (ptr b6)), (13, (ptr b13)), (14, (i64 ((x.1 : Nat) : Int))), (15, (ptr b15)), (117, (i64 (IntKind.i64.wrap (((kk : Nat) : Int) + 1))))] 2 ?_
  have e16 : IntKind.i64.wrap (((kk : Nat) : Int) + 1) = ((kk + 1 : Nat) : Int) := by rw [wrap_i64 (by omega) (by omega)]; omega
  rw [e16]
  clear e16
  refine Ops.put (t := 3) (b := b13) (off := 0) (v := (i64 ((kk + 1 : Nat) : Int))) (ys := [(i64 ((kk + 1 : Nat) : Int))]) (by kernel_rfl) (by kernel_rfl) H5 (by kernel_rfl) (d := none) (by kernel_rfl) rfl (fun w17 H18 K19 => ?_)
  clear H5
  replace K2 := K2.t1 K19 (fun _ => rfl)
  replace H3 := H3.k1 K19 (by omega)
  replace H4 := H4.k1 K19 (by omega)
  replace H6 := H6.k1 K19 (by omega)
  replace hV7 := Rd.keep (by omega) hV7 K19 (fun i hi hs => by have hs : i = b13 := hs; have := hVb i hi; omega)
  clear K19
  refine Ops.keep (R := [(4, (ptr b4)), (6, (ptr b6)), (13, (ptr b13)), (14, (i64 ((x.1 : Nat) : Int))), (15, (ptr b15))]) (by kernel_rfl) ?_
  refine od ?_
  exact ⟨kk + 1, ⟨rfl, rfl, (by omega), (by omega), K2, H3, H4, H18, H6⟩, (show x.1 + 1 - (kk + 1) < x.1 + 1 - kk from by omega)⟩
 ·rw [h14]
  have p20 : y.is = false := h14
  have hkx := gap_false hgap hy h14 hk1 hk2
  have hop : y.op = x.2 := (congrArg DCall.op (gap_eq hy hx hkx)).trans ho0
  refine qr_exit (id := 4) (by kernel_rfl) ?_
  refine qr_seq (by kernel_rfl) ?_
  refine qr_seq (by kernel_rfl) ?_
  refine qr_draw (Open.round ln) (fun wz => Keeps none_ w8 wz) 24 (by kernel_rfl) (by kernel_rfl) (by kernel_rfl) (by kernel_rfl) (fun w21 K22 _ _ => ⟨K22, ?_⟩)
  replace K2 := K2.tn K22
  replace H3 := H3.keep K22 (fun h => h)
  replace H4 := H4.keep K22 (fun h => h)
  replace H5 := H5.keep K22 (fun h => h)
  replace H6 := H6.keep K22 (fun h => h)
  replace hV7 := (Rd.keep0 (by omega) hV7 K22)
  refine Dr.strong (S' := (fun wz => Keeps none_ w21 wz)) (Keeps.refl w21) (fun wz hx => K22.trans hx (fun i _ h => h) (fun _ _ h => h)) ?_
  clear K22
  refine Dr.take (i := 0) (v := (i64 ((kk : Nat) : Int))) (by kernel_rfl) (by kernel_rfl) (fun wz hS => Runs.load (t := 3) (a := ⟨b13, 0, none⟩) (by kernel_rfl) ((H5.keep hS (fun h => h)).loads (by kernel_rfl))) (d := (some 118)) (by kernel_rfl) rfl ?_
  refine Dr.take (i := 1) (v := (ptr r)) (by kernel_rfl) (by kernel_rfl) (fun wz hS => Runs.load (t := 52) (a := ⟨b4, 0, none⟩) (by kernel_rfl) ((H3.keep hS (fun h => h)).loads (by kernel_rfl))) (d := (some 119)) (by kernel_rfl) rfl ?_
  refine Dr.takes (fuel' := 20) (is' := _) [2, 3] [(4, (ptr b4)), (6, (ptr b6)), (13, (ptr b13)), (14, (i64 ((x.1 : Nat) : Int))), (15, (ptr b15)), (118, (i64 ((kk : Nat) : Int))), (121, (ptr r))] (by kernel_rfl) rfl (by kernel_rfl) ?_
  refine Dr.take (i := 4) (v := (Value.slice A2 l2.length c2)) (by kernel_rfl) (by kernel_rfl) (fun wz hS => Runs.load (t := 53) (a := ⟨r, 0, none⟩) (by kernel_rfl) ((H4.keep hS (fun h => h)).loads (by kernel_rfl))) (d := (some 122)) (by kernel_rfl) rfl ?_
  refine Dr.takes (fuel' := 16) (is' := _) [5, 6, 7] [(4, (ptr b4)), (6, (ptr b6)), (13, (ptr b13)), (14, (i64 ((x.1 : Nat) : Int))), (15, (ptr b15)), (125, (Value.bool (decide (((kk : Nat) : Int) ≥ ((l2.length : Nat) : Int)))))] (by kernel_rfl) rfl (by kernel_rfl) ?_
  have h23 : (decide (((kk : Nat) : Int) ≥ ((l2.length : Nat) : Int))) = false := decide_eq_false (by omega)
  rw [h23]
  refine Dr.takes (fuel' := 15) (is' := _) [8] [(4, (ptr b4)), (6, (ptr b6)), (13, (ptr b13)), (15, (ptr b15)), (125, (Value.bool false)), (126, (i64 ((x.1 : Nat) : Int)))] (by kernel_rfl) rfl (by kernel_rfl) ?_
  refine Dr.take (i := 9) (v := (i64 ((kk : Nat) : Int))) (by kernel_rfl) (by kernel_rfl) (fun wz hS => Runs.load (t := 3) (a := ⟨b13, 0, none⟩) (by kernel_rfl) ((H5.keep hS (fun h => h)).loads (by kernel_rfl))) (d := (some 127)) (by kernel_rfl) rfl ?_
  refine Dr.takes (fuel' := 11) (is' := _) [10, 11, 12] [(4, (ptr b4)), (6, (ptr b6)), (13, (ptr b13)), (15, (ptr b15)), (130, (Value.bool (((x.1 : Nat) : Int) != ((kk : Nat) : Int))))] (by kernel_rfl) rfl (by kernel_rfl) ?_
  have h24 : (((x.1 : Nat) : Int) != ((kk : Nat) : Int)) = false := bne_f (by omega)
  rw [h24]
  refine Dr.take (i := 13) (v := (agg [(i64 x.2.kind), (Value.string (str x.2.frm)), (Value.string (str x.2.to)), (i64 x.2.amount), (Value.string (str x.2.key)), (i64 x.2.slot), (i64 x.2.shard)])) (by kernel_rfl) (by kernel_rfl) (fun wz hS => Runs.load (t := 23) (a := ⟨b15, 0, none⟩) (by kernel_rfl) ((H6.keep hS (fun h => h)).loads (by kernel_rfl))) (d := (some 131)) (by kernel_rfl) rfl ?_
  refine Dr.take (i := 14) (v := (ptr r)) (by kernel_rfl) (by kernel_rfl) (fun wz hS => Runs.load (t := 52) (a := ⟨b4, 0, none⟩) (by kernel_rfl) ((H3.keep hS (fun h => h)).loads (by kernel_rfl))) (d := (some 132)) (by kernel_rfl) rfl ?_
  refine Dr.takes (fuel' := 7) (is' := _) [15, 16] [(4, (ptr b4)), (6, (ptr b6)), (13, (ptr b13)), (130, (Value.bool false)), (131, (agg [(i64 x.2.kind), (Value.string (str x.2.frm)), (Value.string (str x.2.to)), (i64 x.2.amount), (Value.string (str x.2.key)), (i64 x.2.slot), (i64 x.2.shard)])), (134, (ptr r))] (by kernel_rfl) rfl (by kernel_rfl) ?_
  refine Dr.take (i := 17) (v := (Value.slice A2 l2.length c2)) (by kernel_rfl) (by kernel_rfl) (fun wz hS => Runs.load (t := 53) (a := ⟨r, 0, none⟩) (by kernel_rfl) ((H4.keep hS (fun h => h)).loads (by kernel_rfl))) (d := (some 135)) (by kernel_rfl) rfl ?_
  refine Dr.take (i := 18) (v := (i64 ((kk : Nat) : Int))) (by kernel_rfl) (by kernel_rfl) (fun wz hS => Runs.load (t := 3) (a := ⟨b13, 0, none⟩) (by kernel_rfl) ((H5.keep hS (fun h => h)).loads (by kernel_rfl))) (d := (some 136)) (by kernel_rfl) rfl ?_
  refine Dr.take (i := 19) (v := (Value.pointer (some ⟨rb11, ro12 + kk * 11, none⟩))) (by kernel_rfl) (by kernel_rfl) (fun wz hS => Runs.ixSliceE (k := IntKind.i64) (t := 53) (len := l2.length) (cap := c2) (s := 11) (off' := ro12 + kk * 11) (i := ((kk : Nat) : Int)) hA13 (by kernel_rfl) (by kernel_rfl) (by omega) (by omega) (by omega)) (d := (some 137)) (by kernel_rfl) rfl ?_
  refine Dr.takes (fuel' := 3) (is' := _) [20] [(4, (ptr b4)), (6, (ptr b6)), (13, (ptr b13)), (130, (Value.bool false)), (131, (agg [(i64 x.2.kind), (Value.string (str x.2.frm)), (Value.string (str x.2.to)), (i64 x.2.amount), (Value.string (str x.2.key)), (i64 x.2.slot), (i64 x.2.shard)])), (138, (Value.pointer (some ⟨rb11, ro12 + kk * 11, none⟩)))] (by kernel_rfl) rfl (by kernel_rfl) ?_
  refine Dr.take (i := 21) (v := (agg [(i64 y.op.kind), (Value.string (str y.op.frm)), (Value.string (str y.op.to)), (i64 y.op.amount), (Value.string (str y.op.key)), (i64 y.op.slot), (i64 y.op.shard)])) (by kernel_rfl) (by kernel_rfl) (fun wz hS => Runs.load (t := 23) (a := ⟨rb11, ro12 + kk * 11, none⟩) (by kernel_rfl) (RdT.ldp (f := DCall.cells) (x := y) (vs := [(i64 y.op.kind), (Value.string (str y.op.frm)), (Value.string (str y.op.to)), (i64 y.op.amount), (Value.string (str y.op.key)), (i64 y.op.slot), (i64 y.op.shard)]) DCall.two (Rd.keep0 (by decide) hV7 hS) (by kernel_rfl) (by kernel_rfl) hA13 hy rfl)) (d := (some 139)) (by kernel_rfl) rfl ?_
  refine Dr.take (i := 22) (v := (Value.bool (!(aggB [(i64 x.2.kind), (Value.string (str x.2.frm)), (Value.string (str x.2.to)), (i64 x.2.amount), (Value.string (str x.2.key)), (i64 x.2.slot), (i64 x.2.shard)] [(i64 y.op.kind), (Value.string (str y.op.frm)), (Value.string (str y.op.to)), (i64 y.op.amount), (Value.string (str y.op.key)), (i64 y.op.slot), (i64 y.op.shard)])))) (by kernel_rfl) (by kernel_rfl) (fun wz hS => Runs.aggne (t := 23) (by kernel_rfl) (by kernel_rfl)) (d := (some 140)) (by kernel_rfl) rfl ?_
  refine Dr.takes (fuel' := 0) (is' := _) [23] [(4, (ptr b4)), (6, (ptr b6)), (13, (ptr b13)), (141, (Value.bool (!(aggB [(i64 x.2.kind), (Value.string (str x.2.frm)), (Value.string (str x.2.to)), (i64 x.2.amount), (Value.string (str x.2.key)), (i64 x.2.slot), (i64 x.2.shard)] [(i64 y.op.kind), (Value.string (str y.op.frm)), (Value.string (str y.op.to)), (i64 y.op.amount), (Value.string (str y.op.key)), (i64 y.op.slot), (i64 y.op.shard)]))))] (by kernel_rfl) rfl (by kernel_rfl) ?_
  refine Dr.done (by kernel_rfl) ?_
  have h25 : (!(aggB [(i64 x.2.kind), (Value.string (str x.2.frm)), (Value.string (str x.2.to)), (i64 x.2.amount), (Value.string (str x.2.key)), (i64 x.2.slot), (i64 x.2.shard)] [(i64 y.op.kind), (Value.string (str y.op.frm)), (Value.string (str y.op.to)), (i64 y.op.amount), (Value.string (str y.op.key)), (i64 y.op.slot), (i64 y.op.shard)])) = false := by rw [hop]; simp [aggB, cellB]
  rw [h25]
  refine qr_else (o := .tmp 141) (by kernel_rfl) rfl ?_
  refine qr_skip (by kernel_rfl) ?_
  refine qr_region (Open.round ln) (by kernel_rfl) (by kernel_rfl) ?_
  refine Ops.go (v := (i64 ((kk : Nat) : Int))) (by kernel_rfl) (Runs.load (t := 3) (a := ⟨b13, 0, none⟩) (by kernel_rfl) (H5.loads (by kernel_rfl))) (d := (some 142)) (by kernel_rfl) rfl ?_
  refine og 1 [(4, (ptr b4)), (6, (ptr b6)), (13, (ptr b13)), (143, (i64 (IntKind.i64.wrap (((kk : Nat) : Int) + 1))))] 2 ?_
  have e26 : IntKind.i64.wrap (((kk : Nat) : Int) + 1) = ((kk + 1 : Nat) : Int) := by rw [wrap_i64 (by omega) (by omega)]; omega
  rw [e26]
  clear e26
  refine Ops.put (t := 3) (b := b13) (off := 0) (v := (i64 ((kk + 1 : Nat) : Int))) (ys := [(i64 ((kk + 1 : Nat) : Int))]) (by kernel_rfl) (by kernel_rfl) H5 (by kernel_rfl) (d := none) (by kernel_rfl) rfl (fun w27 H28 K29 => ?_)
  clear H5
  replace K2 := K2.t1 K29 (fun _ => rfl)
  replace H3 := H3.k1 K29 (by omega)
  replace H4 := H4.k1 K29 (by omega)
  replace H6 := H6.k1 K29 (by omega)
  replace hV7 := Rd.keep (by omega) hV7 K29 (fun i hi hs => by have hs : i = b13 := hs; have := hVb i hi; omega)
  clear K29
  refine od ?_
  exact ⟨rfl, K2, by have e := H28; rw [hkx] at e; exact e⟩
end Go.Proofs.Ytlnidnadpdpciaa
