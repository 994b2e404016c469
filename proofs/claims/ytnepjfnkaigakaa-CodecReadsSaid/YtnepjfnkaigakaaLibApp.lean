/- Slices that are read, slices that are one's own, and appending. -/
import Derived.Test.YtnepjfnkaigakaaQ7
set_option linter.unusedVariables false
namespace Go.Q
open Go.RowKit

/-- The slice value v reads as the cells xs, sz to an element. -/
def Rd (w : World) (sz : Nat) (v : Value) (xs : List Value) : Prop :=
  ∃ A n c, v = .slice A n c ∧ xs.length = n * sz ∧ n ≤ c ∧ c ≤ maxLen ∧ (0 < n → ∃ b off, A = some ⟨b, off, none⟩ ∧ ∀ j u, xs[j]? = some u → w.cell? ⟨b, off + j, none⟩ = some u)

theorem Rd.nil (w : World) (sz : Nat) : Rd w sz (.slice none 0 0) [] := ⟨none, 0, 0, rfl, by simp, Nat.le_refl _, Nat.zero_le _, fun h => absurd h (Nat.lt_irrefl 0)⟩

theorem Rd.keep {S : Nat → Prop} {w w' : World} {sz : Nat} {v : Value} {xs : List Value} (hsz : 0 < sz) (h : Rd w sz v xs) (k : Keeps S w w') (hS : ∀ b, v.ownBlock = some b → ¬ S b) : Rd w' sz v xs := by
  obtain ⟨A, n, c, rfl, hl, hc, hm, hcell⟩ := h
  refine ⟨A, n, c, rfl, hl, hc, hm, fun hn => ?_⟩
  obtain ⟨b, off, rfl, hx⟩ := hcell hn
  refine ⟨b, off, rfl, fun j u hu => k.cell (hx j u hu) ?_⟩
  exact hS b rfl

theorem Rd.keep0 {w w' : World} {sz : Nat} {v : Value} {xs : List Value} (hsz : 0 < sz) (h : Rd w sz v xs) (k : Keeps none_ w w') : Rd w' sz v xs := h.keep hsz k fun _ _ h => h

theorem Rd.of_own {w : World} {base : Nat} {e : TypeId} {sz n : Nat} {v : Value} {xs : List Value} (h : w.ownsRow base e sz v n xs) : Rd w sz v xs := by
  have hl := h.1
  rcases h.2 with ⟨rfl, rfl⟩ | ⟨g, cap, cur, rfl, hb, hg, hn, hm, hs, ht⟩
  · exact ⟨none, 0, 0, rfl, hl, Nat.le_refl _, Nat.zero_le _, fun h => absurd h (Nat.lt_irrefl 0)⟩
  · refine ⟨_, n, cap, rfl, hl, hn, hm, fun _ => ⟨g, 0, rfl, fun j u hu => ?_⟩⟩
    have := h.cells (g := g) rfl j u hu
    rw [add_plain] at this
    exact this

theorem Rd.lit {w : World} {b : Nat} {xs : List Value} {E : TypeId} {n sz : Nat} (h : Has w b (rowL xs E)) (hl : xs.length = n * sz) (hm : n ≤ maxLen) : Rd w sz (.slice (some ⟨b, 0, none⟩) n n) xs :=
  ⟨_, n, n, rfl, hl, Nat.le_refl _, hm, fun _ => ⟨b, 0, rfl, fun j u hu => by rw [Nat.zero_add, h.cell]; exact hu⟩⟩

/-- An own row's slice whose block is none of the old ones. -/
abbrev Own (w : World) (base : Nat) (e : TypeId) (sz : Nat) (v : Value) (n : Nat) (xs : List Value) : Prop := w.ownsRow base e sz v n xs

theorem own_keep {w w' : World} {S : Nat → Prop} {base : Nat} {e : TypeId} {sz n : Nat} {v : Value} {xs : List Value} (h : w.ownsRow base e sz v n xs) (k : Keeps S w w') (hS : ∀ b, v.ownBlock = some b → ¬ S b) : w'.ownsRow base e sz v n xs := by
  refine ⟨h.1, ?_⟩
  rcases h.2 with hn | ⟨g, cap, cur, rfl, hb, hgg, rest⟩
  · exact .inl hn
  · refine .inr ⟨g, cap, cur, rfl, hb, ?_, rest⟩
    rw [k.blk g (Array.getElem?_eq_some_iff.1 hgg).1 (hS g rfl)]
    exact hgg

theorem own_keep0 {w w' : World} {base : Nat} {e : TypeId} {sz n : Nat} {v : Value} {xs : List Value} (h : w.ownsRow base e sz v n xs) (k : Keeps none_ w w') : w'.ownsRow base e sz v n xs := own_keep h k fun _ _ h => h

theorem own_base {w : World} {base base' : Nat} {e : TypeId} {sz n : Nat} {v : Value} {xs : List Value} (h : w.ownsRow base e sz v n xs) (hb : base' ≤ base) : w.ownsRow base' e sz v n xs := by
  refine ⟨h.1, ?_⟩
  rcases h.2 with hn | ⟨g, cap, cur, rfl, hb', rest⟩
  · exact .inl hn
  · exact .inr ⟨g, cap, cur, rfl, Nat.le_trans hb hb', rest⟩

/-- What a type table tells of an element's type. -/
structure ElemTy (P : Program) (t e : TypeId) (sz bytes : Nat) : Prop where
  slice : P.underlying t = some (.slice e)
  info : ∃ i z, P.info? e = some i ∧ i.zero = some z ∧ i.size = sz ∧ i.bytes = bytes ∧ z.cells.size = sz
  pos : 0 < sz

def elemTy? (P : Program) (t : TypeId) : Option (Nat × Nat × Nat) :=
  match P.underlying t with
  | some (.slice e) => match P.info? e with
    | some i => match i.zero with
      | some z => bif Nat.beq z.cells.toList.length i.size && Nat.blt 0 i.size then some (e, i.size, i.bytes) else none
      | none => none
    | none => none
  | _ => none

theorem elemTy {P : Program} {t e sz bytes : Nat} (h : elemTy? P t = some (e, sz, bytes)) : ElemTy P t e sz bytes := by
  unfold elemTy? at h
  cases hu : P.underlying t with
  | none => rw [hu] at h; cases h
  | some d =>
    rw [hu] at h
    cases d with
    | slice e' =>
      simp only at h
      cases hi : P.info? e' with
      | none => rw [hi] at h; cases h
      | some i =>
        rw [hi] at h
        simp only at h
        cases hz : i.zero with
        | none => rw [hz] at h; cases h
        | some z =>
          rw [hz] at h
          simp only at h
          cases hb : (Nat.beq z.cells.toList.length i.size && Nat.blt 0 i.size) with
          | false => rw [hb] at h; cases h
          | true =>
            rw [hb] at h
            simp only [cond_true, Option.some.injEq, Prod.mk.injEq] at h
            obtain ⟨rfl, rfl, rfl⟩ := h
            simp only [Bool.and_eq_true] at hb
            have h1 := Nat.eq_of_beq_eq_true hb.1
            have h2 : 0 < i.size := by simpa [Nat.blt_eq] using hb.2
            exact ⟨hu, ⟨i, z, hi, hz, rfl, rfl, by simpa using h1⟩, h2⟩
    | _ => cases h

section
variable {P : Program} {w : World} {t ty e sz bytes base n : Nat} {v : Value} {xs ys : List Value}

theorem app_nil_src (T : ElemTy P t e sz bytes) (hown : w.ownsRow base e sz v n xs) (c : Nat) (A : Option Addr) : (Builtin.append_ #[t, t] ty #[v, .slice A 0 c]).run P w = .ok v w := by
  obtain ⟨i, z, hi, _, hs, _⟩ := T.info
  have hf : ∀ w, (Builtin.firstCells i.size 0 (.slice A 0 c)).run P w = .ok #[] w := by
    intro w
    cases A with
    | none => simp [Builtin.firstCells]
    | some a => simp [Builtin.firstCells, loadCells, loadCellsFrom]
  rcases hown.2 with ⟨rfl, rfl⟩ | ⟨g, cap, cur, rfl, _, _, hnc, _⟩
  · simp [Builtin.append_, run_underlying T.slice, sizeOf, typeInfo, hi, Builtin.lenOf, hf]
  · simp [Builtin.append_, run_underlying T.slice, sizeOf, typeInfo, hi, Builtin.lenOf, hnc, storeCells, hf]

/-- append onto an own row, of a slice that is read. -/
theorem app_own (T : ElemTy P t e sz bytes) (hown : w.ownsRow base e sz v n xs) {x : Value} {m : Nat} (hx : Rd w sz x ys) (hm : ys.length = m * sz) (h1 : oneCells ys = true)
    (hb : (n + m) * bytes ≤ 140737488355328) (hl : n + m ≤ maxLen) (hbase : base ≤ w.heap.size) :
    ∃ v' w', (Builtin.append_ #[t, t] ty #[v, x]).run P w = .ok v' w' ∧ w'.ownsRow base e sz v' (n + m) (xs ++ ys) ∧ Keeps (fun i => base ≤ i) w w' := by
  obtain ⟨A, k, c, rfl, hk, hkc, hcm, hc⟩ := hx
  obtain ⟨i, z, hi, hz, hs, hby, hzs⟩ := T.info
  have hmk : m = k := Nat.eq_of_mul_eq_mul_right T.pos (hm.symm.trans hk)
  subst hmk
  rcases Nat.eq_zero_or_pos m with h0 | h0
  · subst h0
    have : ys = [] := List.eq_nil_of_length_eq_zero (by simpa using hm)
    subst this
    exact ⟨v, w, app_nil_src T hown c A, by simpa using hown, (Keeps.refl w).mono fun _ _ h => h.elim⟩
  · obtain ⟨b, off, rfl, hcell⟩ := hc h0
    obtain ⟨v', w', hr, ho, hg, _⟩ := run_append_own (P := P) w base t ty e i z sz bytes T.slice hi hz hs hby hzs T.pos v n xs hown ⟨b, off, none⟩ m c ys hm (fun j u hu => by rw [add_plain]; exact hcell j u hu) (oneCells_mem h1) hl hb hbase
    refine ⟨v', w', hr, ho, (Keeps.of_grown hg).mono fun j hj hS => ?_⟩
    exact (hown.lt j hS.symm).1

/-- append onto a slice without room, of a slice that is read and not empty: a new row. -/
theorem app_clip (T : ElemTy P t e sz bytes) {A : Option Addr} (hv : Rd w sz (.slice A n n) xs) {x : Value} {m : Nat} (hx : Rd w sz x ys) (hm : ys.length = m * sz) (h0 : 0 < m)
    (hb : (n + m) * bytes ≤ 140737488355328) (hl : n + m ≤ maxLen) :
    ∃ v' w', (Builtin.append_ #[t, t] ty #[.slice A n n, x]).run P w = .ok v' w' ∧ w'.ownsRow w.heap.size e sz v' (n + m) (xs ++ ys) ∧ Keeps none_ w w' := by
  obtain ⟨A', k, c, rfl, hk, hkc, hcm, hc⟩ := hx
  obtain ⟨i, z, hi, hz, hs, hby, hzs⟩ := T.info
  have hmk : m = k := Nat.eq_of_mul_eq_mul_right T.pos (hm.symm.trans hk)
  subst hmk
  obtain ⟨b, off, rfl, hcell⟩ := hc h0
  have hcell' : ∀ j u, ys[j]? = some u → w.cell? ((⟨b, off, none⟩ : Addr).add j) = some u := fun j u hu => by rw [add_plain]; exact hcell j u hu
  obtain ⟨A2, n2, c2, he, hxl, _, _, hvc⟩ := hv
  injection he with he1 he2 he3
  subst he1; subst he2; subst he3
  have hbig : n + m ≤ 9223372036854775807 := by simp only [maxLen] at hl; omega
  subst hs
  subst hby
  have own : ∀ old, (w.drew.alloc (.cells (xs.toArray ++ ys.toArray ++ Builtin.zeroCells z.cells (grownCap w (n + m) old e - (n + m))) e)).ownsRow w.heap.size e i.size
        (.slice (some ⟨w.heap.size, 0, none⟩) (n + m) (grownCap w (n + m) old e)) (n + m) (xs ++ ys) := by
    intro old
    have hge := grownCap_ge w (n + m) old e
    have hcm := grownCap_le_maxLen w (n + m) old e hl
    refine ⟨by rw [List.length_append, hxl, hm, Nat.add_mul], .inr ⟨w.heap.size, _, _, rfl, Nat.le_refl _, heap_alloc_new w.drew _, hge, hcm, ?_, ?_⟩⟩
    · simp only [Array.size_append, List.size_toArray, size_zeroCells, hzs, hxl, hm, ← Nat.add_mul]
      congr 1
      omega
    · have hlen : (xs ++ ys).length = (n + m) * i.size := by rw [List.length_append, hxl, hm, Nat.add_mul]
      simp only [Array.toList_append, List.append_assoc]
      rw [← List.append_assoc, ← hlen]
      exact List.take_left
  have kp : ∀ o, Keeps none_ w (w.drew.alloc o) := fun o => ⟨rfl, rfl, rfl, by simp, fun k hk _ => heap_alloc_old w.drew o k hk⟩
  rcases Nat.eq_zero_or_pos n with hn | hn
  · subst hn
    have hxs : xs = [] := List.eq_nil_of_length_eq_zero (by simpa using hxl)
    subst hxs
    have key : (Builtin.append_ #[t, t] ty #[.slice A 0 0, .slice (some ⟨b, off, none⟩) m c]).run P w = .ok (.slice (some ⟨w.heap.size, 0, none⟩) (0 + m) (grownCap w (0 + m) 0 e)) (w.drew.alloc (.cells ([].toArray ++ ys.toArray ++ Builtin.zeroCells z.cells (grownCap w (0 + m) 0 e - (0 + m))) e)) := by
      have hm0 : m ≠ 0 := by omega
      have h63' : ¬ (9223372036854775807 < (m : Int)) := by omega
      have h48' : ¬ (281474976710656 < Builtin.nextslicecap m 0 * i.bytes) := by rw [nextslicecap_zero h0]; simp only [Nat.zero_add] at hb; omega
      have hf := run_firstCells_some (P := P) w.drew i.size m ⟨b, off, none⟩ m c ys hm (by simpa using hcell')
      have hf0 : ∀ w, (Builtin.firstCells i.size 0 (.slice A 0 0)).run P w = .ok #[] w := by
        intro w
        cases A with
        | none => simp [Builtin.firstCells]
        | some a => simp [Builtin.firstCells, loadCells, loadCellsFrom]
      simp [Builtin.append_, run_underlying T.slice, sizeOf, typeInfo, zeroValue, hi, hz, Builtin.lenOf, hm0, h63', h48', Question.forced, hf0, hf, newRow, grownCap]
    exact ⟨_, _, key, own 0, kp _⟩
  · obtain ⟨b2, off2, rfl, hc2⟩ := hvc hn
    have hr := run_append_grow (P := P) w t ty e i z T.slice hi hz ⟨b2, off2, none⟩ n n xs hxl (fun j u hu => by rw [add_plain]; exact hc2 j u hu) ⟨b, off, none⟩ m c ys hm hcell' (by omega) (by omega) (growslice_fits (by omega) hb)
    exact ⟨_, _, hr, own n, kp _⟩
end

def bi? (L : Loc) (o : Oper) : Option (Builtin × Array TypeId × TypeId × List Value) :=
  match o.op with
  | .call c => match c.callee with
    | .builtin b => some (b, c.argTypes, o.type, c.args.toList.map (ev L))
    | _ => none
  | _ => none

theorem Runs.append {P : Program} {L : Loc} {o : Oper} {w w' : World} {ts : Array TypeId} {ty : TypeId} {vs : List Value} {v' : Value} (h : bi? L o = some (.append, ts, ty, vs)) (hr : (Builtin.append_ ts ty ⟨vs⟩).run P w = .ok v' w') : Runs P L o w v' w' := by
  unfold bi? at h
  cases ho : o.op with
  | call c =>
    rw [ho] at h
    simp only at h
    cases hc : c.callee with
    | builtin b =>
      rw [hc] at h
      simp only [Option.some.injEq, Prod.mk.injEq] at h
      obtain ⟨rfl, rfl, rfl, rfl⟩ := h
      unfold Runs execOp
      have he : c.args.map (ev L) = ⟨c.args.toList.map (ev L)⟩ := by
        apply Array.ext'; simp
      simp only [ho, resolve, hc, Sem.run_bind, Sem.run_pure, Result.andThen_ok, invoke, builtin]
      rw [he, hr]
      rfl
    | _ => rw [hc] at h; cases h
  | _ => rw [ho] at h; cases h

end Go.Q
