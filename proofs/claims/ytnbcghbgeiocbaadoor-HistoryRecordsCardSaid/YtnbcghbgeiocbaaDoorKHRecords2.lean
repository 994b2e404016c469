/- What the claim stands on, part 2: rules of the walk, contracts of the functions, plain laws. -/
import Derived.Test.YtnbcghbgeiocbaaDoorKHRecords1
import Derived.Laws.BytesString
import Derived.Laws.StructEq
import Derived.Scope
set_option linter.unusedVariables false
namespace Go.Q
open Go.RowKit
def Rd (w : World) (sz : Nat) (v : Value) (xs : List Value) : Prop :=
 ∃ A n c, v = .slice A n c ∧ xs.length = n * sz ∧ n ≤ c ∧ c ≤ maxLen ∧ (0 < n → ∃ b off, A = some ⟨b, off, none⟩ ∧ ∀ j u, xs[j]? = some u → w.cell? ⟨b, off + j, none⟩ = some u)
theorem Rd.nil (w : World) (sz : Nat) : Rd w sz (.slice none 0 0) [] := ⟨none, 0, 0, rfl, by simp, Nat.le_refl _, Nat.zero_le _, fun h => absurd h (Nat.lt_irrefl 0)⟩
theorem Rd.keep {S : Nat → Prop} {w w' : World} {sz : Nat} {v : Value} {xs : List Value} (hsz : 0 < sz) (h : Rd w sz v xs) (k : Keeps S w w') (hS : ∀ b, v.ownBlock = some b → ¬ S b) : Rd w' sz v xs := by
 obtain ⟨A, n, c, rfl, hl, hc, hm, hcell⟩ := h
 refine ⟨A, n, c, rfl, hl, hc, hm, fun hn => ?_⟩
 obtain ⟨b, off, rfl, hx⟩ := hcell hn
 refine ⟨b, off, rfl, fun j u hu => k.cell (hx j u hu) ?_⟩
 exact hS b rfl
theorem Rd.keep0 {w w' : World} {sz : Nat} {v : Value} {xs : List Value} (hsz : 0 < sz) (h : Rd w sz v xs) (k : Keeps none_ w w') : Rd w' sz v xs := h.keep hsz k fun _ _ h => h
theorem Rd.of_own {w : World} {base : Nat} {e : TypeId} {sz n : Nat} {v : Value} {xs : List Value} (h : w.ownsRow base e sz v n xs) : Rd w sz v xs := by
 have hl := h.1
 rcases h.2 with ⟨rfl, rfl⟩ | ⟨g, cap, cur, rfl, hb, hg, hn, hm, hs, ht⟩
 ·exact ⟨none, 0, 0, rfl, hl, Nat.le_refl _, Nat.zero_le _, fun h => absurd h (Nat.lt_irrefl 0)⟩
 ·refine ⟨_, n, cap, rfl, hl, hn, hm, fun _ => ⟨g, 0, rfl, fun j u hu => ?_⟩⟩
  have := h.cells (g := g) rfl j u hu
  rw [add_plain] at this
  exact this
theorem Rd.lit {w : World} {b : Nat} {xs : List Value} {E : TypeId} {n sz : Nat} (h : Has w b (rowL xs E)) (hl : xs.length = n * sz) (hm : n ≤ maxLen) : Rd w sz (.slice (some ⟨b, 0, none⟩) n n) xs :=
 ⟨_, n, n, rfl, hl, Nat.le_refl _, hm, fun _ => ⟨b, 0, rfl, fun j u hu => by rw [Nat.zero_add, h.cell]; exact hu⟩⟩
abbrev Own (w : World) (base : Nat) (e : TypeId) (sz : Nat) (v : Value) (n : Nat) (xs : List Value) : Prop := w.ownsRow base e sz v n xs
theorem own_keep {w w' : World} {S : Nat → Prop} {base : Nat} {e : TypeId} {sz n : Nat} {v : Value} {xs : List Value} (h : w.ownsRow base e sz v n xs) (k : Keeps S w w') (hS : ∀ b, v.ownBlock = some b → ¬ S b) : w'.ownsRow base e sz v n xs := by
 refine ⟨h.1, ?_⟩
 rcases h.2 with hn | ⟨g, cap, cur, rfl, hb, hgg, rest⟩
 ·exact .inl hn
 ·refine .inr ⟨g, cap, cur, rfl, hb, ?_, rest⟩
  rw [k.blk g (Array.getElem?_eq_some_iff.1 hgg).1 (hS g rfl)]
  exact hgg
theorem own_keep0 {w w' : World} {base : Nat} {e : TypeId} {sz n : Nat} {v : Value} {xs : List Value} (h : w.ownsRow base e sz v n xs) (k : Keeps none_ w w') : w'.ownsRow base e sz v n xs := own_keep h k fun _ _ h => h
theorem own_base {w : World} {base base' : Nat} {e : TypeId} {sz n : Nat} {v : Value} {xs : List Value} (h : w.ownsRow base e sz v n xs) (hb : base' ≤ base) : w.ownsRow base' e sz v n xs := by
 refine ⟨h.1, ?_⟩
 rcases h.2 with hn | ⟨g, cap, cur, rfl, hb', rest⟩
 ·exact .inl hn
 ·exact .inr ⟨g, cap, cur, rfl, Nat.le_trans hb hb', rest⟩
structure ElemTy (P : Program) (t e : TypeId) (sz bytes : Nat) : Prop where
 slice : P.underlying t = some (.slice e)
 info : ∃ i z, P.info? e = some i ∧ i.zero = some z ∧ i.size = sz ∧ i.bytes = bytes ∧ z.cells.size = sz
 pos : 0 < sz
def elemTy? (P : Program) (t : TypeId) : Option (Nat × Nat × Nat) :=
 match P.underlying t with
 | some (.slice e) => match P.info? e with
  | some i => match i.zero with
   | some z => bif Nat.beq z.cells.toList.length i.size && Nat.blt 0 i.size then some (e, i.size, i.bytes) else none
   | none => none
  | none => none
 | _ => none
theorem elemTy {P : Program} {t e sz bytes : Nat} (h : elemTy? P t = some (e, sz, bytes)) : ElemTy P t e sz bytes := by
 unfold elemTy? at h
 cases hu : P.underlying t with
 | none => rw [hu] at h; cases h
 | some d =>
  rw [hu] at h
  cases d with
  | slice e' =>
   simp only at h
   cases hi : P.info? e' with
   | none => rw [hi] at h; cases h
   | some i =>
    rw [hi] at h
    simp only at h
    cases hz : i.zero with
    | none => rw [hz] at h; cases h
    | some z =>
     rw [hz] at h
     simp only at h
     cases hb : (Nat.beq z.cells.toList.length i.size && Nat.blt 0 i.size) with
     | false => rw [hb] at h; cases h
     | true =>
      rw [hb] at h
      simp only [cond_true, Option.some.injEq, Prod.mk.injEq] at h
      obtain ⟨rfl, rfl, rfl⟩ := h
      simp only [Bool.and_eq_true] at hb
      have h1 := Nat.eq_of_beq_eq_true hb.1
      have h2 : 0 < i.size := by simpa [Nat.blt_eq] using hb.2
      exact ⟨hu, ⟨i, z, hi, hz, rfl, rfl, by simpa using h1⟩, h2⟩
  | _ => cases h
section
variable {P : Program} {w : World} {t ty e sz bytes base n : Nat} {v : Value} {xs ys : List Value}
theorem app_nil_src (T : ElemTy P t e sz bytes) (hown : w.ownsRow base e sz v n xs) (c : Nat) (A : Option Addr) : (Builtin.append_ #[t, t] ty #[v, .slice A 0 c]).run P w = .ok v w := by
 obtain ⟨i, z, hi, _, hs, _⟩ := T.info
 have hf : ∀ w, (Builtin.firstCells i.size 0 (.slice A 0 c)).run P w = .ok #[] w := by
  intro w
  cases A with
  | none => simp [Builtin.firstCells]
  | some a => simp [Builtin.firstCells, loadCells, loadCellsFrom]
 rcases hown.2 with ⟨rfl, rfl⟩ | ⟨g, cap, cur, rfl, _, _, hnc, _⟩
 ·simp [Builtin.append_, run_underlying T.slice, sizeOf, typeInfo, hi, Builtin.lenOf, hf]
 ·simp [Builtin.append_, run_underlying T.slice, sizeOf, typeInfo, hi, Builtin.lenOf, hnc, storeCells, hf]
theorem app_own (T : ElemTy P t e sz bytes) (hown : w.ownsRow base e sz v n xs) {x : Value} {m : Nat} (hx : Rd w sz x ys) (hm : ys.length = m * sz) (h1 : oneCells ys = true)
  (hb : (n + m) * bytes ≤ 140737488355328) (hl : n + m ≤ maxLen) (hbase : base ≤ w.heap.size) :
  ∃ v' w', (Builtin.append_ #[t, t] ty #[v, x]).run P w = .ok v' w' ∧ w'.ownsRow base e sz v' (n + m) (xs ++ ys) ∧ Keeps (fun i => base ≤ i) w w' := by
 obtain ⟨A, k, c, rfl, hk, hkc, hcm, hc⟩ := hx
 obtain ⟨i, z, hi, hz, hs, hby, hzs⟩ := T.info
 have hmk : m = k := Nat.eq_of_mul_eq_mul_right T.pos (hm.symm.trans hk)
 subst hmk
 rcases Nat.eq_zero_or_pos m with h0 | h0
 ·subst h0
  have : ys = [] := List.eq_nil_of_length_eq_zero (by simpa using hm)
  subst this
  exact ⟨v, w, app_nil_src T hown c A, by simpa using hown, (Keeps.refl w).mono fun _ _ h => h.elim⟩
 ·obtain ⟨b, off, rfl, hcell⟩ := hc h0
  obtain ⟨v', w', hr, ho, hg, _⟩ := run_append_own (P := P) w base t ty e i z sz bytes T.slice hi hz hs hby hzs T.pos v n xs hown ⟨b, off, none⟩ m c ys hm (fun j u hu => by rw [add_plain]; exact hcell j u hu) (oneCells_mem h1) hl hb hbase
  refine ⟨v', w', hr, ho, (Keeps.of_grown hg).mono fun j hj hS => ?_⟩
  exact (hown.lt j hS.symm).1
theorem app_clip (T : ElemTy P t e sz bytes) {A : Option Addr} (hv : Rd w sz (.slice A n n) xs) {x : Value} {m : Nat} (hx : Rd w sz x ys) (hm : ys.length = m * sz) (h0 : 0 < m)
  (hb : (n + m) * bytes ≤ 140737488355328) (hl : n + m ≤ maxLen) :
  ∃ v' w', (Builtin.append_ #[t, t] ty #[.slice A n n, x]).run P w = .ok v' w' ∧ w'.ownsRow w.heap.size e sz v' (n + m) (xs ++ ys) ∧ Keeps none_ w w' := by
 obtain ⟨A', k, c, rfl, hk, hkc, hcm, hc⟩ := hx
 obtain ⟨i, z, hi, hz, hs, hby, hzs⟩ := T.info
 have hmk : m = k := Nat.eq_of_mul_eq_mul_right T.pos (hm.symm.trans hk)
 subst hmk
 obtain ⟨b, off, rfl, hcell⟩ := hc h0
 have hcell' : ∀ j u, ys[j]? = some u → w.cell? ((⟨b, off, none⟩ : Addr).add j) = some u := fun j u hu => by rw [add_plain]; exact hcell j u hu
 obtain ⟨A2, n2, c2, he, hxl, _, _, hvc⟩ := hv
 injection he with he1 he2 he3
 subst he1; subst he2; subst he3
 have hbig : n + m ≤ 9223372036854775807 := by simp only [maxLen] at hl; omega
 subst hs
 subst hby
 have own : ∀ old, (w.drew.alloc (.cells (xs.toArray ++ ys.toArray ++ Builtin.zeroCells z.cells (grownCap w (n + m) old e - (n + m))) e)).ownsRow w.heap.size e i.size
    (.slice (some ⟨w.heap.size, 0, none⟩) (n + m) (grownCap w (n + m) old e)) (n + m) (xs ++ ys) := by
  intro old
  have hge := grownCap_ge w (n + m) old e
  have hcm := grownCap_le_maxLen w (n + m) old e hl
  refine ⟨by rw [List.length_append, hxl, hm, Nat.add_mul], .inr ⟨w.heap.size, _, _, rfl, Nat.le_refl _, heap_alloc_new w.drew _, hge, hcm, ?_, ?_⟩⟩
  ·simp only [Array.size_append, List.size_toArray, size_zeroCells, hzs, hxl, hm, ← Nat.add_mul]
   congr 1
   omega
  ·have hlen : (xs ++ ys).length = (n + m) * i.size := by rw [List.length_append, hxl, hm, Nat.add_mul]
   simp only [Array.toList_append, List.append_assoc]
   rw [← List.append_assoc, ← hlen]
   exact List.take_left
 have kp : ∀ o, Keeps none_ w (w.drew.alloc o) := fun o => ⟨rfl, rfl, rfl, by simp, fun k hk _ => heap_alloc_old w.drew o k hk⟩
 rcases Nat.eq_zero_or_pos n with hn | hn
 ·subst hn
  have hxs : xs = [] := List.eq_nil_of_length_eq_zero (by simpa using hxl)
  subst hxs
  have key : (Builtin.append_ #[t, t] ty #[.slice A 0 0, .slice (some ⟨b, off, none⟩) m c]).run P w = .ok (.slice (some ⟨w.heap.size, 0, none⟩) (0 + m) (grownCap w (0 + m) 0 e)) (w.drew.alloc (.cells ([].toArray ++ ys.toArray ++ Builtin.zeroCells z.cells (grownCap w (0 + m) 0 e - (0 + m))) e)) := by
   have hm0 : m ≠ 0 := by omega
   have h63' : ¬ (9223372036854775807 < (m : Int)) := by omega
   have h48' : ¬ (281474976710656 < Builtin.nextslicecap m 0 * i.bytes) := by rw [nextslicecap_zero h0]; simp only [Nat.zero_add] at hb; omega
   have hf := run_firstCells_some (P := P) w.drew i.size m ⟨b, off, none⟩ m c ys hm (by simpa using hcell')
   have hf0 : ∀ w, (Builtin.firstCells i.size 0 (.slice A 0 0)).run P w = .ok #[] w := by
    intro w
    cases A with
    | none => simp [Builtin.firstCells]
    | some a => simp [Builtin.firstCells, loadCells, loadCellsFrom]
   simp [Builtin.append_, run_underlying T.slice, sizeOf, typeInfo, zeroValue, hi, hz, Builtin.lenOf, hm0, h63', h48', Question.forced, hf0, hf, newRow, grownCap]
  exact ⟨_, _, key, own 0, kp _⟩
 ·obtain ⟨b2, off2, rfl, hc2⟩ := hvc hn
  have hr := run_append_grow (P := P) w t ty e i z T.slice hi hz ⟨b2, off2, none⟩ n n xs hxl (fun j u hu => by rw [add_plain]; exact hc2 j u hu) ⟨b, off, none⟩ m c ys hm hcell' (by omega) (by omega) (growslice_fits (by omega) hb)
  exact ⟨_, _, hr, own n, kp _⟩
end
def bi? (L : Loc) (o : Oper) : Option (Builtin × Array TypeId × TypeId × List Value) :=
 match o.op with
 | .call c => match c.callee with
  | .builtin b => some (b, c.argTypes, o.type, c.args.toList.map (ev L))
  | _ => none
 | _ => none
theorem Runs.append {P : Program} {L : Loc} {o : Oper} {w w' : World} {ts : Array TypeId} {ty : TypeId} {vs : List Value} {v' : Value} (h : bi? L o = some (.append, ts, ty, vs)) (hr : (Builtin.append_ ts ty ⟨vs⟩).run P w = .ok v' w') : Runs P L o w v' w' := by
 unfold bi? at h
 cases ho : o.op with
 | call c =>
  rw [ho] at h
  simp only at h
  cases hc : c.callee with
  | builtin b =>
   rw [hc] at h
   simp only [Option.some.injEq, Prod.mk.injEq] at h
   obtain ⟨rfl, rfl, rfl, rfl⟩ := h
   unfold Runs execOp
   have he : c.args.map (ev L) = ⟨c.args.toList.map (ev L)⟩ := by
    apply Array.ext'; simp
   simp only [ho, resolve, hc, Sem.run_bind, Sem.run_pure, Result.andThen_ok, invoke, builtin]
   rw [he, hr]
   rfl
  | _ => rw [hc] at h; cases h
 | _ => rw [ho] at h; cases h
end Go.Q
namespace Go.Q
open Go.RowKit
def bv (xs : List UInt8) : List Value := xs.map fun c => Value.int IntKind.u8 (c.toNat : Int)
theorem bv_length (xs : List UInt8) : (bv xs).length = xs.length := by simp [bv]
theorem bv_append (xs ys : List UInt8) : bv (xs ++ ys) = bv xs ++ bv ys := by simp [bv]
theorem bv_one (xs : List UInt8) : oneCells (bv xs) = true := by
 induction xs with
 | nil => rfl
 | cons x xs ih => simpa [bv, oneCells, Value.oneCell'] using ih
abbrev byte (n : Nat) : UInt8 := UInt8.ofNat n
theorem byte_toNat (n : Nat) (h : n < 256) : (byte n).toNat = n := by simp [byte]; omega
def uv (n : Nat) : List UInt8 := if n < 128 then [byte n] else byte (n % 128 + 128) :: uv (n / 128)
termination_by n
decreasing_by omega
theorem uv_lt {n : Nat} (h : n < 128) : uv n = [byte n] := by rw [uv, if_pos h]
theorem uv_ge {n : Nat} (h : 128 ≤ n) : uv n = byte (n % 128 + 128) :: uv (n / 128) := by rw [uv, if_neg (by omega)]
def zz (n : Int) : Nat := if n < 0 then (2 * (-(n + 1)) + 1).toNat else (2 * n).toNat
def iv (n : Int) : List UInt8 := uv (zz n)
abbrev RdB (w : World) (v : Value) (xs : List UInt8) : Prop := Rd w 1 v (bv xs)
abbrev OwnB (w : World) (base : Nat) (e : TypeId) (v : Value) (xs : List UInt8) : Prop := w.ownsRow base e 1 v xs.length (bv xs)
theorem OwnB.rd {w : World} {base e : Nat} {v : Value} {xs : List UInt8} (h : OwnB w base e v xs) : RdB w v xs := Rd.of_own h
theorem RdB.lit {w : World} {b : Nat} {xs : List UInt8} {E : TypeId} (h : Has w b (rowL (bv xs) E)) (hm : xs.length ≤ maxLen) : RdB w (.slice (some ⟨b, 0, none⟩) xs.length xs.length) xs :=
 Rd.lit h (by simp [bv_length]) hm
theorem RdB.slice {w : World} {A : Option Addr} {n c : Nat} {xs : List UInt8} (h : RdB w (.slice A n c) xs) : xs.length = n ∧ n ≤ c ∧ c ≤ maxLen := by
 obtain ⟨A', n', c', he, hl, hc, hm, _⟩ := h
 injection he with _ h2 h3
 subst h2; subst h3
 exact ⟨by simpa [bv_length] using hl, hc, hm⟩
theorem RdB.form {w : World} {v : Value} {xs : List UInt8} (h : RdB w v xs) : ∃ A c, v = .slice A xs.length c := by
 obtain ⟨A, n, c, rfl, hl, _⟩ := h
 exact ⟨A, c, by rw [show xs.length = n by simpa [bv_length] using hl]⟩
def Wr (w : World) (base : Nat) (e : TypeId) (v : Value) (xs : List UInt8) : Prop := (∃ A, v = .slice A xs.length xs.length ∧ RdB w v xs) ∨ OwnB w base e v xs
theorem Wr.nil (w : World) (base : Nat) (e : TypeId) : Wr w base e (.slice none 0 0) [] := .inl ⟨none, rfl, Rd.nil w 1⟩
theorem Wr.rd {w : World} {base e : Nat} {v : Value} {xs : List UInt8} (h : Wr w base e v xs) : RdB w v xs := by
 rcases h with ⟨A, rfl, h⟩ | h
 ·exact h
 ·exact h.rd
theorem Wr.keep0 {w w' : World} {base e : Nat} {v : Value} {xs : List UInt8} (h : Wr w base e v xs) (k : Keeps none_ w w') : Wr w' base e v xs := by
 rcases h with ⟨A, rfl, h⟩ | h
 ·exact .inl ⟨A, rfl, h.keep0 (by omega) k⟩
 ·exact .inr (own_keep0 h k)
theorem Wr.app {P : Program} {w : World} {t ty e base : Nat} {v x : Value} {xs ys : List UInt8} (T : ElemTy P t e 1 1) (h : Wr w base e v xs) (hx : RdB w x ys) (h0 : 0 < ys.length) (hl : xs.length + ys.length ≤ 140737488355328) (hbase : base ≤ w.heap.size) :
  ∃ v' w', (Builtin.append_ #[t, t] ty #[v, x]).run P w = .ok v' w' ∧ OwnB w' base e v' (xs ++ ys) ∧ Keeps (fun i => base ≤ i) w w' := by
 have hm : xs.length + ys.length ≤ maxLen := by simp only [maxLen]; omega
 rcases h with ⟨A, rfl, h⟩ | h
 ·obtain ⟨v', w', hr, ho, hk⟩ := app_clip (ty := ty) T h hx (m := ys.length) (by simp [bv_length]) h0 (by omega) hm
  refine ⟨v', w', hr, ?_, hk.mono fun _ _ h => h.elim⟩
  unfold OwnB
  rw [List.length_append, bv_append]
  exact own_base ho hbase
 ·obtain ⟨v', w', hr, ho, hk⟩ := app_own (ty := ty) T h hx (m := ys.length) (by simp [bv_length]) (bv_one ys) (by omega) hm hbase
  refine ⟨v', w', hr, ?_, hk⟩
  unfold OwnB
  rw [List.length_append, bv_append]
  exact ho
theorem OwnB.app {P : Program} {w : World} {t ty e base : Nat} {v x : Value} {xs ys : List UInt8} (T : ElemTy P t e 1 1) (h : OwnB w base e v xs) (hx : RdB w x ys) (hl : xs.length + ys.length ≤ 140737488355328) (hbase : base ≤ w.heap.size) :
  ∃ v' w', (Builtin.append_ #[t, t] ty #[v, x]).run P w = .ok v' w' ∧ OwnB w' base e v' (xs ++ ys) ∧ Keeps (fun i => base ≤ i) w w' := by
 have hm : xs.length + ys.length ≤ maxLen := by simp only [maxLen]; omega
 obtain ⟨v', w', hr, ho, hk⟩ := app_own (ty := ty) T h hx (m := ys.length) (by simp [bv_length]) (bv_one ys) (by omega) hm hbase
 refine ⟨v', w', hr, ?_, hk⟩
 unfold OwnB
 rw [List.length_append, bv_append]
 exact ho
theorem fdiv_nat (m d : Nat) : ((m : Nat) : Int).fdiv ((d : Nat) : Int) = ((m / d : Nat) : Int) := by
 rw [Int.fdiv_eq_ediv_of_nonneg _ (by omega)]; rfl
def sl? (L : Loc) (o : Oper) : Option (TypeId × Value × Option Value × Option Value × Option Value) :=
 match o.op with
 | .slice t x lo hi mx => some (t, ev L x, lo.map (ev L), hi.map (ev L), mx.map (ev L))
 | _ => none
theorem Runs.slice {P : Program} {L : Loc} {o : Oper} {w : World} {t : TypeId} {x v : Value} {lo hi mx : Option Value} (h : sl? L o = some (t, x, lo, hi, mx)) (hr : (Instr.sliceAt t x lo hi mx).run P w = .ok v w) : Runs P L o w v w := by
 unfold sl? at h
 cases ho : o.op with
 | slice t' x' lo' hi' mx' =>
  rw [ho] at h
  simp only [Option.some.injEq, Prod.mk.injEq] at h
  obtain ⟨rfl, rfl, rfl, rfl, rfl⟩ := h
  unfold Runs execOp
  simp only [ho, Sem.run_bind, hr, Result.andThen_ok, Sem.run_pure]
 | _ => rw [ho] at h; cases h
theorem run_cut {P : Program} {w : World} {t e : TypeId} {sz n c : Nat} {A : Option Addr} {lo hi mx : Option Value} (l h m : Nat) (ht : P.underlying t = some (.slice e)) (hs : size? P e = some sz)
  (hlo : lo = none ∧ l = 0 ∨ ∃ k, lo = some (.int k ((l : Nat) : Int))) (hhi : hi = none ∧ h = n ∧ mx = none ∨ ∃ k, hi = some (.int k ((h : Nat) : Int))) (hmx : mx = none ∧ m = c ∨ ∃ k, mx = some (.int k ((m : Nat) : Int)))
  (h1 : l ≤ h) (h2 : h ≤ m) (h3 : m ≤ c) : (Instr.sliceAt t (.slice A n c) lo hi mx).run P w = .ok (.slice (if m = l then A else A.map (·.add (l * sz))) (h - l) (m - l)) w := by
 have hb : ∀ (k : IntKind) (x y : Nat) (code : BoundsCode), x ≤ y → (Instr.sliceBound (.int k ((x : Nat) : Int)) y code).run P w = .ok x w := by
  intro k x y code hxy
  simp [Instr.sliceBound, asIntOf, hxy]
 unfold Instr.sliceAt Instr.slice Instr.sliceBounds
 simp only [Sem.run_bind, run_underlying ht, Result.andThen_ok]
 rcases hlo with ⟨rfl, rfl⟩ | ⟨kl, rfl⟩ <;> rcases hmx with ⟨rfl, rfl⟩ | ⟨km, rfl⟩ <;> rcases hhi with ⟨rfl, rfl, hq⟩ | ⟨kh, rfl⟩ <;> first | (cases hq; done) | skip
 all_goals simp [Sem.run_bind, hb _ _ _ _ h1, hb _ _ _ _ h2, hb _ _ _ _ h3, run_size hs, Sem.run_pure]
theorem Rd.cut {w : World} {sz n c : Nat} {A : Option Addr} {xs : List Value} (hr : Rd w sz (.slice A n c) xs) (l h m : Nat) (h1 : l ≤ h) (h2 : h ≤ m) (h3 : m ≤ c) (h4 : h ≤ n) :
  Rd w sz (.slice (if m = l then A else A.map (·.add (l * sz))) (h - l) (m - l)) ((xs.drop (l * sz)).take ((h - l) * sz)) := by
 obtain ⟨A', n', c', he, hl, hc, hm, hx⟩ := hr
 injection he with e1 e2 e3
 subst e1; subst e2; subst e3
 refine ⟨_, _, _, rfl, ?_, by omega, by omega, fun h0 => ?_⟩
 ·rw [List.length_take, List.length_drop, hl, ← Nat.sub_mul]
  exact Nat.min_eq_left (Nat.mul_le_mul_right _ (by omega))
 ·obtain ⟨b, off, rfl, hcell⟩ := hx (by omega)
  rw [if_neg (by omega)]
  refine ⟨b, off + l * sz, by simp [add_plain], fun j u hu => ?_⟩
  rw [List.getElem?_take] at hu
  split at hu
  ·rw [List.getElem?_drop] at hu
   rw [Nat.add_assoc]
   exact hcell _ _ hu
  ·cases hu
end Go.Q
namespace Go.Q
open Go.RowKit
abbrev ivs (l : List Int) : List UInt8 := l.flatMap iv
section
variable {P : Program} {n : Nat} {os : Array Oper} {K : Loc → World → Prop} {L L' : Loc} {w : World} {i : Nat} {d : Option Tmp} {S : World → Prop} {fuel : Nat} {is : List Nat}
theorem Dr.new {o : Obj} {V : Nat → Value} {Ln : Nat → Loc} (hr : Region.ready .any os (marks os.size is) = [i]) (h : newAt? P os L i = some (o, fun b => some (V b))) (hd : dst? os i = some d) (hs : ∀ b, setL n d (V b) L = some (Ln b))
  (hn : ∀ b w', b = w.heap.size → Has w' b o → Keeps none_ w w' → w'.heap.size = b + 1 → S w' ∧ Dr P n os S fuel (i :: is) K (Ln b) w') : Dr P n os S (fuel + 1) is K L w := by
 unfold newAt? at h
 cases h0 : at? os L i with
 | none => rw [h0] at h; cases h
 | some o' =>
  rw [h0] at h
  simp only at h
  have hopn : opn os i = o' := by have := (at?_spec h0).1; simp [opn, this]
  have hok : okAt os L i = true := by simp [okAt, h0]
  have hrun : Runs P L (opn os i) w (V w.heap.size) (w.alloc o) := by rw [hopn]; exact new?_run _ w h rfl
  obtain ⟨h1, h2⟩ := hn w.heap.size _ rfl (Has.new w o) (Keeps.alloc w o) (by simp)
  exact Dr.go hr hok hrun hd (hs _) h1 h2
end
end Go.Q
namespace Go.Q
open Go.RowKit
def str (xs : List UInt8) : ByteArray := ⟨⟨xs⟩⟩
theorem str_toList (xs : List UInt8) : (str xs).toList = xs := by rw [ByteArray.toList_eq]; rfl
theorem str_eta (s : ByteArray) : str s.toList = s := by rw [ByteArray.toList_eq]; rfl
def cv? (L : Loc) (o : Oper) : Option (TypeId × TypeId × Value) :=
 match o.op with
 | .convert s d x => some (s, d, ev L x)
 | _ => none
theorem Runs.conv {P : Program} {L : Loc} {o : Oper} {w w' : World} {s d : TypeId} {x v : Value} (h : cv? L o = some (s, d, x)) (hr : (convert s d x).run P w = .ok v w') : Runs P L o w v w' := by
 unfold cv? at h
 cases ho : o.op with
 | convert s' d' x' =>
  rw [ho] at h
  simp only [Option.some.injEq, Prod.mk.injEq] at h
  obtain ⟨rfl, rfl, rfl⟩ := h
  unfold Runs execOp
  simp only [ho, Sem.run_bind, hr, Result.andThen_ok, Sem.run_pure]
 | _ => rw [ho] at h; cases h
def sliceOf? (P : Program) (t : TypeId) : Option TypeId := match P.underlying t with | some (.slice e) => (match P.underlying e with | some (.int .u8) => some e | _ => none) | _ => none
def isStr? (P : Program) (t : TypeId) : Bool := match P.underlying t with | some .string => true | _ => false
theorem run_streq {P : Program} {w : World} {t : TypeId} (a b : ByteArray) : (binOp .eql t (.string a) (.string b)).run P w = .ok (.bool (a.toList == b.toList)) w := by
 simp [binOp, Op.stringOp, Sem.run_pure]
theorem run_strne {P : Program} {w : World} {t : TypeId} (a b : ByteArray) : (binOp .neq t (.string a) (.string b)).run P w = .ok (.bool (!(a.toList == b.toList))) w := by
 simp [binOp, Op.stringOp, Sem.run_pure]
def plainOf : Value → Bool
 | .string _ => true
 | _ => false
theorem Runs.bin {P : Program} {L : Loc} {o : Oper} {w : World} {op : BinOp} {t : TypeId} {x y v : Value} (h : bin? L o = some (op, t, x, y)) (hg : ∀ a b, (eqGuard op t a b x y).run P w = .ok () w) (hr : (binOp op t x y).run P w = .ok v w) : Runs P L o w v w := by
 unfold bin? at h
 cases ho : o.op with
 | binOp op' t' x' y' t2 =>
  rw [ho] at h
  simp only [Option.some.injEq, Prod.mk.injEq] at h
  obtain ⟨rfl, rfl, hx, hy⟩ := h
  unfold Runs execOp
  simp only [ho, hx, hy, Sem.run_bind, hg, Result.andThen_ok, hr, Sem.run_pure]
 | _ => rw [ho] at h; cases h
theorem Runs.streq {P : Program} {L : Loc} {o : Oper} {w : World} {t : TypeId} {a b : List UInt8} (h : bin? L o = some (.eql, t, .string (str a), .string (str b))) : Runs P L o w (.bool (a == b)) w := by
 refine Runs.bin h (fun _ _ => by simp [eqGuard, Sem.run_pure]) ?_
 rw [run_streq, str_toList, str_toList]
theorem Runs.strne {P : Program} {L : Loc} {o : Oper} {w : World} {t : TypeId} {a b : List UInt8} (h : bin? L o = some (.neq, t, .string (str a), .string (str b))) : Runs P L o w (.bool (!(a == b))) w := by
 refine Runs.bin h (fun _ _ => by simp [eqGuard, Sem.run_pure]) ?_
 rw [run_strne, str_toList, str_toList]
def cellB : Value → Value → Bool
 | .int _ a, .int _ b => a == b
 | .bool a, .bool b => a == b
 | .string a, .string b => a.toList == b.toList
 | _, _ => false
def aggB : List Value → List Value → Bool
 | [], [] => true
 | x :: xs, y :: ys => cellB x y && aggB xs ys
 | _, _ => false
def cellFits (P : Program) (t : TypeId) (x y : Value) : Bool :=
 match P.underlying t with
 | some (.int _) => (match x, y with | .int k _, .int k' _ => decide (k = k') | _, _ => false)
 | some .bool => (match x, y with | .bool _, .bool _ => true | _, _ => false)
 | some .string => (match x, y with | .string _, .string _ => true | _, _ => false)
 | _ => false
def fitsB (P : Program) : List Field → Nat → List Value → List Value → Bool
 | [], _, [], [] => true
 | f :: fs, j, x :: xs, y :: ys => (f.name != "_") && (Nat.beq f.offset j && (cellFits P f.type x y && fitsB P fs (j + 1) xs ys))
 | _, _, _, _ => false
theorem run_cellEq {P : Program} {w : World} {t : TypeId} {x y : Value} (d : Nat) (h : cellFits P t x y = true) : (Op.equalIn (d + 1) t x y).run P w = .ok (cellB x y) w := by
 unfold cellFits at h
 split at h
 ·rename_i hk
  split at h
  ·have hkk := of_decide_eq_true h
   subst hkk
   exact run_equalIn_int w d t _ _ _ _ hk
  ·cases h
 ·rename_i hk
  split at h
  ·exact run_equalIn_bool w d t _ _ hk
  ·cases h
 ·rename_i hk
  split at h
  ·exact run_equalIn_string w d t _ _ hk
  ·cases h
 ·cases h
theorem cellFits_plain {P : Program} {t : TypeId} {x y : Value} (h : cellFits P t x y = true) : isAgg? P t = some false := by
 unfold cellFits at h
 unfold isAgg?
 split at h
 ·rename_i hk; rw [hk]
 ·rename_i hk; rw [hk]
 ·rename_i hk; rw [hk]
 ·cases h
theorem run_part1 {P : Program} {w : World} {t : TypeId} {cs : Array Value} {j : Nat} {v : Value} (h : isAgg? P t = some false) (hv : cs[j]? = some v) : (part t cs j).run P w = .ok v w := by
 unfold part
 simp [Sem.run_bind, run_isAgg h, hv, Sem.run_pure]
theorem run_fields {P : Program} {w : World} (d : Nat) : ∀ (fs : List Field) (px py xs ys : List Value), px.length = py.length → fitsB P fs px.length xs ys = true →
  (Op.eqFields (d + 1) (px ++ xs).toArray (py ++ ys).toArray fs).run P w = .ok (aggB xs ys) w
 | [], px, py, [], [], _, _ => by simp [Op.eqFields, Sem.run_pure, aggB]
 | [], _, _, _ :: _, _, _, h => by simp [fitsB] at h
 | [], _, _, [], _ :: _, _, h => by simp [fitsB] at h
 | f :: fs, _, _, [], _, _, h => by simp [fitsB] at h
 | f :: fs, _, _, _ :: _, [], _, h => by simp [fitsB] at h
 | f :: fs, px, py, x :: xs, y :: ys, hl, h => by
  simp only [fitsB, Bool.and_eq_true, bne_iff_ne, ne_eq] at h
  obtain ⟨h1, h2, h3, h4⟩ := h
  have h2 := Nat.eq_of_beq_eq_true h2
  have hp := cellFits_plain h3
  have ex : (px ++ x :: xs).toArray[f.offset]? = some x := by rw [h2]; simp
  have ey : (py ++ y :: ys).toArray[f.offset]? = some y := by rw [h2, hl]; simp
  have ih := run_fields d fs (px ++ [x]) (py ++ [y]) xs ys (by simp [hl]) (by simpa using h4) (w := w)
  simp only [List.append_assoc, List.singleton_append] at ih
  simp only [Op.eqFields, ne_eq, h1, not_false_eq_true, if_true, Sem.run_bind, run_part1 hp ex, run_part1 hp ey, Result.andThen_ok, run_cellEq d h3, Sem.run_ite]
  cases hc : cellB x y with
  | false => simp [aggB, hc, Sem.run_pure]
  | true => simp only [Bool.not_true, Bool.false_eq_true, if_false, aggB, hc, Bool.true_and]; exact ih
def eqOk (P : Program) (t : TypeId) (xs ys : List Value) : Bool :=
 match P.underlying t with
 | some (.struct fs) => fitsB P fs.toList 0 xs ys && (!P.stoodInHeld t && !P.eqGuardType P.depth t)
 | _ => false
theorem run_aggeq {P : Program} {w : World} {t : TypeId} {xs ys : List Value} (h : eqOk P t xs ys = true) : (Op.equalIn 10000 t (agg xs) (agg ys)).run P w = .ok (aggB xs ys) w := by
 unfold eqOk at h
 split at h
 ·rename_i fs hu
  simp only [Bool.and_eq_true, Bool.not_eq_true'] at h
  have hf : P.fieldsOf t = fs := by simp [Program.fieldsOf, hu]
  rw [run_equalIn_agg w 9999 t _ _ (by rw [hf]; exact hu) h.2.1, hf]
  have := run_fields (P := P) (w := w) 9998 fs.toList [] [] xs ys rfl h.1
  simpa using this
 ·cases h
theorem guard_agg {P : Program} {w : World} {op : BinOp} {t : TypeId} {xs ys : List Value} (h : eqOk P t xs ys = true) (a b : Operand) : (eqGuard op t a b (agg xs) (agg ys)).run P w = .ok () w := by
 unfold eqOk at h
 split at h
 ·simp only [Bool.and_eq_true, Bool.not_eq_true'] at h
  exact run_eqGuard_agg w op t a b _ _ h.2.2
 ·cases h
theorem Runs.aggeq {P : Program} {L : Loc} {o : Oper} {w : World} {t : TypeId} {xs ys : List Value} (h : bin? L o = some (.eql, t, agg xs, agg ys)) (hk : eqOk P t xs ys = true) : Runs P L o w (.bool (aggB xs ys)) w := by
 refine Runs.bin h (guard_agg hk) ?_
 show (binOp .eql t (.agg xs.toArray) (.agg ys.toArray)).run P w = _
 rw [run_eql_struct]
 have := run_aggeq (w := w) hk
 unfold agg at this
 rw [this]; rfl
theorem Runs.aggne {P : Program} {L : Loc} {o : Oper} {w : World} {t : TypeId} {xs ys : List Value} (h : bin? L o = some (.neq, t, agg xs, agg ys)) (hk : eqOk P t xs ys = true) : Runs P L o w (.bool (!(aggB xs ys))) w := by
 refine Runs.bin h (guard_agg hk) ?_
 show (binOp .neq t (.agg xs.toArray) (.agg ys.toArray)).run P w = _
 rw [run_neq_struct]
 have := run_aggeq (w := w) hk
 unfold agg at this
 rw [this]; rfl
end Go.Q
namespace Go.Q
open Go.RowKit
section
variable {P : Program} {w : World} {t ty e sz bytes n cap g : Nat} {xs rest ys : List Value}
theorem app_row0 (T : ElemTy P t e sz bytes) {x : Value} {m : Nat} (hr : Rd w sz x ys) (hm : ys.length = m * sz) (h0 : 0 < m) (hb : m * bytes ≤ 140737488355328) (hl : m ≤ maxLen) :
  ∃ g' cap' rest' w', (Builtin.append_ #[t, t] ty #[.slice none 0 0, x]).run P w = .ok (.slice (some ⟨g', 0, none⟩) m cap') w' ∧ Has w' g' (rowL (ys ++ rest') e) ∧ ys.length + rest'.length = cap' * sz ∧ m ≤ cap' ∧ cap' ≤ maxLen ∧ Keeps none_ w w' ∧ g' = w.heap.size := by
 obtain ⟨A, k, c, rfl, hk, hkc, hcm, hc⟩ := hr
 obtain ⟨i, z, hi, hz, hs, hby, hzs⟩ := T.info
 have hmk : m = k := Nat.eq_of_mul_eq_mul_right T.pos (hm.symm.trans hk)
 subst hmk
 obtain ⟨b, off, rfl, hcell⟩ := hc h0
 subst hs
 subst hby
 have hr := run_append_nil (P := P) w t ty e i z T.slice hi hz ⟨b, off, none⟩ m c ys hm (fun j u hu => by rw [add_plain]; exact hcell j u hu) (by omega) (by simp only [maxLen] at hl; omega) (by omega)
 have hge := grownCap_ge w m 0 e
 have hcm := grownCap_le_maxLen w m 0 e hl
 refine ⟨w.heap.size, _, (Builtin.zeroCells z.cells (grownCap w m 0 e - m)).toList, _, hr, ?_, ?_, hge, hcm, ⟨rfl, rfl, rfl, by simp, fun k hk _ => heap_alloc_old w.drew _ k hk⟩, rfl⟩
 ·unfold Has
  rw [show w.heap.size = w.drew.heap.size from rfl, heap_alloc_new w.drew _]
  simp [rowL]
 ·simp only [Array.length_toList, size_zeroCells, hzs, hm, ← Nat.add_mul]
  congr 1
  omega
theorem app_row (T : ElemTy P t e sz bytes) (h : Has w g (rowL (xs ++ rest) e)) (hx : xs.length = n * sz) (hcp : xs.length + rest.length = cap * sz) (hnc : n ≤ cap) (hcm : cap ≤ maxLen) {x : Value} {m : Nat} (hr : Rd w sz x ys) (hm : ys.length = m * sz) (h0 : 0 < m)
  (h1 : oneCells ys = true) (hb : (n + m) * bytes ≤ 140737488355328) (hl : n + m ≤ maxLen) :
  ∃ g' cap' rest' w', (Builtin.append_ #[t, t] ty #[.slice (some ⟨g, 0, none⟩) n cap, x]).run P w = .ok (.slice (some ⟨g', 0, none⟩) (n + m) cap') w' ∧ Has w' g' (rowL ((xs ++ ys) ++ rest') e) ∧ (xs ++ ys).length + rest'.length = cap' * sz ∧ n + m ≤ cap' ∧ cap' ≤ maxLen ∧
   Keeps (fun i => i = g) w w' ∧ (g' = g ∨ g' = w.heap.size) := by
 obtain ⟨A, k, c, rfl, hk, hkc, hcm2, hc⟩ := hr
 obtain ⟨i, z, hi, hz, hs, hby, hzs⟩ := T.info
 have hmk : m = k := Nat.eq_of_mul_eq_mul_right T.pos (hm.symm.trans hk)
 subst hmk
 obtain ⟨b, off, rfl, hcell⟩ := hc h0
 subst hs
 subst hby
 have hcell' : ∀ j u, ys[j]? = some u → w.cell? ((⟨b, off, none⟩ : Addr).add j) = some u := fun j u hu => by rw [add_plain]; exact hcell j u hu
 have hbig : n + m ≤ 9223372036854775807 := by simp only [maxLen] at hl; omega
 by_cases hroom : n + m ≤ cap
 ·have hcs : (xs ++ rest).toArray.size = cap * i.size := by simp [hcp]
  have hfit : n * i.size + ys.length ≤ (xs ++ rest).toArray.size := by rw [hm, hcs, ← Nat.add_mul]; exact Nat.mul_le_mul_right _ hroom
  have hr := run_append_room (P := P) w t ty e i T.slice hi g n cap (xs ++ rest).toArray h ⟨b, off, none⟩ m c ys hm hcell' (oneCells_mem h1) hroom hfit
  refine ⟨g, cap, rest.drop (m * i.size), _, hr, ?_, ?_, hroom, hcm, Keeps.setRow w g _, .inl rfl⟩
  ·have e1 : (xs ++ rest).toArray.toList.take (n * i.size) ++ ys ++ (xs ++ rest).toArray.toList.drop (n * i.size + ys.length) = (xs ++ ys) ++ rest.drop (m * i.size) := by
    show (xs ++ rest).take (n * i.size) ++ ys ++ (xs ++ rest).drop (n * i.size + ys.length) = _
    rw [← hx, List.take_left, List.drop_append, List.drop_eq_nil_of_le (by omega), List.nil_append, Nat.add_sub_cancel_left, hm]
   have := setRow_heap w g (xs ++ rest).toArray ⟨(xs ++ rest).toArray.toList.take (n * i.size) ++ ys ++ (xs ++ rest).toArray.toList.drop (n * i.size + ys.length)⟩ e (0, 0) h
   unfold Has
   rw [this, e1]
  ·have : m * i.size ≤ rest.length := by
    have : (n + m) * i.size ≤ cap * i.size := Nat.mul_le_mul_right _ hroom
    rw [Nat.add_mul] at this
    omega
   simp only [List.length_append, List.length_drop, hm]
   omega
 ·have holds : ∀ j u, xs[j]? = some u → w.cell? ((⟨g, 0, none⟩ : Addr).add j) = some u := fun j u hu => by
   rw [add_plain, Nat.zero_add, h.cell, List.getElem?_append_left (List.getElem?_eq_some_iff.1 hu).1]; exact hu
  have hr := run_append_grow (P := P) w t ty e i z T.slice hi hz ⟨g, 0, none⟩ n cap xs hx holds ⟨b, off, none⟩ m c ys hm hcell' (by omega) (by omega) (growslice_fits (by omega) hb)
  have hge := grownCap_ge w (n + m) cap e
  have hcm := grownCap_le_maxLen w (n + m) cap e hl
  refine ⟨w.heap.size, _, (Builtin.zeroCells z.cells (grownCap w (n + m) cap e - (n + m))).toList, _, hr, ?_, ?_, hge, hcm, ⟨rfl, rfl, rfl, by simp, fun k hk _ => heap_alloc_old w.drew _ k hk⟩, .inr rfl⟩
  ·unfold Has
   rw [show w.heap.size = w.drew.heap.size from rfl, heap_alloc_new w.drew _]
   simp [rowL]
  ·simp only [Array.length_toList, size_zeroCells, hzs, hm, hx, ← Nat.add_mul, List.length_append]
   congr 1
   omega
end
end Go.Q
namespace Go.Q
open Go.RowKit
section
variable {P : Program} {n : Nat} {os : Array Oper} {K : Loc → World → Prop} {L L' : Loc} {w : World} {i j : Nat} {d di dj : Option Tmp} {S : World → Prop} {fuel : Nat} {is : List Nat}
theorem Dr.opStep {v : Value} {w' : World} (h0 : okAt os L i = true) (hx : Runs P L (opn os i) w v w') (hd : dst? os i = some d) (hs : setL n d v L = some L')
  (hS' : S w') (hn : Dr P n os S fuel (i :: is) K L' w') {a : Act} (ha : Rep n a L) : wpOp P os (drPost n K) i (fun a' w' => S w' ∧ wpAnyH P .any os (drPost n K) S fuel (marks os.size (i :: is)) a' w') a w := by
 have h1 := at?_opn h0
 obtain ⟨ho, hw, hp, hkn⟩ := at?_spec h1
 have hd' : (opn os i).dst = d := by simpa [dst?, ho] using hd
 unfold Runs at hx
 unfold wpOp
 simp only [ho, wants_wanted ha hw, if_true, Oper.wp, exec_known ha hp hkn, hx, Oper.upon]
 exact .inl ⟨hS', hn hS' _ (ha.setL (by rw [hd']; exact hs))⟩
theorem Runs.new {o : Obj} {V : Nat → Value} (h : newAt? P os L i = some (o, fun b => some (V b))) : okAt os L i = true ∧ Runs P L (opn os i) w (V w.heap.size) (w.alloc o) := by
 unfold newAt? at h
 cases h0 : at? os L i with
 | none => rw [h0] at h; cases h
 | some o' =>
  rw [h0] at h
  simp only at h
  have hopn : opn os i = o' := by have := (at?_spec h0).1; simp [opn, this]
  exact ⟨by simp [okAt, h0], by rw [hopn]; exact new?_run _ w h rfl⟩
end
end Go.Q
namespace Go.Q
open Go.RowKit
def ownl (s : Int) (k : Nat) : List Int := (List.range k).map fun i => 1 + ((i : Nat) : Int).tmod s
end Go.Q
namespace Go.Q
open Go.RowKit
def isScope : Code → Bool | .scope _ => true | _ => false
def isLabel : Code → Bool | .label _ => true | _ => false
def nogo (Q : Exit → Loc → World → Prop) : Exit → Loc → World → Prop
 | .goto _, _, _ => False
 | e, L, w => Q e L w
section
variable {P : Program} {n : Nat} {Q : Exit → Loc → World → Prop} {L : Loc} {w : World} {f : Func} {p : List Nat}
end
def p7 (i : Nat) : Nat := 128 ^ i
theorem p7_succ (i : Nat) : p7 (i + 1) = 128 * p7 i := by unfold p7; rw [Nat.pow_succ, Nat.mul_comm]
theorem p7_pos (i : Nat) : 0 < p7 i := Nat.pow_pos (by decide)
theorem p7_9 : p7 9 = 9223372036854775808 := by decide
theorem p7_le {i : Nat} (h : i ≤ 9) : p7 i ≤ 9223372036854775808 := by rw [← p7_9]; exact Nat.pow_le_pow_right (by decide) h
theorem p7_le8 {i : Nat} (h : i ≤ 8) : p7 i ≤ 72057594037927936 := by
 have : p7 8 = 72057594037927936 := by decide
 rw [← this]; exact Nat.pow_le_pow_right (by decide) h
def scanA : List UInt8 → Nat → Nat → Nat × Nat × Int
 | [], _, n => (n, 0, 10)
 | c :: cs, i, n => if (i = 9 ∧ 1 < c.toNat) ∨ (0 < i ∧ c.toNat = 0) then (n, 0, 11) else if c.toNat < 128 then (n + c.toNat % 128 * p7 i, i + 1, 0) else scanA cs (i + 1) (n + c.toNat % 128 * p7 i)
theorem scanA_nil (i n : Nat) : scanA [] i n = (n, 0, 10) := rfl
theorem scanA_bad {c : UInt8} {cs : List UInt8} {i n : Nat} (h : (i = 9 ∧ 1 < c.toNat) ∨ (0 < i ∧ c.toNat = 0)) : scanA (c :: cs) i n = (n, 0, 11) := by unfold scanA; rw [if_pos h]
theorem scanA_end {c : UInt8} {cs : List UInt8} {i n : Nat} (h : ¬ ((i = 9 ∧ 1 < c.toNat) ∨ (0 < i ∧ c.toNat = 0))) (h2 : c.toNat < 128) : scanA (c :: cs) i n = (n + c.toNat % 128 * p7 i, i + 1, 0) := by unfold scanA; rw [if_neg h, if_pos h2]
theorem scanA_more {c : UInt8} {cs : List UInt8} {i n : Nat} (h : ¬ ((i = 9 ∧ 1 < c.toNat) ∨ (0 < i ∧ c.toNat = 0))) (h2 : ¬ c.toNat < 128) : scanA (c :: cs) i n = scanA cs (i + 1) (n + c.toNat % 128 * p7 i) := by rw [scanA, if_neg h, if_neg h2]
def scanB (bs : List UInt8) : Nat × Nat × Int := scanA bs 0 0
theorem scanA_bound : ∀ (bs : List UInt8) (i n : Nat), i ≤ 9 → n < p7 i → (scanA bs i n).1 < 18446744073709551616 ∧ (scanA bs i n).2.1 ≤ i + bs.length
 | [], i, n, hi, hn => by
  rw [scanA_nil]
  have := p7_le hi
  simp only [List.length_nil]; omega
 | c :: cs, i, n, hi, hn => by
  have hp := p7_le hi
  by_cases h : (i = 9 ∧ 1 < c.toNat) ∨ (0 < i ∧ c.toNat = 0)
  ·rw [scanA_bad h]; simp only [List.length_cons]; omega
  ·have hb : n + c.toNat % 128 * p7 i < 18446744073709551616 := by
    by_cases h9 : i = 9
    ·have hc : c.toNat % 128 ≤ 1 := by omega
     have := Nat.mul_le_mul_right (p7 i) hc
     omega
    ·have h8 := p7_le8 (i := i) (by omega)
     have hc : c.toNat % 128 ≤ 127 := by omega
     have := Nat.mul_le_mul_right (p7 i) hc
     omega
   by_cases h2 : c.toNat < 128
   ·rw [scanA_end h h2]; simp only [List.length_cons]; omega
   ·have hc : c.toNat % 128 ≤ 127 := by omega
    have hm := Nat.mul_le_mul_right (p7 i) hc
    have := scanA_bound cs (i + 1) (n + c.toNat % 128 * p7 i) (by omega) (by rw [p7_succ]; omega)
    rw [scanA_more h h2]
    simp only [List.length_cons]; omega
structure Rdr where
 bs : List UInt8
 pos : Nat
 why : Int
def Rdr.uint (r : Rdr) : Nat × Rdr :=
 if r.why ≠ 0 then (0, r)
 else if (scanB (r.bs.drop r.pos)).2.2 ≠ 0 then (0, { r with why := (scanB (r.bs.drop r.pos)).2.2 })
 else ((scanB (r.bs.drop r.pos)).1, { r with pos := r.pos + (scanB (r.bs.drop r.pos)).2.1 })
def rdrL (A : Option Addr) (c : Nat) (r : Rdr) : List Value := [.slice A r.bs.length c, i64 r.pos, i64 r.why]
structure Rdr.Ok (r : Rdr) : Prop where
 pos : r.pos ≤ r.bs.length
 len : r.bs.length ≤ 140737488351232
theorem Rdr.Ok.uint {r : Rdr} (h : r.Ok) : r.uint.2.Ok := by
 have hp := h.pos
 have hb := scanA_bound (r.bs.drop r.pos) 0 0 (by omega) (p7_pos 0)
 unfold Rdr.uint
 split
 ·exact h
 ·split
  ·exact ⟨h.pos, h.len⟩
  ·refine ⟨?_, h.len⟩
   have h2 := hb.2
   rw [List.length_drop] at h2
   simp only [scanB]
   omega
theorem Rdr.uint_bs (r : Rdr) : r.uint.2.bs = r.bs := by unfold Rdr.uint; (repeat' split) <;> rfl
def unzz (n : Nat) : Int := if n % 2 = 1 then -((n / 2 : Nat) : Int) - 1 else ((n / 2 : Nat) : Int)
def Rdr.int (r : Rdr) : Int × Rdr := (unzz r.uint.1, r.uint.2)
def Rdr.end_ (r : Rdr) : Int := if r.why = 0 ∧ r.pos < r.bs.length then 11 else r.why
theorem RdB.at {P : Program} {t : TypeId} {w : World} {A : Option Addr} {n c k : Nat} {bs : List UInt8} (h : RdB w (.slice A n c) bs) (ht : isAgg? P t = some false) (hk : k < bs.length) :
  ∃ (x : UInt8) (b off : Nat), bs.drop k = x :: bs.drop (k + 1) ∧ A = some ⟨b, off, none⟩ ∧ ∀ (S : Nat → Prop) (w' : World), Keeps S w w' → ¬ S b → Loads P w' t ⟨b, off + k, none⟩ (.int .u8 ((x.toNat : Nat) : Int)) := by
 obtain ⟨A', n', c', he, hl, hc, hm, hx⟩ := h
 injection he with e1 e2 e3
 subst e1; subst e2; subst e3
 have hn : bs.length = n := by simpa [bv_length] using hl
 obtain ⟨b, off, rfl, hcell⟩ := hx (by omega)
 refine ⟨bs[k], b, off, List.drop_eq_getElem_cons hk, rfl, fun S w' K hS => loads_one ht (K.cell (hcell k _ ?_) hS)⟩
 simp [bv, hk]
def RdO (w : World) (A : Option Addr) (c : Nat) (bs : List UInt8) : Prop := RdB w (.slice A bs.length c) bs ∧ ∀ b off sp, A = some ⟨b, off, sp⟩ → b < w.heap.size
theorem RdO.keep {S : Nat → Prop} {w w' : World} {A : Option Addr} {c : Nat} {bs : List UInt8} (h : RdO w A c bs) (k : Keeps S w w') (hS : ∀ b off sp, A = some ⟨b, off, sp⟩ → ¬ S b) : RdO w' A c bs := by
 refine ⟨Rd.keep (by omega) h.1 k fun b hb => ?_, fun b off sp hA => Nat.lt_of_lt_of_le (h.2 b off sp hA) k.size⟩
 cases A with
 | none => cases hb
 | some a =>
  simp only [Value.ownBlock, Option.some.injEq] at hb
  subst hb
  exact hS a.block a.off a.spot rfl
theorem RdO.keep0 {w w' : World} {A : Option Addr} {c : Nat} {bs : List UInt8} (h : RdO w A c bs) (k : Keeps none_ w w') : RdO w' A c bs := h.keep k fun _ _ _ _ h => h
end Go.Q
namespace Go.Q
open Go.RowKit
theorem RdB.drop {w : World} {A : Option Addr} {c l : Nat} {bs : List UInt8} (h : RdB w (.slice A bs.length c) bs) (hl : l ≤ bs.length) :
  RdB w (.slice (if c = l then A else A.map (·.add (l * 1))) (bs.length - l) (c - l)) (bs.drop l) := by
 have hs := h.slice
 have := Rd.cut h l bs.length c hl (by omega) (Nat.le_refl _) (Nat.le_refl _)
 have e : ((bv bs).drop (l * 1)).take ((bs.length - l) * 1) = bv (bs.drop l) := by
  simp only [bv, Nat.mul_one, List.map_drop]
  exact List.take_of_length_le (by simp)
 rw [e] at this
 exact this
theorem run_and1 {P : Program} {w : World} {t : TypeId} {n : Nat} (h : n < 18446744073709551616) : (binOp .and t (.int .u64 ((n : Nat) : Int)) (.int .u64 1)).run P w = .ok (.int .u64 ((n % 2 : Nat) : Int)) w := by
 have e1 : (BitVec.ofInt 64 ((n : Nat) : Int)).toNat = n := by simp; omega
 have e2 : (BitVec.ofInt 64 (1 : Int)).toNat = 1 := by decide
 have e3 : n &&& 1 = n % 2 := by simp
 have key : ((BitVec.ofInt IntKind.u64.bits ((n : Nat) : Int)) &&& (BitVec.ofInt IntKind.u64.bits (1 : Int))).toNat = n % 2 := by
  show ((BitVec.ofInt 64 ((n : Nat) : Int)) &&& (BitVec.ofInt 64 (1 : Int))).toNat = _
  rw [BitVec.toNat_and, e1, e2, e3]
 simp only [binOp, ne_eq, not_true, if_false, Op.intBits]
 rw [key, wrap_u64 (by omega) (by omega)]
 rfl
theorem Rdr.Ok.int {r : Rdr} (h : r.Ok) : r.int.2.Ok := h.uint
theorem Keeps.new {w w' : World} (k : Keeps (fun i => w.heap.size ≤ i) w w') : Keeps none_ w w' := ⟨k.os, k.tape, k.output, k.size, fun i hi _ => k.blk i hi (by omega)⟩
end Go.Q
namespace Go.Q
def Rdr.sized (r : Rdr) (most : Int) : Nat × Rdr :=
 if r.why ≠ 0 then (0, r)
 else if r.uint.2.why ≠ 0 then (0, ⟨r.bs, r.pos, r.uint.2.why⟩)
 else if most < 0 ∨ most < ((r.uint.1 : Nat) : Int) then (0, ⟨r.bs, r.pos, 3⟩)
 else if r.bs.length - r.uint.2.pos < r.uint.1 then (0, ⟨r.bs, r.pos, 10⟩)
 else r.uint
def Rdr.bytes (r : Rdr) : List UInt8 × Rdr :=
 if (r.sized 65536).2.why ≠ 0 then ([], (r.sized 65536).2)
 else ((r.bs.drop (r.sized 65536).2.pos).take (r.sized 65536).1, ⟨r.bs, (r.sized 65536).2.pos + (r.sized 65536).1, (r.sized 65536).2.why⟩)
def Rdr.bool_ (r : Rdr) : Bool × Rdr :=
 if r.why ≠ 0 then (false, r)
 else match r.bs.drop r.pos with
  | [] => (false, ⟨r.bs, r.pos, 10⟩)
  | c :: _ => if 1 < c.toNat then (false, ⟨r.bs, r.pos, 11⟩) else (c.toNat == 1, ⟨r.bs, r.pos + 1, r.why⟩)
end Go.Q
