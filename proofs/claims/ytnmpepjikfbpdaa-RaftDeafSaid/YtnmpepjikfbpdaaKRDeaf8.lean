/- What the claim stands on, part 8: rules of the walk, contracts of the functions, plain laws. -/
import Derived.Test.YtnmpepjikfbpdaaKRDeaf6
import Derived.Test.YtnmpepjikfbpdaaKRDeaf2
import Derived.Laws.CopyRow
import Derived.Test.YtnmpepjikfbpdaaKRDeaf5
import Derived.Test.YtnmpepjikfbpdaaProg
import Derived.Test.YtnmpepjikfbpdaaKRDeaf7
import Derived.SizedLaws
set_option linter.unusedVariables false
namespace Go.Q
open Go.RowKit Go.MapKept
def kint (x : Int) : Value := i64 x
def vbool (x : Bool) : Value := .bool x
theorem keyTy_int {P : Program} {k : TypeId} (hk : P.underlying k = some (.int .i64)) : KeyTy P k kint where
  check e x w := run_checkKey hk (by first | trivial | rfl) e 9999
  find x es w h := by
    have hks : ∀ e ∈ es, IsKey (.int .i64) e.key := fun e he => by obtain ⟨y, hy⟩ := h e he; rw [hy]; first | trivial | rfl
    rcases findNow_spec (d := .int .i64) (k := kint x) rfl es 0 hks with ⟨h1, h2⟩ | ⟨j, e, h1, h2, h3⟩
    · exact .inr ⟨h2, run_findKey hk h1⟩
    · exact .inl ⟨j, e, h2, h3, by rw [run_findKey hk h1, Nat.zero_add]⟩
  same x := sameBits_self (d := .int .i64) (by first | trivial | rfl) 10000
  inj x y h := by
    simp only [kint, i64, Value.int.injEq, true_and] at h
    exact h
theorem copy_rows {P : Program} {w : World} {t ty e sz b b2 : Nat} {cur cs : List Value} {E : TypeId} (hu : P.underlying t = some (.slice e)) (hs : (P.info? e).map (·.size) = some sz) (H1 : Has w b2 (rowL cur E)) (hc : cur.length = sz) (hl : cs.length = sz)
    (hsrc : ∀ (j : Nat) v, cs[j]? = some v → w.cell? ⟨b, j, none⟩ = some v) (h1 : ∀ v ∈ cs, v.oneCell' = true) :
    (Builtin.copy_ #[t, t] ty #[.slice (some ⟨b2, 0, none⟩) 1 1, .slice (some ⟨b, 0, none⟩) 1 1]).run P w = .ok (goInt 1) (w.setRow b2 cs.toArray) := by
  have hl1 := run_loadCells_list (P := P) w ⟨b, 0, none⟩ cs (fun j v hj => by have := hsrc j v hj; rw [add_plain, Nat.zero_add]; exact this)
  have hst := run_storeCells_at P b2 0 E cs 0 ⟨cur⟩ w H1 (by simp; omega) h1
  have e1 : (List.take (0 + 0) cur ++ cs ++ List.drop (0 + 0 + cs.length) cur).toArray = cs.toArray := by
    rw [List.take_zero, List.nil_append, List.drop_eq_nil_of_le (by omega), List.append_nil]
  rw [show (⟨cur⟩ : Array Value).toList = cur from rfl, e1] at hst
  cases hq : P.info? e with
  | none => simp [hq] at hs
  | some i =>
    have hi : i.size = sz := by simpa [hq] using hs
    simp [Builtin.copy_, run_underlying hu, Builtin.lenOf, Builtin.firstCells, sizeOf, typeInfo, hq, hi, ← hl, hl1, hst]
theorem copy_rows2 {P : Program} {w : World} {t ty e sz b b2 : Nat} {cur cs : List Value} {E : TypeId} (hu : P.underlying t = some (.slice e)) (hs : (P.info? e).map (·.size) = some sz) (H1 : Has w b2 (rowL cur E)) (hc : cur.length = sz) (hl : cs.length = sz)
    (hsrc : ∀ (j : Nat) v, cs[j]? = some v → w.cell? ⟨b, j, none⟩ = some v) (h1 : ∀ v ∈ cs, v.oneCell' = true) :
    ∃ w', (Builtin.copy_ #[t, t] ty #[.slice (some ⟨b2, 0, none⟩) 1 1, .slice (some ⟨b, 0, none⟩) 1 1]).run P w = .ok (i64 1) w' ∧ Keeps (fun i => i = b2) w w' ∧ Has w' b2 (rowL cs E) :=
  ⟨_, copy_rows hu hs H1 hc hl hsrc h1, Keeps.setRow w b2 ⟨cs⟩, H1.set cs⟩
theorem Runs.copied {P : Program} {L : Loc} {o : Oper} {w w' : World} {ts : Array TypeId} {ty : TypeId} {vs : List Value} {v' : Value} (h : bi? L o = some (.copy, ts, ty, vs)) (hr : (Builtin.copy_ ts ty ⟨vs⟩).run P w = .ok v' w') : Runs P L o w v' w' := by
  unfold bi? at h
  cases ho : o.op with
  | call c =>
    rw [ho] at h
    simp only at h
    cases hc : c.callee with
    | builtin b =>
      rw [hc] at h
      simp only [Option.some.injEq, Prod.mk.injEq] at h
      obtain ⟨rfl, rfl, rfl, rfl⟩ := h
      unfold Runs execOp
      have he : c.args.map (ev L) = ⟨c.args.toList.map (ev L)⟩ := by
        apply Array.ext'; simp
      simp only [ho, resolve, hc, Sem.run_bind, Sem.run_pure, Result.andThen_ok, invoke, builtin]
      rw [he]
      have hb : ∀ (ats : Array TypeId) (ty : TypeId) (cs : Array Bool) (args : Array Value), Go.builtin .copy ats ty cs args = (do Pure.pure (Go.Next.value (← Builtin.copy_ ats ty args))) := fun _ _ _ _ => rfl
      rw [hb]
      simp only [Sem.run_bind, hr, Result.andThen_ok, Sem.run_pure]
    | _ => rw [hc] at h; cases h
  | _ => rw [ho] at h; cases h
end Go.Q
namespace Go.Q
open Go.RowKit
/-- How far a replica alone is agreed. -/
def agC (base old term commit : Int) (ks : Ks) : Int := if commit < base + ks.length ∧ lastK base old ks = term then base + ks.length else commit
theorem Ents.lit {w : World} {b : Nat} {E : TypeId} {t : Int} {A : Option Addr} {n c : Nat} {bs : List UInt8} (H : Has w b (rowL [i64 t, .slice A n c] E)) (hB : RdB w (.slice A n c) bs) (hA : bs ≠ [] → ∀ i, (Value.slice A n c).ownBlock = some i → i < w.heap.size) :
    Ents w (fun i => i = b ∨ (bs ≠ [] ∧ (Value.slice A n c).ownBlock = some i)) (.slice (some ⟨b, 0, none⟩) 1 1) [⟨t, A, c, bs⟩] := by
  have hn := hB.slice.1
  subst hn
  refine ⟨Rd.lit (n := 1) H rfl (by decide), fun x hx => ?_, fun _ i hi => ?_, fun x hx hc i hi => ?_, fun i hi => ?_⟩
  · rw [List.mem_singleton.1 hx]; exact hB
  · simp only [Value.ownBlock, Option.some.injEq] at hi
    exact .inl hi.symm
  · rw [List.mem_singleton.1 hx] at hi hc; exact .inr ⟨hc, hi⟩
  · rcases hi with hi | ⟨hb, hi⟩
    · rw [hi]; exact H.lt
    · exact hA hb i hi
theorem RdB.keepg {S : Nat → Prop} {w w' : World} {v : Value} {xs : List UInt8} (h : RdB w v xs) (K : Keeps S w w') (hS : xs ≠ [] → ∀ b, v.ownBlock = some b → ¬ S b) : RdB w' v xs := by
  by_cases hx : xs = []
  · exact Rd.keep_nil (by decide) h (by rw [hx]; rfl)
  · exact Rd.keep (by decide) h K (hS hx)
end Go.Q
namespace Go.Q
open Go.RowKit
structure LogE (w : World) (bs e : Nat) (T : Nat → Prop) (v : Value) (l : List EntP) : Prop where
  ents : Ents w T v l
  own : OwnT w bs e 2 EntP.cells v l
  apart : ∀ x ∈ l, x.cmd ≠ [] → ∀ i, (Value.slice x.A x.cmd.length x.c).ownBlock = some i → v.ownBlock ≠ some i
  ownT : ∀ i, v.ownBlock = some i → T i
theorem LogE.nil (w : World) (bs e : Nat) : LogE w bs e none_ (.slice none 0 0) [] :=
  ⟨Ents.nil w, OwnT.nil _ _ _ _ _, fun x hx => (by cases hx), fun i hi => by cases hi⟩
theorem LogE.keep {S T : Nat → Prop} {w w' : World} {bs e : Nat} {v : Value} {l : List EntP} (h : LogE w bs e T v l) (K : Keeps S w w') (hS : ∀ i, T i → ¬ S i) : LogE w' bs e T v l :=
  ⟨h.ents.keep K hS, own_keep h.own K fun b hb => hS b (h.ownT b hb), h.apart, h.ownT⟩
theorem LogE.keep0 {T : Nat → Prop} {w w' : World} {bs e : Nat} {v : Value} {l : List EntP} (h : LogE w bs e T v l) (K : Keeps none_ w w') : LogE w' bs e T v l := h.keep K fun _ _ h => h
theorem LogE.mono {T U : Nat → Prop} {w : World} {bs e : Nat} {v : Value} {l : List EntP} (h : LogE w bs e T v l) (hT : ∀ i, T i → U i) (hU : ∀ i, U i → i < w.heap.size) : LogE w bs e U v l :=
  ⟨h.ents.mono hT hU, h.own, h.apart, fun i hi => hT i (h.ownT i hi)⟩
theorem LogE.mine {w : World} {base e e2 G cap : Nat} {l : List EntP} {rest : List Value} (hb : base ≤ G) (H : Has w G (rowL (l.flatMap EntP.cells ++ rest) e)) (h1 : l.length ≤ cap) (h2 : cap ≤ maxLen) (h3 : (l.flatMap EntP.cells ++ rest).length = cap * 2)
    (hM : EntsMine e2 w base (.slice (some ⟨G, 0, none⟩) l.length cap) l) : LogE w base e (fun i => base ≤ i ∧ i < w.heap.size) (.slice (some ⟨G, 0, none⟩) l.length cap) l := by
  have hO := own_casesE_mk hb H h1 h2 h3
  refine ⟨Ents.mine hb H h1 h2 h3 hM, hO, fun x hx _ i hi => ?_, fun i hi => World.ownsRow.lt hO i hi⟩
  cases hA : x.A with
  | none => rw [hA] at hi; cases hi
  | some a =>
    obtain ⟨g, o, s⟩ := a
    rw [hA] at hi
    simp only [Value.ownBlock, Option.some.injEq] at hi
    subst hi
    exact ((hM x hx).2 _ o s hA).2.2
theorem LogE.base {T : Nat → Prop} {w : World} {bs bs' e : Nat} {v : Value} {l : List EntP} (h : LogE w bs e T v l) (hb : bs' ≤ bs) : LogE w bs' e T v l := ⟨h.ents, own_base h.own hb, h.apart, h.ownT⟩
/-- Entries in new memory stand behind the log's own. -/
theorem LogE.grow {w0 w1 w3 : World} {bs e : Nat} {T U : Nat → Prop} {v v' y : Value} {l ys : List EntP} (h : LogE w0 bs e T v l) (k01 : Keeps none_ w0 w1) (hY : Ents w1 U y ys) (hU : ∀ i, U i → w0.heap.size ≤ i)
    (k13 : Keeps (fun i => v.ownBlock = some i) w1 w3) (hO : OwnT w3 bs e 2 EntP.cells v' (l ++ ys)) (hg : ∀ i, v'.ownBlock = some i → v.ownBlock = some i ∨ w1.heap.size ≤ i) :
    LogE w3 bs e (fun i => T i ∨ (w0.heap.size ≤ i ∧ i < w3.heap.size)) v' (l ++ ys) := by
  have hT0 : ∀ i, T i → i < w0.heap.size := h.ents.lt
  have s1 := k01.size
  have s3 := k13.size
  have hap : ∀ x ∈ l ++ ys, x.cmd ≠ [] → ∀ i, (Value.slice x.A x.cmd.length x.c).ownBlock = some i → v'.ownBlock ≠ some i := by
    intro x hx hc i hi q
    rcases List.mem_append.1 hx with hx | hx
    · rcases hg i q with q | q
      · exact h.apart x hx hc i hi q
      · have := hT0 i (h.ents.inn x hx hc i hi); omega
    · have h1 := hU i (hY.inn x hx hc i hi)
      have h2 := hY.lt i (hY.inn x hx hc i hi)
      rcases hg i q with q | q
      · have := hT0 i (h.ownT i q); omega
      · omega
  have hlt : ∀ i, v'.ownBlock = some i → T i ∨ (w0.heap.size ≤ i ∧ i < w3.heap.size) := by
    intro i hi
    rcases hg i hi with q | q
    · exact .inl (h.ownT i q)
    · exact .inr ⟨by omega, (World.ownsRow.lt hO i hi).2⟩
  refine ⟨⟨OwnT.rd hO, fun x hx => ?_, fun _ => hlt, fun x hx hc i hi => ?_, fun i hi => ?_⟩, hO, hap, hlt⟩
  · rcases List.mem_append.1 hx with hx | hx
    · have h1 : RdB w1 (.slice x.A x.cmd.length x.c) x.cmd := (h.ents.ins x hx).keep0 (by omega) k01
      by_cases hc : x.cmd = []
      · exact Rd.keep_nil (by decide) h1 (by rw [hc]; rfl)
      · exact Rd.keep (by decide) h1 k13 fun b hb q => h.apart x hx hc b hb q
    · by_cases hc : x.cmd = []
      · exact Rd.keep_nil (by decide) (hY.ins x hx) (by rw [hc]; rfl)
      · exact Rd.keep (by decide) (hY.ins x hx) k13 fun b hb q => by
          have h1 := hU b (hY.inn x hx hc b hb)
          have h2 := hT0 b (h.ownT b q)
          omega
  · rcases List.mem_append.1 hx with hx | hx
    · exact .inl (h.ents.inn x hx hc i hi)
    · exact .inr ⟨hU i (hY.inn x hx hc i hi), Nat.lt_of_lt_of_le (hY.lt i (hY.inn x hx hc i hi)) s3⟩
  · rcases hi with hi | hi
    · have := hT0 i hi; omega
    · exact hi.2
end Go.Q
namespace Go.Proofs.Ytnmpepjikfbpdaa
open Go.Q Go.RowKit

theorem ownM_calls (w : World) (T : Nat → Prop) (A : Option Addr) (c : Nat) (l0 : List EntP) (hE : Ents w T (.slice A l0.length c) l0) (hBig : ∀ x ∈ l0, x.cmd.length ≤ 140737488351232) (hl : l0.length * 32 ≤ 140737488351232) : Calls Try.prog 33 ⟨[(Value.slice A l0.length c)]⟩ w (fun e w' => ∃ l' A' c', e = .returned (.slice A' l'.length c') ∧ Keeps none_ w w' ∧ LogE w' w.heap.size 43 (fun i => w.heap.size ≤ i ∧ i < w'.heap.size) (.slice A' l'.length c') l' ∧ l'.map EntP.key = l0.map EntP.key) := by
 have hE0 := hE
 have K0 : Keeps none_ w w := Keeps.refl w
 refine q_calls Try.func33 (by kernel_rfl) (by kernel_rfl) ?_
 refine qs ?_
 refine qg ?_
 refine og 1 [(0, (Value.slice A l0.length c)), (2, (Value.slice none 0 0))] 1 ?_
 refine od ?_
 refine qs ?_
 refine qg ?_
 refine og 1 [(0, (Value.slice A l0.length c)), (2, (Value.slice none 0 0)), (4, (Value.slice A l0.length c))] 1 ?_
 refine Ops.call (by kernel_rfl) (d := (some 5)) (by kernel_rfl) (CloneE_calls _ (Value.slice A l0.length c) l0 (Ents.rd hE) (by omega)) ?_
 rintro _ w2 ⟨v1, rfl, K3, (⟨rfl, hl12⟩ | ⟨G4, cap5, rest6, rfl, hG7, H8, hc9, hc10, hc11⟩)⟩
 ·refine ⟨_, _, rfl, rfl, ?_⟩
  replace K0 := K0.t0 K3
  replace hE := Ents.keep0 hE K3
  clear K3
  refine og 1 [(0, (Value.slice none 0 0)), (2, (Value.slice none 0 0))] 3 ?_
  refine od ?_
  refine qs ?_
  refine qs ?_
  refine qg ?_
  refine og 3 [(0, (Value.slice none 0 0)), (2, (Value.slice none 0 0)), (7, (i64 0)), (8, (i64 0))] 3 ?_
  refine od ?_
  refine q_block (id := 0) (by kernel_rfl) ?_
  refine q_keep (R := [(0, (Value.slice none 0 0)), (2, (Value.slice none 0 0)), (7, (i64 0)), (8, (i64 0))]) (by kernel_rfl) ?_
  refine q_loop (fun (i : Nat) L (wx : World) => L = [(0, (Value.slice none 0 0)), (2, (Value.slice none 0 0)), (7, (i64 ((0 : Nat) : Int))), (8, (i64 ((i : Nat) : Int)))] ∧ i = 0 ∧ Keeps none_ w wx) (fun (i : Nat) => 0 - i) 0 (by kernel_rfl) ⟨rfl, rfl, K0⟩ ?_
  clear hE K0
  rintro i _ w13 ⟨rfl, hi, K14⟩
  refine qs ?_
  refine qg ?_
  refine og 1 [(0, (Value.slice none 0 0)), (2, (Value.slice none 0 0)), (7, (i64 ((0 : Nat) : Int))), (8, (i64 ((i : Nat) : Int))), (9, (Value.bool (decide (((i : Nat) : Int) < ((0 : Nat) : Int)))))] 1 ?_
  refine od ?_
  refine qs ?_
  have h15 : (decide (((i : Nat) : Int) < ((0 : Nat) : Int))) = false := decide_eq_false (by omega)
  rw [h15]
  refine q_else (o := .tmp 9) (by kernel_rfl) rfl ?_
  refine q_exit (id := 0) (by kernel_rfl) ?_
  refine qs ?_
  refine qg ?_
  refine og 2 [(2, (Value.slice none 0 0))] 2 ?_
  refine od ?_
  refine q_ret (by kernel_rfl) ?_
  refine ⟨(Value.slice none 0 0), retv_tmp rfl rfl, ?_⟩
  exact ⟨[], none, 0, rfl, K14, (LogE.nil _ _ _).mono (fun _ h => h.elim) (fun _ h => h.2), by rw [hl12]⟩
 ·refine ⟨_, _, rfl, rfl, ?_⟩
  have nG4 : w.heap.size ≤ G4 := by have := K0.size; omega
  replace K0 := K0.t0 K3
  replace hE := Ents.keep0 hE K3
  clear K3
  refine og 1 [(0, (Value.slice (some ⟨G4, 0, none⟩) l0.length cap5)), (2, (Value.slice none 0 0))] 3 ?_
  refine od ?_
  refine qs ?_
  refine qs ?_
  refine qg ?_
  refine og 3 [(0, (Value.slice (some ⟨G4, 0, none⟩) l0.length cap5)), (2, (Value.slice none 0 0)), (7, (i64 ((l0.length : Nat) : Int))), (8, (i64 0))] 3 ?_
  refine od ?_
  refine q_block (id := 0) (by kernel_rfl) ?_
  refine q_keep (R := [(0, (Value.slice (some ⟨G4, 0, none⟩) l0.length cap5)), (2, (Value.slice none 0 0)), (7, (i64 ((l0.length : Nat) : Int))), (8, (i64 0))]) (by kernel_rfl) ?_
  refine q_loop (fun (gs : Nat × (List EntP)) L (wx : World) => match gs with | (i, l) => L = [(0, (Value.slice (some ⟨G4, 0, none⟩) l0.length cap5)), (2, (Value.slice none 0 0)), (7, (i64 ((l0.length : Nat) : Int))), (8, (i64 ((i : Nat) : Int)))] ∧ l.length = l0.length ∧ l.map EntP.key = l0.map EntP.key ∧ (l.flatMap EntP.cells ++ rest6).length = cap5 * 2 ∧ EntsMine 5 wx w.heap.size (.slice (some ⟨G4, 0, none⟩) l0.length cap5) (l.take i) ∧ l.drop i = l0.drop i ∧ i ≤ l0.length ∧ Keeps none_ w wx ∧ Has wx G4 (rowL (l.flatMap EntP.cells ++ rest6) 43)) (fun (gs : Nat × (List EntP)) => match gs with | (i, l) => l0.length - i) (0, l0) (by kernel_rfl) ⟨rfl, rfl, rfl, hc11, (EntsMine.nil _ _ _), rfl, Nat.zero_le _, K0, H8⟩ ?_
  clear H8 hE K0
  rintro ⟨i, l⟩ _ w16 ⟨rfl, hln, hK, hR, hM, hD, hi, K17, H18⟩
  refine qs ?_
  refine qg ?_
  refine og 1 [(0, (Value.slice (some ⟨G4, 0, none⟩) l0.length cap5)), (2, (Value.slice none 0 0)), (7, (i64 ((l0.length : Nat) : Int))), (8, (i64 ((i : Nat) : Int))), (9, (Value.bool (decide (((i : Nat) : Int) < ((l0.length : Nat) : Int)))))] 1 ?_
  refine od ?_
  refine qs ?_
  refine q_cond (o := .tmp 9) (b := (decide (((i : Nat) : Int) < ((l0.length : Nat) : Int)))) (by kernel_rfl) rfl (fun h19 => ?_) (fun h19 => ?_)
  ·rw [h19]
   have p20 : ((i : Nat) : Int) < ((l0.length : Nat) : Int) := of_decide_eq_true h19
   refine q_skip (by kernel_rfl) ?_
   refine qs ?_
   refine q_block (id := 1) (by kernel_rfl) ?_
   refine qs ?_
   refine qg ?_
   refine og 2 [(0, (Value.slice (some ⟨G4, 0, none⟩) l0.length cap5)), (2, (Value.slice none 0 0)), (3, (i64 ((i : Nat) : Int))), (7, (i64 ((l0.length : Nat) : Int))), (8, (i64 ((i : Nat) : Int)))] 2 ?_
   refine od ?_
   refine qg ?_
   refine og 4 [(0, (Value.slice (some ⟨G4, 0, none⟩) l0.length cap5)), (2, (Value.slice none 0 0)), (7, (i64 ((l0.length : Nat) : Int))), (8, (i64 ((i : Nat) : Int))), (11, (Value.slice (some ⟨G4, 0, none⟩) l0.length cap5)), (12, (i64 ((i : Nat) : Int))), (13, (Value.slice (some ⟨G4, 0, none⟩) l0.length cap5)), (14, (i64 ((i : Nat) : Int)))] 4 ?_
   obtain ⟨x, hx⟩ : ∃ y, l[i]? = some y := ⟨_, List.getElem?_eq_getElem (by omega)⟩
   have hx0 : l0[i]? = some x := by have q := congrArg (fun z => z[0]?) hD; simp only [List.getElem?_drop, Nat.add_zero] at q; rw [← q]; exact hx
   have hxB := Ents.ins hE0 x (List.mem_of_getElem? hx0)
   have hxl := hxB.slice
   unfold maxLen at hxl
   have hxb := hBig x (List.mem_of_getElem? hx0)
   refine Ops.go (by kernel_rfl) (Runs.ixSlice (k := IntKind.i64) (t := 22) (b := G4) (off := 0) (len := l0.length) (cap := cap5) (s := 2) (off' := i * 2) (i := ((i : Nat) : Int)) (by kernel_rfl) (by kernel_rfl) (by omega) (by omega) (by omega)) (d := (some 15)) (by kernel_rfl) rfl ?_
   refine og 1 [(0, (Value.slice (some ⟨G4, 0, none⟩) l0.length cap5)), (2, (Value.slice none 0 0)), (7, (i64 ((l0.length : Nat) : Int))), (8, (i64 ((i : Nat) : Int))), (11, (Value.slice (some ⟨G4, 0, none⟩) l0.length cap5)), (12, (i64 ((i : Nat) : Int))), (16, (Value.pointer (some ⟨G4, i * 2 + 1, none⟩)))] 6 ?_
   refine Ops.go (v := (Value.slice x.A x.cmd.length x.c)) (by kernel_rfl) (Runs.load (t := 37) (a := ⟨G4, i * 2 + 1, none⟩) (by kernel_rfl) (H18.loads (loadC1 (by kernel_rfl) (flat_at2 hx).2))) (d := (some 17)) (by kernel_rfl) rfl ?_
   refine Ops.call (by kernel_rfl) (d := (some 18)) (by kernel_rfl) (CloneS_calls _ (Value.slice x.A x.cmd.length x.c) x.cmd (hxB.keep0 (by omega) K17) (by omega)) ?_
   rintro _ w23 ⟨A21, c22, rfl, K24, hO25⟩
   have ob27 : ∀ i, ((Value.slice A21 x.cmd.length c22)).ownBlock = some i → i ≠ G4 := fun i hi => by have := (World.ownsRow.lt hO25 i hi).1; have := H18.lt; omega
   have O26 := own_base hO25 K17.size
   refine ⟨_, _, rfl, rfl, ?_⟩
   replace K17 := K17.trans K24 (U := none_) (fun i h1 h2 => h2) (fun i h1 h2 => by exact h2)
   replace H18 := H18.keep K24 (fun h => h)
   replace hM := EntsMine.keep hM K24 (fun _ _ _ h => h)
   clear K24
   refine Ops.go (by kernel_rfl) (Runs.ixSlice (k := IntKind.i64) (t := 22) (b := G4) (off := 0) (len := l0.length) (cap := cap5) (s := 2) (off' := i * 2) (i := ((i : Nat) : Int)) (by kernel_rfl) (by kernel_rfl) (by omega) (by omega) (by omega)) (d := (some 19)) (by kernel_rfl) rfl ?_
   refine og 1 [(0, (Value.slice (some ⟨G4, 0, none⟩) l0.length cap5)), (2, (Value.slice none 0 0)), (7, (i64 ((l0.length : Nat) : Int))), (8, (i64 ((i : Nat) : Int))), (18, (Value.slice A21 x.cmd.length c22)), (20, (Value.pointer (some ⟨G4, i * 2 + 1, none⟩)))] 10 ?_
   refine Ops.put (t := 37) (b := G4) (off := i * 2 + 1) (v := (Value.slice A21 x.cmd.length c22)) (ys := ((l.set i ⟨x.term, A21, c22, x.cmd⟩).flatMap EntP.cells ++ rest6)) (by kernel_rfl) (by kernel_rfl) H18 (storeC1 (by kernel_rfl) rfl (by have := (List.getElem?_eq_some_iff.1 (flat_at2 (rest := rest6) hx).2).1; exact this) (flat_set2 A21 c22 hx)) (d := none) (by kernel_rfl) rfl (fun w28 H29 K30 => ?_)
   clear H18
   replace K17 := K17.trans K30 (U := none_) (fun i h1 h2 => h2) (fun i h1 h2 => by have h2 : i = G4 := h2; exfalso; omega)
   replace hM := EntsMine.keep hM K30 (fun i h1 h2 hs => h2 (by have hs : i = G4 := hs; subst hs; rfl))
   replace O26 := own_keep O26 K30 (fun i hi => by have := ob27 i hi; omega)
   clear K30
   refine od ?_
   refine qg ?_
   refine og 1 [(0, (Value.slice (some ⟨G4, 0, none⟩) l0.length cap5)), (2, (Value.slice none 0 0)), (7, (i64 ((l0.length : Nat) : Int))), (8, (i64 ((i : Nat) : Int))), (21, (i64 (IntKind.i64.wrap (((i : Nat) : Int) + 1))))] 1 ?_
   have e31 : IntKind.i64.wrap (((i : Nat) : Int) + 1) = ((i + 1 : Nat) : Int) := by rw [wrap_i64 (by omega) (by omega)]; omega
   rw [e31]
   clear e31
   refine og 1 [(0, (Value.slice (some ⟨G4, 0, none⟩) l0.length cap5)), (2, (Value.slice none 0 0)), (7, (i64 ((l0.length : Nat) : Int))), (8, (i64 ((i + 1 : Nat) : Int)))] 2 ?_
   refine Ops.keep (R := [(0, (Value.slice (some ⟨G4, 0, none⟩) l0.length cap5)), (2, (Value.slice none 0 0)), (7, (i64 ((l0.length : Nat) : Int))), (8, (i64 ((i + 1 : Nat) : Int)))]) (by kernel_rfl) ?_
   refine od ?_
   exact ⟨(i + 1, (l.set i ⟨x.term, A21, c22, x.cmd⟩)), ⟨rfl, (by rw [List.length_set]; exact hln), (by rw [key_set A21 c22 hx]; exact hK), (by rw [List.length_append, flat_len EntP.two, List.length_set, hln]; rw [List.length_append, flat_len EntP.two] at hc11; exact hc11), (by rw [take_set_succ hx]; exact EntsMine.snoc hM O26 fun gg o s hA => by have hA : A21 = some ⟨gg, o, s⟩ := hA; have := World.ownsRow.lt O26 gg (by rw [hA]; rfl); exact ⟨this.1, this.2, fun q => by have := ob27 gg (by rw [hA]; rfl); simp [Value.ownBlock] at q; omega⟩), (by rw [drop_set_succ]; have q := congrArg (List.drop 1) hD; simpa [List.drop_drop] using q), (by omega), K17, H29⟩, (show l0.length - (i + 1) < l0.length - i from by omega)⟩
  ·rw [h19]
   have p32 : ¬ (((i : Nat) : Int) < ((l0.length : Nat) : Int)) := of_decide_eq_false h19
   refine q_exit (id := 0) (by kernel_rfl) ?_
   refine qs ?_
   refine qg ?_
   refine og 2 [(2, (Value.slice (some ⟨G4, 0, none⟩) l0.length cap5))] 2 ?_
   refine od ?_
   refine q_ret (by kernel_rfl) ?_
   refine ⟨(Value.slice (some ⟨G4, 0, none⟩) l0.length cap5), retv_tmp rfl rfl, ?_⟩
   have hMl : EntsMine 5 w16 w.heap.size (.slice (some ⟨G4, 0, none⟩) l.length cap5) l := by rw [List.take_of_length_le (by omega)] at hM; rw [hln]; exact hM
   exact ⟨l, some ⟨G4, 0, none⟩, cap5, by rw [hln], K17, LogE.mine nG4 H18 (by omega) hc10 hR hMl, hK⟩

theorem CopyM_calls (w : World) (T : Nat → Prop) (g0 : Nat) (base old : Int) (A : Option Addr) (c : Nat) (l : List EntP) (H0 : Has w g0 (rowL [i64 base, i64 old, .slice A l.length c] 78)) (hE : Ents w T (.slice A l.length c) l) (hT : ∀ i, T i → i ≠ g0) (hB : 0 ≤ base ∧ base ≤ 2305843009213693952) (hL : l.length ≤ 4096) (hBig : BigK (l.map EntP.key)) : Calls Try.prog 35 ⟨[(ptr g0)]⟩ w (fun e w' => ∃ g l' A' c', e = .returned (ptr g) ∧ w.heap.size ≤ g ∧ Keeps none_ w w' ∧ Has w' g (rowL [i64 base, i64 old, .slice A' l'.length c'] 78) ∧ LogE w' w.heap.size 43 (fun i => (w.heap.size ≤ i ∧ i < w'.heap.size) ∧ i ≠ g) (.slice A' l'.length c') l' ∧ l'.map EntP.key = (l.map EntP.key)) := by
 have hcap := Ents.len hE
 have Hg := H0.lt
 have hcm := hcap.2.2
 unfold maxLen at hcm
 have K0 : Keeps none_ w w := Keeps.refl w
 refine q_calls Try.func35 (by kernel_rfl) (by kernel_rfl) ?_
 refine qs ?_
 refine qg ?_
 refine og 1 [(0, (ptr g0)), (2, (Value.pointer none))] 1 ?_
 refine od ?_
 refine qs ?_
 refine qs ?_
 refine qg ?_
 refine og 2 [(0, (ptr g0)), (2, (Value.pointer none)), (4, (Value.bool false))] 2 ?_
 refine od ?_
 refine q_else (o := .tmp 4) (by kernel_rfl) rfl ?_
 refine q_skip (by kernel_rfl) ?_
 refine qs ?_
 refine q_draw (fun wz => Keeps none_ w wz) 16 (by kernel_rfl) (by kernel_rfl) (by kernel_rfl) (fun w1 K2 _ _ => ⟨K2, ?_⟩)
 replace K0 := K0.t0 K2
 replace H0 := H0.keep K2 (fun h => h)
 replace hE := Ents.keep0 hE K2
 refine Dr.strong (S' := (fun wz => Keeps none_ w1 wz)) (Keeps.refl w1) (fun wz hx => K2.trans hx (fun i _ h => h) (fun _ _ h => h)) ?_
 clear K2
 refine Dr.takes (fuel' := 13) (is' := _) [0, 1, 2] [(0, (ptr g0)), (2, (Value.pointer none)), (7, (ptr g0))] (by kernel_rfl) rfl (by kernel_rfl) ?_
 refine Dr.take (i := 3) (v := (i64 base)) (by kernel_rfl) (by kernel_rfl) (fun wz hS => Runs.load (t := 2) (a := ⟨g0, 0, none⟩) (by kernel_rfl) ((H0.keep hS (fun h => h)).loads (by kernel_rfl))) (d := (some 8)) (by kernel_rfl) rfl ?_
 refine Dr.takes (fuel' := 9) (is' := _) [4, 5, 6] [(0, (ptr g0)), (2, (Value.pointer none)), (8, (i64 base)), (11, (Value.pointer (some ⟨g0, 1, none⟩)))] (by kernel_rfl) rfl (by kernel_rfl) ?_
 refine Dr.take (i := 7) (v := (i64 old)) (by kernel_rfl) (by kernel_rfl) (fun wz hS => Runs.load (t := 2) (a := ⟨g0, 1, none⟩) (by kernel_rfl) ((H0.keep hS (fun h => h)).loads (by kernel_rfl))) (d := (some 12)) (by kernel_rfl) rfl ?_
 refine Dr.takes (fuel' := 5) (is' := _) [8, 9, 10] [(2, (Value.pointer none)), (8, (i64 base)), (12, (i64 old)), (15, (Value.pointer (some ⟨g0, 2, none⟩)))] (by kernel_rfl) rfl (by kernel_rfl) ?_
 refine Dr.take (i := 11) (v := (Value.slice A l.length c)) (by kernel_rfl) (by kernel_rfl) (fun wz hS => Runs.load (t := 22) (a := ⟨g0, 2, none⟩) (by kernel_rfl) ((H0.keep hS (fun h => h)).loads (by kernel_rfl))) (d := (some 16)) (by kernel_rfl) rfl ?_
 refine Dr.call (i := 12) (by kernel_rfl) (by kernel_rfl) (d := (some 17)) (by kernel_rfl) (fun _ => ownM_calls _ T A c l hE (BigK.l hBig) (by omega)) ?_
 rintro _ w6 ⟨l3, A4, c5, rfl, K7, hM13, hK9⟩
 have hE8 := hM13.ents
 have ot10 : ∀ i, (fun i => w1.heap.size ≤ i ∧ i < w6.heap.size) i → i ≠ g0 := fun i hi => by have := hi.1; have := H0.lt; omega
 have hz11 := K0.size
 have hn12 := keys_len2 hK9
 try rw [List.length_drop] at hn12
 try rw [List.length_append] at hn12
 try rw [List.length_map] at hn12
 try rw [List.length_map] at hn12
 replace K0 := K0.t0 K7
 replace H0 := H0.keep K7 (fun h => h)
 replace hE := Ents.keep0 hE K7
 refine ⟨_, _, rfl, rfl, K7, ?_⟩
 refine Dr.strong (S' := (fun wz => Keeps none_ w6 wz)) (Keeps.refl w6) (fun wz hx => K7.trans hx (fun i _ h => h) (fun _ _ h => h)) ?_
 clear K7
 refine Dr.takes (fuel' := 2) (is' := _) [13] [(2, (Value.pointer none)), (18, (agg [(i64 base), (i64 old), (Value.slice A4 l3.length c5)]))] (by kernel_rfl) rfl (by kernel_rfl) ?_
 refine Dr.new (i := 14) (o := rowL [(i64 base), (i64 old), (Value.slice A4 l3.length c5)] 78) (V := fun b => (ptr b)) (by kernel_rfl) (by kernel_rfl) (d := (some 19)) (by kernel_rfl) (fun b => rfl) (fun b14 w15 hb16 H17 K18 hs19 => ?_)
 have lb14g0 : g0 < b14 := by have := H0.lt; omega
 have nb14 : w.heap.size ≤ b14 := by have := K0.size; omega
 have ot20 : ∀ i, T i → i ≠ b14 := fun i hi => by have := Ents.lt hE i hi; omega
 have ot21 : ∀ i, (fun i => w1.heap.size ≤ i ∧ i < w6.heap.size) i → i ≠ b14 := fun i hi => by have := Ents.lt hE8 i hi; omega
 replace K0 := K0.t0 K18
 replace H0 := H0.keep K18 (fun h => h)
 replace hE := Ents.keep0 hE K18
 replace hE8 := Ents.keep0 hE8 K18
 replace hM13 := LogE.keep0 hM13 K18
 refine ⟨K18, ?_⟩
 refine Dr.strong (S' := (fun wz => Keeps none_ w15 wz)) (Keeps.refl w15) (fun wz hx => K18.trans hx (fun i _ h => h) (fun _ _ h => h)) ?_
 clear K18 hs19
 refine Dr.takes (fuel' := 0) (is' := _) [15] [(2, (ptr b14))] (by kernel_rfl) rfl (by kernel_rfl) ?_
 refine Dr.done (by kernel_rfl) ?_
 refine q_ret (by kernel_rfl) ?_
 refine ⟨(ptr b14), retv_tmp rfl rfl, ?_⟩
 exact ⟨b14, l3, A4, c5, rfl, nb14, K0, H17, ⟨(hM13).ents.mono (fun i hi => ⟨⟨by have := hi.1; omega, Ents.lt hE8 i hi⟩, ot21 i hi⟩) (fun i hi => hi.1.2), own_base hM13.own (by first | omega | exact Nat.le_refl _ | exact hz0), hM13.apart, fun i hi => ⟨⟨by have := (hM13.ownT i hi).1; omega, Ents.lt hE8 i (hM13.ownT i hi)⟩, ot21 i (hM13.ownT i hi)⟩⟩, hK9⟩
end Go.Proofs.Ytnmpepjikfbpdaa
namespace Go.Proofs.Ytnmpepjikfbpdaa
open Go.Q Go.RowKit

theorem within_calls (w : World) (n lo hi : Int)  : Calls Try.prog 34 ⟨[(i64 n), (i64 lo), (i64 hi)]⟩ w (fun e w' => ∃ t, e = .returned (.bool t) ∧ (t = true ↔ lo ≤ n ∧ n ≤ hi) ∧ Keeps none_ w w') := by
 have K0 : Keeps none_ w w := Keeps.refl w
 refine q_calls Try.func34 (by kernel_rfl) (by kernel_rfl) ?_
 refine qs ?_
 refine qg ?_
 refine og 1 [(0, (i64 n)), (1, (i64 lo)), (2, (i64 hi)), (6, (Value.bool false))] 1 ?_
 refine od ?_
 refine qs ?_
 refine qg ?_
 refine og 4 [(0, (i64 n)), (2, (i64 hi)), (6, (Value.bool false)), (10, (Value.bool (decide (n ≥ lo))))] 4 ?_
 refine Ops.split (decide (n ≥ lo)) (fun h1 => ?_) (fun h1 => ?_)
 ·rw [h1]
  have p2 : n ≥ lo := of_decide_eq_true h1
  refine og 5 [(6, (Value.bool (decide (n ≤ hi))))] 9 ?_
  refine od ?_
  refine q_ret (by kernel_rfl) ?_
  refine ⟨(Value.bool (decide (n ≤ hi))), retv_tmp rfl rfl, ?_⟩
  exact ⟨_, rfl, by first | (simp only [decide_eq_true_eq, Bool.false_eq_true, false_iff, true_iff]; omega) | (simp; omega), K0⟩
 ·rw [h1]
  have p3 : ¬ (n ≥ lo) := of_decide_eq_false h1
  refine og 5 [(6, (Value.bool false))] 9 ?_
  refine od ?_
  refine q_ret (by kernel_rfl) ?_
  refine ⟨(Value.bool false), retv_tmp rfl rfl, ?_⟩
  exact ⟨_, rfl, by first | (simp only [decide_eq_true_eq, Bool.false_eq_true, false_iff, true_iff]; omega) | (simp; omega), K0⟩

set_option maxHeartbeats 1000000 in
theorem RNew_calls (w : World) (group term voted commit : Int) (T : Nat → Prop) (g : Nat) (base old : Int) (A : Option Addr) (c : Nat) (l : List EntP) (H0 : Has w g (rowL [i64 base, i64 old, .slice A l.length c] 78)) (hE : Ents w T (.slice A l.length c) l) (hT : ∀ i, T i → i ≠ g) (hB : 0 ≤ base ∧ base ≤ 2305843009213693952) (hL : l.length ≤ 4096) (hBig : BigK (l.map EntP.key)) (hgr : 0 ≤ group ∧ group ≤ 3) (ht : lastK base old (l.map EntP.key) ≤ term ∧ term ≤ 1152921504606846976) (hv : -1 ≤ voted ∧ voted < 1) (hc : base ≤ commit ∧ commit ≤ base + (l.length : Int)) : Calls Try.prog 12 ⟨[(i64 group), (i64 0), (i64 1), (i64 term), (i64 voted), (ptr g), (i64 commit)]⟩ w (fun e w' => ∃ r g2 l' A' c' T', e = .returned (.tuple #[ptr r, i64 0]) ∧ Keeps none_ w w' ∧ w.heap.size ≤ r ∧ w.heap.size ≤ g2 ∧ r ≠ g2 ∧ Has w' r (rowL [(i64 term), (i64 voted), (i64 0), (i64 (-1)), (i64 commit), (i64 group), (i64 0), (i64 1), (ptr g2), (i64 0), (i64 10), (Value.slice none 0 0), (Value.map none), (Value.slice none 0 0), (Value.pointer none), (Value.pointer none), (Value.bool false), (Value.slice none 0 0)] 84) ∧ Has w' g2 (rowL [i64 base, i64 old, .slice A' l'.length c'] 78) ∧ LogE w' w.heap.size 43 T' (.slice A' l'.length c') l' ∧ l'.map EntP.key = (l.map EntP.key) ∧ ∀ i, T' i → i ≠ g2 ∧ i ≠ r ∧ w.heap.size ≤ i) := by
 have hcap := Ents.len hE
 have Hg := H0.lt
 have K0 : Keeps none_ w w := Keeps.refl w
 refine q_calls Try.func12 (by kernel_rfl) (by kernel_rfl) ?_
 refine qs ?_
 refine qg ?_
 refine og 2 [(0, (i64 group)), (1, (i64 0)), (2, (i64 1)), (3, (i64 term)), (4, (i64 voted)), (5, (ptr g)), (6, (i64 commit)), (14, (Value.pointer none)), (15, (i64 0))] 2 ?_
 refine od ?_
 refine qs ?_
 refine qs ?_
 refine qg ?_
 refine og 2 [(0, (i64 group)), (1, (i64 0)), (2, (i64 1)), (3, (i64 term)), (4, (i64 voted)), (5, (ptr g)), (6, (i64 commit)), (14, (Value.pointer none)), (15, (i64 0)), (22, (Value.bool false))] 2 ?_
 refine od ?_
 refine q_else (o := .tmp 22) (by kernel_rfl) rfl ?_
 refine q_skip (by kernel_rfl) ?_
 refine qs ?_
 refine qg ?_
 refine og 1 [(0, (i64 group)), (1, (i64 0)), (2, (i64 1)), (3, (i64 term)), (4, (i64 voted)), (5, (ptr g)), (6, (i64 commit)), (14, (Value.pointer none)), (15, (i64 0)), (24, (ptr g))] 1 ?_
 refine Ops.call (by kernel_rfl) (d := (some 25)) (by kernel_rfl) (Base_calls _ T g base old A c l H0 hE hT (by omega) (by omega)) ?_
 rintro _ w2 ⟨rfl, K1⟩
 refine ⟨_, _, rfl, rfl, ?_⟩
 replace K0 := K0.t0 K1
 replace H0 := H0.keep K1 (fun h => h)
 replace hE := Ents.keep0 hE K1
 clear K1
 refine og 5 [(0, (i64 group)), (1, (i64 0)), (2, (i64 1)), (3, (i64 term)), (4, (i64 voted)), (5, (ptr g)), (6, (i64 commit)), (14, (Value.pointer none)), (15, (i64 0)), (16, (i64 base))] 7 ?_
 refine od ?_
 refine qs ?_
 refine qg ?_
 refine og 1 [(0, (i64 group)), (1, (i64 0)), (2, (i64 1)), (3, (i64 term)), (4, (i64 voted)), (5, (ptr g)), (6, (i64 commit)), (14, (Value.pointer none)), (15, (i64 0)), (16, (i64 base)), (29, (ptr g))] 1 ?_
 refine Ops.call (by kernel_rfl) (d := (some 30)) (by kernel_rfl) (Last_calls _ T g base old A c l H0 hE hT (by omega) (by omega)) ?_
 rintro _ w4 ⟨rfl, K3⟩
 refine ⟨_, _, rfl, rfl, ?_⟩
 replace K0 := K0.t0 K3
 replace H0 := H0.keep K3 (fun h => h)
 replace hE := Ents.keep0 hE K3
 clear K3
 refine og 5 [(0, (i64 group)), (1, (i64 0)), (2, (i64 1)), (3, (i64 term)), (4, (i64 voted)), (5, (ptr g)), (6, (i64 commit)), (14, (Value.pointer none)), (15, (i64 0)), (16, (i64 base)), (18, (i64 (base + ((l.length : Nat) : Int)))), (19, (i64 (lastK base old (l.map EntP.key))))] 7 ?_
 refine od ?_
 refine qs ?_
 refine qs ?_
 refine qg ?_
 refine og 3 [(0, (i64 group)), (1, (i64 0)), (2, (i64 1)), (3, (i64 term)), (4, (i64 voted)), (5, (ptr g)), (6, (i64 commit)), (14, (Value.pointer none)), (15, (i64 0)), (16, (i64 base)), (18, (i64 (base + ((l.length : Nat) : Int)))), (19, (i64 (lastK base old (l.map EntP.key)))), (35, (Value.bool (decide (group < 0))))] 3 ?_
 have h5 : (decide (group < 0)) = false := decide_eq_false (by omega)
 rw [h5]
 refine og 4 [(0, (i64 group)), (1, (i64 0)), (2, (i64 1)), (3, (i64 term)), (4, (i64 voted)), (5, (ptr g)), (6, (i64 commit)), (14, (Value.pointer none)), (15, (i64 0)), (16, (i64 base)), (18, (i64 (base + ((l.length : Nat) : Int)))), (19, (i64 (lastK base old (l.map EntP.key)))), (39, (Value.bool (decide (group > 3))))] 7 ?_
 have h6 : (decide (group > 3)) = false := decide_eq_false (by omega)
 rw [h6]
 refine og 19 [(0, (i64 group)), (1, (i64 0)), (2, (i64 1)), (3, (i64 term)), (4, (i64 voted)), (5, (ptr g)), (6, (i64 commit)), (14, (Value.pointer none)), (15, (i64 0)), (16, (i64 base)), (18, (i64 (base + ((l.length : Nat) : Int)))), (56, (Value.bool false)), (57, (i64 term)), (58, (i64 (lastK base old (l.map EntP.key))))] 26 ?_
 refine Ops.call (by kernel_rfl) (d := (some 59)) (by kernel_rfl) (within_calls _ term (lastK base old (l.map EntP.key)) 1152921504606846976) ?_
 rintro _ w10 ⟨t7, rfl, ht8, K9⟩
 refine ⟨_, _, rfl, rfl, ?_⟩
 replace K0 := K0.t0 K9
 replace H0 := H0.keep K9 (fun h => h)
 replace hE := Ents.keep0 hE K9
 clear K9
 refine og 3 [(0, (i64 group)), (1, (i64 0)), (2, (i64 1)), (3, (i64 term)), (4, (i64 voted)), (5, (ptr g)), (6, (i64 commit)), (14, (Value.pointer none)), (15, (i64 0)), (16, (i64 base)), (18, (i64 (base + ((l.length : Nat) : Int)))), (62, (Value.bool (!t7)))] 30 ?_
 have h11 : (!t7) = false := by rw [show t7 = true from ht8.2 ⟨by omega, by omega⟩]; rfl
 rw [h11]
 refine og 4 [(0, (i64 group)), (1, (i64 0)), (2, (i64 1)), (3, (i64 term)), (4, (i64 voted)), (5, (ptr g)), (6, (i64 commit)), (14, (Value.pointer none)), (15, (i64 0)), (16, (i64 base)), (18, (i64 (base + ((l.length : Nat) : Int)))), (66, (Value.bool (decide (voted < (-1)))))] 34 ?_
 have h12 : (decide (voted < (-1))) = false := decide_eq_false (by omega)
 rw [h12]
 refine og 5 [(0, (i64 group)), (1, (i64 0)), (2, (i64 1)), (3, (i64 term)), (4, (i64 voted)), (5, (ptr g)), (6, (i64 commit)), (14, (Value.pointer none)), (15, (i64 0)), (16, (i64 base)), (18, (i64 (base + ((l.length : Nat) : Int)))), (71, (Value.bool (decide (voted ≥ 1))))] 39 ?_
 have h13 : (decide (voted ≥ 1)) = false := decide_eq_false (by omega)
 rw [h13]
 refine og 3 [(0, (i64 group)), (1, (i64 0)), (2, (i64 1)), (3, (i64 term)), (4, (i64 voted)), (5, (ptr g)), (6, (i64 commit)), (14, (Value.pointer none)), (15, (i64 0)), (71, (Value.bool false)), (72, (i64 commit)), (73, (i64 base)), (74, (i64 (base + ((l.length : Nat) : Int))))] 42 ?_
 refine Ops.call (by kernel_rfl) (d := (some 75)) (by kernel_rfl) (within_calls _ commit base (base + ((l.length : Nat) : Int))) ?_
 rintro _ w17 ⟨t14, rfl, ht15, K16⟩
 refine ⟨_, _, rfl, rfl, ?_⟩
 replace K0 := K0.t0 K16
 replace H0 := H0.keep K16 (fun h => h)
 replace hE := Ents.keep0 hE K16
 clear K16
 refine og 2 [(0, (i64 group)), (1, (i64 0)), (2, (i64 1)), (3, (i64 term)), (4, (i64 voted)), (5, (ptr g)), (6, (i64 commit)), (14, (Value.pointer none)), (15, (i64 0)), (77, (Value.bool (!t14)))] 45 ?_
 refine od ?_
 have h18 : (!t14) = false := by rw [show t14 = true from ht15.2 ⟨by omega, by omega⟩]; rfl
 rw [h18]
 refine q_else (o := .tmp 77) (by kernel_rfl) rfl ?_
 refine q_skip (by kernel_rfl) ?_
 refine qs ?_
 refine qg ?_
 refine og 8 [(14, (Value.pointer none)), (15, (i64 0)), (81, (agg [(i64 term), (i64 voted), (i64 0), (i64 (-1)), (i64 commit)])), (82, (i64 group)), (83, (i64 0)), (84, (i64 1)), (85, (ptr g))] 8 ?_
 refine Ops.call (by kernel_rfl) (d := (some 86)) (by kernel_rfl) (CopyM_calls _ T g base old A c l H0 hE hT (by omega) (by omega) hBig) ?_
 rintro _ w23 ⟨g19, l20, A21, c22, rfl, hg28, K24, H25, hM33, hK27⟩
 have hE26 := hM33.ents
 have hz34 := K0.size
 replace hM33 := hM33.base (bs' := w.heap.size) hz34
 have ot29 : ∀ i, (fun i => (w17.heap.size ≤ i ∧ i < w23.heap.size) ∧ i ≠ g19) i → i ≠ g := fun i hi => by have := hi.1.1; have := H0.lt; omega
 have lg19g : g < g19 := by have := H0.lt; omega
 have ot30 : ∀ i, T i → i ≠ g19 := fun i hi => by have := Ents.lt hE i hi; omega
 have ot31 : ∀ i, (fun i => (w17.heap.size ≤ i ∧ i < w23.heap.size) ∧ i ≠ g19) i → i ≠ g19 := fun i hi => hi.2
 have ng19 : w.heap.size ≤ g19 := by have := K0.size; omega
 have hn32 := keys_len2 hK27
 try rw [List.length_drop] at hn32
 try rw [List.length_append] at hn32
 try rw [List.length_map] at hn32
 try rw [List.length_map] at hn32
 have ot35 : ∀ i, ((Value.slice A21 l20.length c22)).ownBlock = some i → i ≠ g := fun i hi => ot29 i (hM33.ownT i hi)
 have ot36 : ∀ i, ((Value.slice A21 l20.length c22)).ownBlock = some i → i ≠ g19 := fun i hi => ot31 i (hM33.ownT i hi)
 refine ⟨_, _, rfl, rfl, ?_⟩
 replace K0 := K0.t0 K24
 replace H0 := H0.keep K24 (fun h => h)
 replace hE := Ents.keep0 hE K24
 clear K24
 refine og 1 [(14, (Value.pointer none)), (15, (i64 0)), (87, (agg [(i64 term), (i64 voted), (i64 0), (i64 (-1)), (i64 commit), (i64 group), (i64 0), (i64 1), (ptr g19), (i64 0), (i64 0), (Value.slice none 0 0), (Value.map none), (Value.slice none 0 0), (Value.pointer none), (Value.pointer none), (Value.bool false), (Value.slice none 0 0)]))] 10 ?_
 refine Ops.new (o := rowL [(i64 term), (i64 voted), (i64 0), (i64 (-1)), (i64 commit), (i64 group), (i64 0), (i64 1), (ptr g19), (i64 0), (i64 0), (Value.slice none 0 0), (Value.map none), (Value.slice none 0 0), (Value.pointer none), (Value.pointer none), (Value.bool false), (Value.slice none 0 0)] 84) (V := fun b => (ptr b)) (by kernel_rfl) (d := (some 88)) (by kernel_rfl) (fun b => rfl) (fun b37 w38 hb39 H40 K41 hs42 => ?_)
 have lb37g : g < b37 := by have := H0.lt; omega
 have lb37g19 : g19 < b37 := by have := H25.lt; omega
 have nb37 : w.heap.size ≤ b37 := by have := K0.size; omega
 have ot43 : ∀ i, T i → i ≠ b37 := fun i hi => by have := Ents.lt hE i hi; omega
 have ot44 : ∀ i, (fun i => (w17.heap.size ≤ i ∧ i < w23.heap.size) ∧ i ≠ g19) i → i ≠ b37 := fun i hi => by have := Ents.lt hE26 i hi; omega
 have ot45 : ∀ i, ((Value.slice A21 l20.length c22)).ownBlock = some i → i ≠ b37 := fun i hi => ot44 i (hM33.ownT i hi)
 replace K0 := K0.t0 K41
 replace H0 := H0.keep K41 (fun h => h)
 replace H25 := H25.keep K41 (fun h => h)
 replace hE := Ents.keep0 hE K41
 replace hE26 := Ents.keep0 hE26 K41
 replace hM33 := LogE.keep0 hM33 K41
 clear K41 hs42
 refine og 1 [(14, (Value.pointer none)), (15, (i64 0)), (20, (ptr b37))] 12 ?_
 refine od ?_
 refine qs ?_
 refine qg ?_
 refine og 1 [(14, (Value.pointer none)), (15, (i64 0)), (20, (ptr b37)), (89, (ptr b37))] 1 ?_
 refine Ops.call (by kernel_rfl) (d := (some 90)) (by kernel_rfl) (wait_calls _ b37 g19 term voted 0 (-1) commit group 0 0 (Value.map none) (Value.slice none 0 0) H40) ?_
 rintro _ w47 ⟨rfl, K46, H48⟩
 refine ⟨_, _, rfl, rfl, ?_⟩
 replace K0 := K0.trans K46 (U := none_) (fun i h1 h2 => h2) (fun i h1 h2 => by have h2 : i = b37 := h2; exfalso; omega)
 replace H0 := H0.k1 K46 (by omega)
 replace H25 := H25.k1 K46 (by omega)
 replace hE := Ents.keep hE K46 ot43
 replace hE26 := Ents.keep hE26 K46 ot44
 replace hM33 := LogE.keep hM33 K46 ot44
 clear K46
 refine od ?_
 refine qs ?_
 refine qg ?_
 refine og 3 [(14, (ptr b37)), (15, (i64 0))] 3 ?_
 refine od ?_
 refine q_ret (by kernel_rfl) ?_
 refine ⟨(Value.tuple #[(ptr b37), (i64 0)]), retv_tmp2 rfl rfl rfl, ?_⟩
 exact ⟨b37, g19, l20, A21, c22, _, rfl, K0, nb37, ng19, by omega, H48, H25, hM33, hK27, fun i hi => ⟨ot31 i hi, ot44 i hi, by have := hi.1.1; omega⟩⟩
end Go.Proofs.Ytnmpepjikfbpdaa
namespace Go.Proofs.Ytnmpepjikfbpdaa
open Go.Q Go.RowKit

def KF (kv : Value) (i : Nat) : Prop := kv = ptr i
def ImgK (w : World) (kv : Value) : Prop := kv = .pointer none ∨ ∃ (kb : Nat) (a t : Int) (D : Option Addr) (n c : Nat), kv = ptr kb ∧ Has w kb (rowL [i64 a, i64 t, .slice D n c] 110)
theorem ImgK.keep {S : Nat → Prop} {w w' : World} {kv : Value} (h : ImgK w kv) (K : Keeps S w w') (hS : ∀ i, KF kv i → ¬ S i) : ImgK w' kv := by
 rcases h with h | ⟨kb, a, t, D, n, c, h1, h2⟩
 ·exact .inl h
 ·exact .inr ⟨kb, a, t, D, n, c, h1, h2.keep K (hS kb h1)⟩
theorem ImgK.lt {w : World} {kv : Value} (h : ImgK w kv) : ∀ i, KF kv i → i < w.heap.size := by
 intro i hi
 rcases h with h | ⟨kb, a, t, D, n, c, h1, h2⟩
 ·rw [h] at hi; cases hi
 ·rw [h1] at hi; cases hi; exact h2.lt
def ImgC (w : World) (CF : Nat → Prop) (cv : Value) : Prop := (∀ i, CF i → i < w.heap.size) ∧ (cv = .pointer none ∨ ∃ (cb : Nat) (a t : Int) (D : Option Addr) (dc : Nat) (data : List UInt8), cv = ptr cb ∧ Has w cb (rowL [i64 a, i64 t, .slice D data.length dc] 110) ∧ OwnB w 0 5 (.slice D data.length dc) data ∧ data.length ≤ 65536 ∧ CF cb ∧ (∀ i, (Value.slice D data.length dc).ownBlock = some i → CF i ∧ i ≠ cb))
theorem ImgC.keep {S CF : Nat → Prop} {w w' : World} {cv : Value} (h : ImgC w CF cv) (K : Keeps S w w') (hS : ∀ i, CF i → ¬ S i) : ImgC w' CF cv := by
 obtain ⟨h0, h⟩ := h
 refine ⟨fun i hi => Nat.lt_of_lt_of_le (h0 i hi) K.size, ?_⟩
 rcases h with h | ⟨cb, a, t, D, dc, data, h1, h2, h3, h4, h5, h6⟩
 ·exact .inl h
 ·exact .inr ⟨cb, a, t, D, dc, data, h1, h2.keep K (hS cb h5), own_keep h3 K (fun i hi => hS i (h6 i hi).1), h4, h5, h6⟩
/-- What is in a follower. -/
structure FolS where
 term : Int
 voted : Int
 leader : Int
 commit : Int
 elapsed : Int
 base : Int
 old : Int
 ks : Ks
structure FolQ where
 group : Int
 me : Int
 n : Int
 timeout : Int
structure FolS.Ok (s : FolS) : Prop where
 base : 0 ≤ s.base ∧ s.base ≤ 1152921504606846976
 len : s.ks.length ≤ 4096
 big : BigK s.ks
 commit : s.base ≤ s.commit ∧ s.commit ≤ 2305843009213693952
structure OutM where
 kind : Int
 to : Int
 term : Int
 index : Int
 commit : Int
 ok : Bool
/-- What is to be sent: nothing, or one message in new memory. -/
def OutIs (w : World) (lo : Nat) (q : FolQ) (ov : Value) : Option OutM → Prop
 | none => ov = .slice none 0 0
 | some o => ∃ (ob cap : Nat) (rest : List Value), ov = .slice (some ⟨ob, 0, none⟩) 1 cap ∧ lo ≤ ob ∧ Has w ob (rowL ([i64 o.kind, i64 q.group, i64 q.me, i64 o.to, i64 o.term, i64 o.index, i64 0, i64 o.commit, .bool o.ok, .slice none 0 0, .slice none 0 0] ++ rest) 46)
/-- A message's cells. -/
def MV (k : Int) (ok : Bool) (m : MsgP) (E : Option Addr) (ec : Nat) (D : Option Addr) (dc : Nat) : Value := agg [i64 k, i64 m.group, i64 m.frm, i64 m.to, i64 m.term, i64 m.index, i64 m.logTerm, i64 m.commit, .bool ok, .slice E m.entries.length ec, .slice D m.data.length dc]
/-- The replica r follows; all that it holds lies in F; cell 17 is ov. -/
def Fol (w : World) (F : Nat → Prop) (r : Nat) (q : FolQ) (s : FolS) (ov : Value) : Prop :=
 ∃ (g : Nat) (T CF : Nat → Prop) (A : Option Addr) (c : Nat) (l : List EntP) (kv cv : Value) (came : Bool),
  Has w r (rowL [i64 s.term, i64 s.voted, i64 0, i64 s.leader, i64 s.commit, i64 q.group, i64 q.me, i64 q.n, ptr g, i64 s.elapsed, i64 q.timeout, .slice none 0 0, .map none, .slice none 0 0, kv, cv, .bool came, ov] 84) ∧
  Has w g (rowL [i64 s.base, i64 s.old, .slice A l.length c] 78) ∧ Ents w T (.slice A l.length c) l ∧ l.map EntP.key = s.ks ∧ ImgK w kv ∧ ImgC w CF cv ∧
  (∀ i, T i → i ≠ r ∧ i ≠ g ∧ ¬ CF i ∧ F i) ∧ (∀ i, KF kv i → i ≠ r ∧ i ≠ g ∧ ¬ CF i ∧ F i) ∧ (∀ i, CF i → i ≠ r ∧ i ≠ g ∧ F i) ∧ r ≠ g ∧ F r ∧ F g ∧ s.Ok
theorem Fol.keep {S F : Nat → Prop} {w w' : World} {r : Nat} {q : FolQ} {s : FolS} {ov : Value} (h : Fol w F r q s ov) (K : Keeps S w w') (hS : ∀ i, F i → ¬ S i) : Fol w' F r q s ov := by
 obtain ⟨g, T, CF, A, c, l, kv, cv, came, h1, h2, h3, h4, h5, h6, h7, h8, h9, h10, h11, h12, h13⟩ := h
 exact ⟨g, T, CF, A, c, l, kv, cv, came, h1.keep K (hS r h11), h2.keep K (hS g h12), h3.keep K (fun i hi => hS i (h7 i hi).2.2.2), h4, h5.keep K (fun i hi => hS i (h8 i hi).2.2.2), h6.keep K (fun i hi => hS i (h9 i hi).2.2), h7, h8, h9, h10, h11, h12, h13⟩
def FolL (w : World) (F : Nat → Prop) (r : Nat) (q : FolQ) (s : FolS) (ov : Value) : Prop := Fol w F r q s ov ∧ ∀ i, F i → i < w.heap.size
theorem FolL.keep {S F : Nat → Prop} {w w' : World} {r : Nat} {q : FolQ} {s : FolS} {ov : Value} (h : FolL w F r q s ov) (K : Keeps S w w') (hS : ∀ i, F i → ¬ S i) : FolL w' F r q s ov := ⟨h.1.keep K hS, fun i hi => Nat.lt_of_lt_of_le (h.2 i hi) K.size⟩
theorem Fol.big {F : Nat → Prop} {w : World} {r : Nat} {q : FolQ} {s : FolS} {ov : Value} (h : Fol w F r q s ov) : BigK s.ks := by
 obtain ⟨g, T, CF, A, c, l, kv, cv, came, h1, h2, h3, h4, h5, h6, h7, h8, h9, h10, h11, h12, h13⟩ := h
 exact h13.big
theorem Fol.rmem {F : Nat → Prop} {w : World} {r : Nat} {q : FolQ} {s : FolS} {ov : Value} (h : Fol w F r q s ov) : F r := by
 obtain ⟨g, T, CF, A, c, l, kv, cv, came, h1, h2, h3, h4, h5, h6, h7, h8, h9, h10, h11, h12, h13⟩ := h
 exact h11
theorem Fol.ok {F : Nat → Prop} {w : World} {r : Nat} {q : FolQ} {s : FolS} {ov : Value} (h : Fol w F r q s ov) : s.Ok := by
 obtain ⟨g, T, CF, A, c, l, kv, cv, came, h1, h2, h3, h4, h5, h6, h7, h8, h9, h10, h11, h12, h13⟩ := h
 exact h13
theorem Fol.wide {F G : Nat → Prop} {w : World} {r : Nat} {q : FolQ} {s : FolS} {ov : Value} (h : Fol w F r q s ov) (hG : ∀ i, F i → G i) : Fol w G r q s ov := by
 obtain ⟨g, T, CF, A, c, l, kv, cv, came, h1, h2, h3, h4, h5, h6, h7, h8, h9, h10, h11, h12, h13⟩ := h
 exact ⟨g, T, CF, A, c, l, kv, cv, came, h1, h2, h3, h4, h5, h6, fun i hi => ⟨(h7 i hi).1, (h7 i hi).2.1, (h7 i hi).2.2.1, hG i (h7 i hi).2.2.2⟩, fun i hi => ⟨(h8 i hi).1, (h8 i hi).2.1, (h8 i hi).2.2.1, hG i (h8 i hi).2.2.2⟩, fun i hi => ⟨(h9 i hi).1, (h9 i hi).2.1, hG i (h9 i hi).2.2⟩, h10, hG r h11, hG g h12, h13⟩

theorem Ffollow_calls (w : World) (r g : Nat) (term voted leader commit group me n elapsed timeout : Int) (kv cv : Value) (came : Bool) (who : Int) (Hr : Has w r (rowL [(i64 term), (i64 voted), (i64 0), (i64 leader), (i64 commit), (i64 group), (i64 me), (i64 n), (ptr g), (i64 elapsed), (i64 timeout), (Value.slice none 0 0), (Value.map none), (Value.slice none 0 0), kv, cv, (Value.bool came), (Value.slice none 0 0)] 84)) : Calls Try.prog 61 ⟨[(ptr r), (i64 who)]⟩ w (fun e w' => e = .returned (Value.tuple #[]) ∧ Keeps (fun i => i = r) w w' ∧ Has w' r (rowL [(i64 term), (i64 voted), (i64 0), (i64 who), (i64 commit), (i64 group), (i64 me), (i64 n), (ptr g), (i64 0), (i64 timeout), (Value.slice none 0 0), (Value.map none), (Value.slice none 0 0), kv, cv, (Value.bool came), (Value.slice none 0 0)] 84)) := by
 have Hrl := Hr.lt
 have K0 : Keeps (fun i => i = r) w w := (Keeps.refl w).mono (fun _ _ h => h.elim)
 refine q_calls Try.func61 (by kernel_rfl) (by kernel_rfl) ?_
 refine qg ?_
 refine og 7 [(5, (ptr r)), (6, (ptr r)), (7, (i64 who)), (10, (Value.pointer (some ⟨r, 2, none⟩)))] 7 ?_
 refine Ops.put (t := 3) (b := r) (off := 2) (v := (i64 0)) (ys := [(i64 term), (i64 voted), (i64 0), (i64 leader), (i64 commit), (i64 group), (i64 me), (i64 n), (ptr g), (i64 elapsed), (i64 timeout), (Value.slice none 0 0), (Value.map none), (Value.slice none 0 0), kv, cv, (Value.bool came), (Value.slice none 0 0)]) (by kernel_rfl) (by kernel_rfl) Hr (by kernel_rfl) (d := none) (by kernel_rfl) rfl (fun w1 H2 K3 => ?_)
 clear Hr
 replace K0 := K0.t1 K3 (fun _ => rfl)
 clear K3
 refine og 3 [(6, (ptr r)), (7, (i64 who)), (13, (Value.pointer (some ⟨r, 3, none⟩)))] 11 ?_
 refine Ops.put (t := 3) (b := r) (off := 3) (v := (i64 who)) (ys := [(i64 term), (i64 voted), (i64 0), (i64 who), (i64 commit), (i64 group), (i64 me), (i64 n), (ptr g), (i64 elapsed), (i64 timeout), (Value.slice none 0 0), (Value.map none), (Value.slice none 0 0), kv, cv, (Value.bool came), (Value.slice none 0 0)]) (by kernel_rfl) (by kernel_rfl) H2 (by kernel_rfl) (d := none) (by kernel_rfl) rfl (fun w4 H5 K6 => ?_)
 clear H2
 replace K0 := K0.t1 K6 (fun _ => rfl)
 clear K6
 refine og 2 [(15, (Value.pointer (some ⟨r, 9, none⟩)))] 14 ?_
 refine Ops.put (t := 3) (b := r) (off := 9) (v := (i64 0)) (ys := [(i64 term), (i64 voted), (i64 0), (i64 who), (i64 commit), (i64 group), (i64 me), (i64 n), (ptr g), (i64 0), (i64 timeout), (Value.slice none 0 0), (Value.map none), (Value.slice none 0 0), kv, cv, (Value.bool came), (Value.slice none 0 0)]) (by kernel_rfl) (by kernel_rfl) H5 (by kernel_rfl) (d := none) (by kernel_rfl) rfl (fun w7 H8 K9 => ?_)
 clear H5
 replace K0 := K0.t1 K9 (fun _ => rfl)
 clear K9
 refine od ?_
 refine ⟨(Value.tuple #[]), retv_none rfl, ?_⟩
 exact ⟨rfl, K0, H8⟩

theorem Fflush_calls (w : World) (r g : Nat) (term voted leader commit group me n elapsed timeout : Int) (kv cv : Value) (came : Bool) (ov : Value) (Hr : Has w r (rowL [(i64 term), (i64 voted), (i64 0), (i64 leader), (i64 commit), (i64 group), (i64 me), (i64 n), (ptr g), (i64 elapsed), (i64 timeout), (Value.slice none 0 0), (Value.map none), (Value.slice none 0 0), kv, cv, (Value.bool came), ov] 84)) : Calls Try.prog 39 ⟨[(ptr r)]⟩ w (fun e w' => e = .returned ov ∧ Keeps (fun i => i = r) w w' ∧ Has w' r (rowL [(i64 term), (i64 voted), (i64 0), (i64 leader), (i64 commit), (i64 group), (i64 me), (i64 n), (ptr g), (i64 elapsed), (i64 timeout), (Value.slice none 0 0), (Value.map none), (Value.slice none 0 0), kv, cv, (Value.bool came), (Value.slice none 0 0)] 84)) := by
 have Hrl := Hr.lt
 have K0 : Keeps (fun i => i = r) w w := (Keeps.refl w).mono (fun _ _ h => h.elim)
 refine q_calls Try.func39 (by kernel_rfl) (by kernel_rfl) ?_
 refine qs ?_
 refine qg ?_
 refine og 1 [(0, (ptr r)), (2, (Value.slice none 0 0))] 1 ?_
 refine od ?_
 refine qs ?_
 refine qg ?_
 refine og 3 [(0, (ptr r)), (2, (Value.slice none 0 0)), (6, (Value.pointer (some ⟨r, 17, none⟩)))] 3 ?_
 refine Ops.go (v := ov) (by kernel_rfl) (Runs.load (t := 32) (a := ⟨r, 17, none⟩) (by kernel_rfl) (Hr.loads (by kernel_rfl))) (d := (some 7)) (by kernel_rfl) rfl ?_
 refine og 1 [(0, (ptr r)), (2, (Value.slice none 0 0)), (3, ov)] 5 ?_
 refine od ?_
 refine qs ?_
 refine qg ?_
 refine og 3 [(2, (Value.slice none 0 0)), (3, ov), (10, (Value.pointer (some ⟨r, 17, none⟩)))] 3 ?_
 refine Ops.put (t := 32) (b := r) (off := 17) (v := (Value.slice none 0 0)) (ys := [(i64 term), (i64 voted), (i64 0), (i64 leader), (i64 commit), (i64 group), (i64 me), (i64 n), (ptr g), (i64 elapsed), (i64 timeout), (Value.slice none 0 0), (Value.map none), (Value.slice none 0 0), kv, cv, (Value.bool came), (Value.slice none 0 0)]) (by kernel_rfl) (by kernel_rfl) Hr (by kernel_rfl) (d := none) (by kernel_rfl) rfl (fun w1 H2 K3 => ?_)
 clear Hr
 replace K0 := K0.t1 K3 (fun _ => rfl)
 clear K3
 refine od ?_
 refine qs ?_
 refine qg ?_
 refine og 2 [(2, ov)] 2 ?_
 refine od ?_
 refine q_ret (by kernel_rfl) ?_
 refine ⟨ov, retv_tmp rfl rfl, ?_⟩
 exact ⟨rfl, K0, H2⟩

theorem tyM : ElemTy Try.prog 32 46 11 120 := elemTy (by kernel_rfl)

theorem Fput_calls (w : World) (r g : Nat) (term voted leader commit group me n elapsed timeout : Int) (kv cv : Value) (came : Bool) (to kind index commit_ : Int) (ok : Bool) (Hr : Has w r (rowL [(i64 term), (i64 voted), (i64 0), (i64 leader), (i64 commit), (i64 group), (i64 me), (i64 n), (ptr g), (i64 elapsed), (i64 timeout), (Value.slice none 0 0), (Value.map none), (Value.slice none 0 0), kv, cv, (Value.bool came), (Value.slice none 0 0)] 84)) : Calls Try.prog 46 ⟨[(ptr r), (i64 to), (agg [(i64 kind), (i64 0), (i64 0), (i64 0), (i64 0), (i64 index), (i64 0), (i64 commit_), (Value.bool ok), (Value.slice none 0 0), (Value.slice none 0 0)])]⟩ w (fun e w' => ∃ (ob cap : Nat) (rest : List Value), e = .returned (.tuple #[]) ∧ Keeps (fun i => i = r) w w' ∧ Has w' r (rowL [(i64 term), (i64 voted), (i64 0), (i64 leader), (i64 commit), (i64 group), (i64 me), (i64 n), (ptr g), (i64 elapsed), (i64 timeout), (Value.slice none 0 0), (Value.map none), (Value.slice none 0 0), kv, cv, (Value.bool came), (.slice (some ⟨ob, 0, none⟩) 1 cap)] 84) ∧ Has w' ob (rowL ([(i64 kind), (i64 group), (i64 me), (i64 to), (i64 term), (i64 index), (i64 0), (i64 commit_), (Value.bool ok), (Value.slice none 0 0), (Value.slice none 0 0)] ++ rest) 46) ∧ w.heap.size ≤ ob) := by
 have Hrl := Hr.lt
 have K0 : Keeps (fun i => i = r) w w := (Keeps.refl w).mono (fun _ _ h => h.elim)
 refine q_calls Try.func46 (by kernel_rfl) (by kernel_rfl) ?_
 refine qs ?_
 refine qg ?_
 refine Ops.new (o := rowL [(i64 kind), (i64 0), (i64 0), (i64 0), (i64 0), (i64 index), (i64 0), (i64 commit_), (Value.bool ok), (Value.slice none 0 0), (Value.slice none 0 0)] 46) (V := fun b => (ptr b)) (by kernel_rfl) (d := (some 5)) (by kernel_rfl) (fun b => rfl) (fun b1 w2 hb3 H4 K5 hs6 => ?_)
 have lb1r : r < b1 := by have := Hr.lt; omega
 have nb1 : w.heap.size ≤ b1 := by have := K0.size; omega
 replace K0 := K0.tn K5
 replace Hr := Hr.keep K5 (fun h => h)
 clear K5 hs6
 refine od ?_
 refine qs ?_
 refine q_draw (fun wz => Keeps (fun i => i = b1) w2 wz) 22 (by kernel_rfl) (by kernel_rfl) (by kernel_rfl) (fun w7 K8 _ _ => ⟨(K8.mono (fun _ _ h => h.elim)), ?_⟩)
 replace K0 := K0.tn K8
 replace Hr := Hr.keep K8 (fun h => h)
 replace H4 := H4.keep K8 (fun h => h)
 refine Dr.strong (S' := (fun wz => Keeps (fun i => i = b1) w7 wz)) ((Keeps.refl w7).mono (fun _ _ h => h.elim)) (fun wz hx => K8.trans hx (fun i _ h => h.elim) (fun _ _ h => h)) ?_
 clear K8
 refine Dr.takes (fuel' := 19) (is' := _) [0, 1, 2] [(0, (ptr r)), (1, (i64 to)), (5, (ptr b1)), (8, (Value.pointer (some ⟨r, 5, none⟩)))] (by kernel_rfl) rfl (by kernel_rfl) ?_
 refine Dr.take (i := 3) (v := (i64 group)) (by kernel_rfl) (by kernel_rfl) (fun wz hS => Runs.load (t := 3) (a := ⟨r, 5, none⟩) (by kernel_rfl) ((Hr.keep hS (by intro h; change r = b1 at h; omega)).loads (by kernel_rfl))) (d := (some 9)) (by kernel_rfl) rfl ?_
 refine Dr.takes (fuel' := 15) (is' := _) [4, 5, 6] [(0, (ptr r)), (1, (i64 to)), (5, (ptr b1)), (9, (i64 group)), (12, (Value.pointer (some ⟨r, 6, none⟩)))] (by kernel_rfl) rfl (by kernel_rfl) ?_
 refine Dr.take (i := 7) (v := (i64 me)) (by kernel_rfl) (by kernel_rfl) (fun wz hS => Runs.load (t := 3) (a := ⟨r, 6, none⟩) (by kernel_rfl) ((Hr.keep hS (by intro h; change r = b1 at h; omega)).loads (by kernel_rfl))) (d := (some 13)) (by kernel_rfl) rfl ?_
 refine Dr.takes (fuel' := 9) (is' := _) [8, 9, 10, 11, 12] [(0, (ptr r)), (5, (ptr b1)), (9, (i64 group)), (13, (i64 me)), (14, (i64 to)), (18, (ptr r))] (by kernel_rfl) rfl (by kernel_rfl) ?_
 refine Dr.take (i := 13) (v := (i64 term)) (by kernel_rfl) (by kernel_rfl) (fun wz hS => Runs.load (t := 2) (a := ⟨r, 0, none⟩) (by kernel_rfl) ((Hr.keep hS (by intro h; change r = b1 at h; omega)).loads (by kernel_rfl))) (d := (some 19)) (by kernel_rfl) rfl ?_
 refine Dr.takes (fuel' := 7) (is' := _) [14] [(0, (ptr r)), (5, (ptr b1)), (9, (i64 group)), (13, (i64 me)), (14, (i64 to)), (19, (i64 term)), (20, (Value.pointer (some ⟨b1, 1, none⟩)))] (by kernel_rfl) rfl (by kernel_rfl) ?_
 refine Dr.put (i := 15) (t := 3) (b := b1) (off := 1) (v := (i64 group)) (ys := [(i64 kind), (i64 group), (i64 0), (i64 0), (i64 0), (i64 index), (i64 0), (i64 commit_), (Value.bool ok), (Value.slice none 0 0), (Value.slice none 0 0)]) (by kernel_rfl) (by kernel_rfl) (by kernel_rfl) H4 (by kernel_rfl) (d := none) (by kernel_rfl) rfl (fun w9 H10 K11 => ?_)
 clear H4
 replace K0 := K0.trans K11 (U := (fun i => i = r)) (fun i h1 h2 => h2) (fun i h1 h2 => by have h2 : i = b1 := h2; show i = r; omega)
 replace Hr := Hr.k1 K11 (by omega)
 refine ⟨K11, ?_⟩
 refine Dr.strong (S' := (fun wz => Keeps (fun i => i = b1) w9 wz)) ((Keeps.refl w9).mono (fun _ _ h => h.elim)) (fun wz hx => K11.trans hx (fun i _ h => by have h : i = b1 := h; show i = b1; omega) (fun _ _ h => h)) ?_
 clear K11
 refine Dr.takes (fuel' := 5) (is' := _) [16] [(0, (ptr r)), (5, (ptr b1)), (13, (i64 me)), (14, (i64 to)), (19, (i64 term)), (21, (Value.pointer (some ⟨b1, 2, none⟩)))] (by kernel_rfl) rfl (by kernel_rfl) ?_
 refine Dr.put (i := 17) (t := 3) (b := b1) (off := 2) (v := (i64 me)) (ys := [(i64 kind), (i64 group), (i64 me), (i64 0), (i64 0), (i64 index), (i64 0), (i64 commit_), (Value.bool ok), (Value.slice none 0 0), (Value.slice none 0 0)]) (by kernel_rfl) (by kernel_rfl) (by kernel_rfl) H10 (by kernel_rfl) (d := none) (by kernel_rfl) rfl (fun w12 H13 K14 => ?_)
 clear H10
 replace K0 := K0.trans K14 (U := (fun i => i = r)) (fun i h1 h2 => h2) (fun i h1 h2 => by have h2 : i = b1 := h2; show i = r; omega)
 replace Hr := Hr.k1 K14 (by omega)
 refine ⟨K14, ?_⟩
 refine Dr.strong (S' := (fun wz => Keeps (fun i => i = b1) w12 wz)) ((Keeps.refl w12).mono (fun _ _ h => h.elim)) (fun wz hx => K14.trans hx (fun i _ h => by have h : i = b1 := h; show i = b1; omega) (fun _ _ h => h)) ?_
 clear K14
 refine Dr.takes (fuel' := 3) (is' := _) [18] [(0, (ptr r)), (5, (ptr b1)), (14, (i64 to)), (19, (i64 term)), (22, (Value.pointer (some ⟨b1, 3, none⟩)))] (by kernel_rfl) rfl (by kernel_rfl) ?_
 refine Dr.put (i := 19) (t := 3) (b := b1) (off := 3) (v := (i64 to)) (ys := [(i64 kind), (i64 group), (i64 me), (i64 to), (i64 0), (i64 index), (i64 0), (i64 commit_), (Value.bool ok), (Value.slice none 0 0), (Value.slice none 0 0)]) (by kernel_rfl) (by kernel_rfl) (by kernel_rfl) H13 (by kernel_rfl) (d := none) (by kernel_rfl) rfl (fun w15 H16 K17 => ?_)
 clear H13
 replace K0 := K0.trans K17 (U := (fun i => i = r)) (fun i h1 h2 => h2) (fun i h1 h2 => by have h2 : i = b1 := h2; show i = r; omega)
 replace Hr := Hr.k1 K17 (by omega)
 refine ⟨K17, ?_⟩
 refine Dr.strong (S' := (fun wz => Keeps (fun i => i = b1) w15 wz)) ((Keeps.refl w15).mono (fun _ _ h => h.elim)) (fun wz hx => K17.trans hx (fun i _ h => by have h : i = b1 := h; show i = b1; omega) (fun _ _ h => h)) ?_
 clear K17
 refine Dr.takes (fuel' := 1) (is' := _) [20] [(0, (ptr r)), (5, (ptr b1)), (19, (i64 term)), (23, (Value.pointer (some ⟨b1, 4, none⟩)))] (by kernel_rfl) rfl (by kernel_rfl) ?_
 refine Dr.put (i := 21) (t := 2) (b := b1) (off := 4) (v := (i64 term)) (ys := [(i64 kind), (i64 group), (i64 me), (i64 to), (i64 term), (i64 index), (i64 0), (i64 commit_), (Value.bool ok), (Value.slice none 0 0), (Value.slice none 0 0)]) (by kernel_rfl) (by kernel_rfl) (by kernel_rfl) H16 (by kernel_rfl) (d := none) (by kernel_rfl) rfl (fun w18 H19 K20 => ?_)
 clear H16
 replace K0 := K0.trans K20 (U := (fun i => i = r)) (fun i h1 h2 => h2) (fun i h1 h2 => by have h2 : i = b1 := h2; show i = r; omega)
 replace Hr := Hr.k1 K20 (by omega)
 refine ⟨K20, ?_⟩
 refine Dr.strong (S' := (fun wz => Keeps (fun i => i = b1) w18 wz)) ((Keeps.refl w18).mono (fun _ _ h => h.elim)) (fun wz hx => K20.trans hx (fun i _ h => by have h : i = b1 := h; show i = b1; omega) (fun _ _ h => h)) ?_
 clear K20
 refine Dr.done (by kernel_rfl) ?_
 refine q_draw (fun wz => Keeps (fun i => i = r) w18 wz) 11 (by kernel_rfl) (by kernel_rfl) (by kernel_rfl) (fun w21 K22 _ _ => ⟨(K22.mono (fun _ _ h => h.elim)), ?_⟩)
 replace K0 := K0.tn K22
 replace Hr := Hr.keep K22 (fun h => h)
 replace H19 := H19.keep K22 (fun h => h)
 refine Dr.strong (S' := (fun wz => Keeps (fun i => i = r) w21 wz)) ((Keeps.refl w21).mono (fun _ _ h => h.elim)) (fun wz hx => K22.trans hx (fun i _ h => h.elim) (fun _ _ h => h)) ?_
 clear K22
 refine Dr.takes (fuel' := 7) (is' := _) [0, 1, 2, 3] [(5, (ptr b1)), (24, (ptr r)), (27, (Value.pointer (some ⟨r, 17, none⟩)))] (by kernel_rfl) rfl (by kernel_rfl) ?_
 refine Dr.take (i := 5) (v := (agg [(i64 kind), (i64 group), (i64 me), (i64 to), (i64 term), (i64 index), (i64 0), (i64 commit_), (Value.bool ok), (Value.slice none 0 0), (Value.slice none 0 0)])) (by kernel_rfl) (by kernel_rfl) (fun wz hS => Runs.load (t := 46) (a := ⟨b1, 0, none⟩) (by kernel_rfl) ((H19.keep hS (by intro h; change b1 = r at h; omega)).loads (by kernel_rfl))) (d := (some 29)) (by kernel_rfl) rfl ?_
 refine Dr.float [(24, (ptr r)), (28, (Value.slice none 0 0)), (29, (agg [(i64 kind), (i64 group), (i64 me), (i64 to), (i64 term), (i64 index), (i64 0), (i64 commit_), (Value.bool ok), (Value.slice none 0 0), (Value.slice none 0 0)]))] 4 ?_
 refine DrB.new (i := 4) (j := 6) (t := 32) (a := ⟨r, 17, none⟩) (v := (Value.slice none 0 0)) (o := rowL [(i64 kind), (i64 group), (i64 me), (i64 to), (i64 term), (i64 index), (i64 0), (i64 commit_), (Value.bool ok), (Value.slice none 0 0), (Value.slice none 0 0)] 46) (V := fun b => (Value.slice (some ⟨b, 0, none⟩) 1 1)) (by kernel_rfl) (.inl rfl) (by kernel_rfl) (by kernel_rfl) (by kernel_rfl) (by kernel_rfl) (di := (some 28)) (by kernel_rfl) (by kernel_rfl) (by kernel_rfl) (by kernel_rfl) (dj := (some 30)) (by kernel_rfl) (fun b => rfl) (fun b => rfl) (Hr.loads (by kernel_rfl)) ((Keeps.refl _).mono (fun _ _ h => h.elim)) (fun b23 w24 hb25 H26 K27 hs28 => ?_)
 have lb23r : r < b23 := by have := Hr.lt; omega
 have lb23b1 : b1 < b23 := by have := H19.lt; omega
 have nb23 : w.heap.size ≤ b23 := by have := K0.size; omega
 replace K0 := K0.tn K27
 replace Hr := Hr.keep K27 (fun h => h)
 replace H19 := H19.keep K27 (fun h => h)
 refine ⟨(K27.mono (fun _ _ h => h.elim)), ?_⟩
 refine DrB.strong (S' := (fun wz => Keeps (fun i => i = r) w24 wz)) ((Keeps.refl w24).mono (fun _ _ h => h.elim)) (fun wz hx => K27.trans hx (fun i _ h => h.elim) (fun _ _ h => h)) ?_
 clear K27 hs28
 refine DrB.end_ (t := 32) (a := ⟨r, 17, none⟩) (v := (Value.slice none 0 0)) (R := [(24, (ptr r)), (28, (Value.slice none 0 0)), (30, (Value.slice (some ⟨b23, 0, none⟩) 1 1))]) (by kernel_rfl) (by kernel_rfl) (by kernel_rfl) (di := (some 28)) (by kernel_rfl) (by kernel_rfl) (by kernel_rfl) (Hr.loads (by kernel_rfl)) ((Keeps.refl _).mono (fun _ _ h => h.elim)) ?_
 obtain ⟨g29, cap30, rest31, w32, hr33, H34, fl35, fn36, fm37, K38, hg39⟩ := app_row0 (ty := 32) tyM (Rd.lit H26 (n := 1) rfl (by decide)) (m := 1) rfl (by omega) (by omega) (by decide)
 have H40 : Has w32 g29 (rowL ([(i64 kind), (i64 group), (i64 me), (i64 to), (i64 term), (i64 index), (i64 0), (i64 commit_), (Value.bool ok), (Value.slice none 0 0), (Value.slice none 0 0)] ++ rest31) 46) := H34
 clear H34
 have dg29r : g29 ≠ r := by have := Hr.lt; omega
 have dg29b1 : g29 ≠ b1 := by have := H19.lt; omega
 have dg29b23 : g29 ≠ b23 := by have := H26.lt; omega
 have ng29 : w.heap.size ≤ g29 := by have := K0.size; omega
 refine Dr.go (i := 7) (v := (Value.slice (some ⟨g29, 0, none⟩) 1 cap30)) (by kernel_rfl) (by kernel_rfl) (Runs.append (ts := #[32, 32]) (ty := 32) (vs := [(Value.slice none 0 0), (Value.slice (some ⟨b23, 0, none⟩) 1 1)]) (by kernel_rfl) hr33) (d := (some 31)) (by kernel_rfl) rfl (K38.mono (fun _ _ h => h.elim)) ?_
 replace K0 := K0.tn K38
 replace Hr := Hr.keep K38 (fun h => h)
 replace H19 := H19.keep K38 (fun h => h)
 replace H26 := H26.keep K38 (fun h => h)
 refine Dr.strong (S' := (fun wz => Keeps (fun i => i = r) w32 wz)) ((Keeps.refl w32).mono (fun _ _ h => h.elim)) (fun wz hx => K38.trans hx (fun i _ h => h.elim) (fun _ _ h => h)) ?_
 clear K38 hr33 hg39
 refine Dr.takes (fuel' := 1) (is' := _) [8, 9] [(31, (Value.slice (some ⟨g29, 0, none⟩) 1 cap30)), (33, (Value.pointer (some ⟨r, 17, none⟩)))] (by kernel_rfl) rfl (by kernel_rfl) ?_
 refine Dr.put (i := 10) (t := 32) (b := r) (off := 17) (v := (Value.slice (some ⟨g29, 0, none⟩) 1 cap30)) (ys := [(i64 term), (i64 voted), (i64 0), (i64 leader), (i64 commit), (i64 group), (i64 me), (i64 n), (ptr g), (i64 elapsed), (i64 timeout), (Value.slice none 0 0), (Value.map none), (Value.slice none 0 0), kv, cv, (Value.bool came), (Value.slice (some ⟨g29, 0, none⟩) 1 cap30)]) (by kernel_rfl) (by kernel_rfl) (by kernel_rfl) Hr (by kernel_rfl) (d := none) (by kernel_rfl) rfl (fun w41 H42 K43 => ?_)
 clear Hr
 replace K0 := K0.t1 K43 (fun _ => rfl)
 replace H19 := H19.k1 K43 (by omega)
 replace H26 := H26.k1 K43 (by omega)
 replace H40 := H40.k1 K43 (by omega)
 refine ⟨K43, ?_⟩
 refine Dr.strong (S' := (fun wz => Keeps (fun i => i = r) w41 wz)) ((Keeps.refl w41).mono (fun _ _ h => h.elim)) (fun wz hx => K43.trans hx (fun i _ h => by have h : i = r := h; show i = r; omega) (fun _ _ h => h)) ?_
 clear K43
 refine Dr.done (by kernel_rfl) ?_
 refine ⟨(Value.tuple #[]), retv_none rfl, ?_⟩
 exact ⟨g29, cap30, rest31, rfl, K0, H42, H40, ng29⟩

theorem kind1_calls (w : World) (m : MsgP) (E : Option Addr) (ec : Nat) (D : Option Addr) (dc : Nat)  : Calls Try.prog 44 ⟨[(MV 1 m.ok m E ec D dc)]⟩ w (fun e w' => e = .returned (.iface 98 (MV 1 m.ok m E ec D dc)) ∧ Keeps none_ w w') := by
 have K0 : Keeps none_ w w := Keeps.refl w
 refine q_calls Try.func44 (by kernel_rfl) (by kernel_rfl) ?_
 refine qs ?_
 refine qg ?_
 refine Ops.new (o := rowL [(i64 1), (i64 m.group), (i64 m.frm), (i64 m.to), (i64 m.term), (i64 m.index), (i64 m.logTerm), (i64 m.commit), (Value.bool m.ok), (Value.slice E m.entries.length ec), (Value.slice D m.data.length dc)] 46) (V := fun b => (ptr b)) (by kernel_rfl) (d := (some 1)) (by kernel_rfl) (fun b => rfl) (fun b1 w2 hb3 H4 K5 hs6 => ?_)
 have nb1 : w.heap.size ≤ b1 := by have := K0.size; omega
 replace K0 := K0.t0 K5
 clear K5 hs6
 refine og 1 [(1, (ptr b1)), (2, Value.nilIface)] 2 ?_
 refine od ?_
 refine qs ?_
 refine qs ?_
 refine qg ?_
 refine og 1 [(1, (ptr b1)), (2, Value.nilIface), (3, (ptr b1))] 1 ?_
 refine Ops.go (v := (i64 1)) (by kernel_rfl) (Runs.load (t := 3) (a := ⟨b1, 0, none⟩) (by kernel_rfl) (H4.loads (by kernel_rfl))) (d := (some 4)) (by kernel_rfl) rfl ?_
 refine od ?_
 refine q_block (id := 0) (by kernel_rfl) ?_
 refine qs ?_
 refine qg ?_
 refine og 2 [(1, (ptr b1)), (2, Value.nilIface), (4, (i64 1)), (5, (Value.bool true))] 2 ?_
 refine od ?_
 refine q_then (o := .tmp 5) (by kernel_rfl) rfl ?_
 refine qs ?_
 refine qg ?_
 refine Ops.go (v := (MV 1 m.ok m E ec D dc)) (by kernel_rfl) (Runs.load (t := 46) (a := ⟨b1, 0, none⟩) (by kernel_rfl) (H4.loads (by kernel_rfl))) (d := (some 7)) (by kernel_rfl) rfl ?_
 refine og 3 [(1, (ptr b1)), (2, (Value.iface 98 (MV 1 m.ok m E ec D dc))), (4, (i64 1))] 4 ?_
 refine od ?_
 refine q_ret (by kernel_rfl) ?_
 refine ⟨(Value.iface 98 (MV 1 m.ok m E ec D dc)), retv_tmp rfl rfl, ?_⟩
 exact ⟨rfl, K0⟩

theorem kind2_calls (w : World) (m : MsgP) (E : Option Addr) (ec : Nat) (D : Option Addr) (dc : Nat)  : Calls Try.prog 44 ⟨[(MV 2 m.ok m E ec D dc)]⟩ w (fun e w' => e = .returned (.iface 101 (MV 2 m.ok m E ec D dc)) ∧ Keeps none_ w w') := by
 have K0 : Keeps none_ w w := Keeps.refl w
 refine q_calls Try.func44 (by kernel_rfl) (by kernel_rfl) ?_
 refine qs ?_
 refine qg ?_
 refine Ops.new (o := rowL [(i64 2), (i64 m.group), (i64 m.frm), (i64 m.to), (i64 m.term), (i64 m.index), (i64 m.logTerm), (i64 m.commit), (Value.bool m.ok), (Value.slice E m.entries.length ec), (Value.slice D m.data.length dc)] 46) (V := fun b => (ptr b)) (by kernel_rfl) (d := (some 1)) (by kernel_rfl) (fun b => rfl) (fun b1 w2 hb3 H4 K5 hs6 => ?_)
 have nb1 : w.heap.size ≤ b1 := by have := K0.size; omega
 replace K0 := K0.t0 K5
 clear K5 hs6
 refine og 1 [(1, (ptr b1)), (2, Value.nilIface)] 2 ?_
 refine od ?_
 refine qs ?_
 refine qs ?_
 refine qg ?_
 refine og 1 [(1, (ptr b1)), (2, Value.nilIface), (3, (ptr b1))] 1 ?_
 refine Ops.go (v := (i64 2)) (by kernel_rfl) (Runs.load (t := 3) (a := ⟨b1, 0, none⟩) (by kernel_rfl) (H4.loads (by kernel_rfl))) (d := (some 4)) (by kernel_rfl) rfl ?_
 refine od ?_
 refine q_block (id := 0) (by kernel_rfl) ?_
 refine qs ?_
 refine qg ?_
 refine og 2 [(1, (ptr b1)), (2, Value.nilIface), (4, (i64 2)), (5, (Value.bool false))] 2 ?_
 refine od ?_
 refine q_else (o := .tmp 5) (by kernel_rfl) rfl ?_
 refine qs ?_
 refine qg ?_
 refine og 2 [(1, (ptr b1)), (2, Value.nilIface), (4, (i64 2)), (10, (Value.bool true))] 2 ?_
 refine od ?_
 refine q_then (o := .tmp 10) (by kernel_rfl) rfl ?_
 refine qs ?_
 refine qg ?_
 refine Ops.go (v := (MV 2 m.ok m E ec D dc)) (by kernel_rfl) (Runs.load (t := 46) (a := ⟨b1, 0, none⟩) (by kernel_rfl) (H4.loads (by kernel_rfl))) (d := (some 12)) (by kernel_rfl) rfl ?_
 refine og 3 [(1, (ptr b1)), (2, (Value.iface 101 (MV 2 m.ok m E ec D dc))), (4, (i64 2))] 4 ?_
 refine od ?_
 refine q_ret (by kernel_rfl) ?_
 refine ⟨(Value.iface 101 (MV 2 m.ok m E ec D dc)), retv_tmp rfl rfl, ?_⟩
 exact ⟨rfl, K0⟩

theorem kind3_calls (w : World) (m : MsgP) (E : Option Addr) (ec : Nat) (D : Option Addr) (dc : Nat)  : Calls Try.prog 44 ⟨[(MV 3 m.ok m E ec D dc)]⟩ w (fun e w' => e = .returned (.iface 103 (MV 3 m.ok m E ec D dc)) ∧ Keeps none_ w w') := by
 have K0 : Keeps none_ w w := Keeps.refl w
 refine q_calls Try.func44 (by kernel_rfl) (by kernel_rfl) ?_
 refine qs ?_
 refine qg ?_
 refine Ops.new (o := rowL [(i64 3), (i64 m.group), (i64 m.frm), (i64 m.to), (i64 m.term), (i64 m.index), (i64 m.logTerm), (i64 m.commit), (Value.bool m.ok), (Value.slice E m.entries.length ec), (Value.slice D m.data.length dc)] 46) (V := fun b => (ptr b)) (by kernel_rfl) (d := (some 1)) (by kernel_rfl) (fun b => rfl) (fun b1 w2 hb3 H4 K5 hs6 => ?_)
 have nb1 : w.heap.size ≤ b1 := by have := K0.size; omega
 replace K0 := K0.t0 K5
 clear K5 hs6
 refine og 1 [(1, (ptr b1)), (2, Value.nilIface)] 2 ?_
 refine od ?_
 refine qs ?_
 refine qs ?_
 refine qg ?_
 refine og 1 [(1, (ptr b1)), (2, Value.nilIface), (3, (ptr b1))] 1 ?_
 refine Ops.go (v := (i64 3)) (by kernel_rfl) (Runs.load (t := 3) (a := ⟨b1, 0, none⟩) (by kernel_rfl) (H4.loads (by kernel_rfl))) (d := (some 4)) (by kernel_rfl) rfl ?_
 refine od ?_
 refine q_block (id := 0) (by kernel_rfl) ?_
 refine qs ?_
 refine qg ?_
 refine og 2 [(1, (ptr b1)), (2, Value.nilIface), (4, (i64 3)), (5, (Value.bool false))] 2 ?_
 refine od ?_
 refine q_else (o := .tmp 5) (by kernel_rfl) rfl ?_
 refine qs ?_
 refine qg ?_
 refine og 2 [(1, (ptr b1)), (2, Value.nilIface), (4, (i64 3)), (10, (Value.bool false))] 2 ?_
 refine od ?_
 refine q_else (o := .tmp 10) (by kernel_rfl) rfl ?_
 refine qs ?_
 refine qg ?_
 refine og 2 [(1, (ptr b1)), (2, Value.nilIface), (4, (i64 3)), (15, (Value.bool true))] 2 ?_
 refine od ?_
 refine q_then (o := .tmp 15) (by kernel_rfl) rfl ?_
 refine qs ?_
 refine qg ?_
 refine Ops.go (v := (MV 3 m.ok m E ec D dc)) (by kernel_rfl) (Runs.load (t := 46) (a := ⟨b1, 0, none⟩) (by kernel_rfl) (H4.loads (by kernel_rfl))) (d := (some 17)) (by kernel_rfl) rfl ?_
 refine og 3 [(1, (ptr b1)), (2, (Value.iface 103 (MV 3 m.ok m E ec D dc))), (4, (i64 3))] 4 ?_
 refine od ?_
 refine q_ret (by kernel_rfl) ?_
 refine ⟨(Value.iface 103 (MV 3 m.ok m E ec D dc)), retv_tmp rfl rfl, ?_⟩
 exact ⟨rfl, K0⟩

theorem kind4_calls (w : World) (m : MsgP) (E : Option Addr) (ec : Nat) (D : Option Addr) (dc : Nat)  : Calls Try.prog 44 ⟨[(MV 4 m.ok m E ec D dc)]⟩ w (fun e w' => e = .returned (.iface 105 (MV 4 m.ok m E ec D dc)) ∧ Keeps none_ w w') := by
 have K0 : Keeps none_ w w := Keeps.refl w
 refine q_calls Try.func44 (by kernel_rfl) (by kernel_rfl) ?_
 refine qs ?_
 refine qg ?_
 refine Ops.new (o := rowL [(i64 4), (i64 m.group), (i64 m.frm), (i64 m.to), (i64 m.term), (i64 m.index), (i64 m.logTerm), (i64 m.commit), (Value.bool m.ok), (Value.slice E m.entries.length ec), (Value.slice D m.data.length dc)] 46) (V := fun b => (ptr b)) (by kernel_rfl) (d := (some 1)) (by kernel_rfl) (fun b => rfl) (fun b1 w2 hb3 H4 K5 hs6 => ?_)
 have nb1 : w.heap.size ≤ b1 := by have := K0.size; omega
 replace K0 := K0.t0 K5
 clear K5 hs6
 refine og 1 [(1, (ptr b1)), (2, Value.nilIface)] 2 ?_
 refine od ?_
 refine qs ?_
 refine qs ?_
 refine qg ?_
 refine og 1 [(1, (ptr b1)), (2, Value.nilIface), (3, (ptr b1))] 1 ?_
 refine Ops.go (v := (i64 4)) (by kernel_rfl) (Runs.load (t := 3) (a := ⟨b1, 0, none⟩) (by kernel_rfl) (H4.loads (by kernel_rfl))) (d := (some 4)) (by kernel_rfl) rfl ?_
 refine od ?_
 refine q_block (id := 0) (by kernel_rfl) ?_
 refine qs ?_
 refine qg ?_
 refine og 2 [(1, (ptr b1)), (2, Value.nilIface), (4, (i64 4)), (5, (Value.bool false))] 2 ?_
 refine od ?_
 refine q_else (o := .tmp 5) (by kernel_rfl) rfl ?_
 refine qs ?_
 refine qg ?_
 refine og 2 [(1, (ptr b1)), (2, Value.nilIface), (4, (i64 4)), (10, (Value.bool false))] 2 ?_
 refine od ?_
 refine q_else (o := .tmp 10) (by kernel_rfl) rfl ?_
 refine qs ?_
 refine qg ?_
 refine og 2 [(1, (ptr b1)), (2, Value.nilIface), (4, (i64 4)), (15, (Value.bool false))] 2 ?_
 refine od ?_
 refine q_else (o := .tmp 15) (by kernel_rfl) rfl ?_
 refine qs ?_
 refine qg ?_
 refine og 2 [(1, (ptr b1)), (2, Value.nilIface), (4, (i64 4)), (20, (Value.bool true))] 2 ?_
 refine od ?_
 refine q_then (o := .tmp 20) (by kernel_rfl) rfl ?_
 refine qs ?_
 refine qg ?_
 refine Ops.go (v := (MV 4 m.ok m E ec D dc)) (by kernel_rfl) (Runs.load (t := 46) (a := ⟨b1, 0, none⟩) (by kernel_rfl) (H4.loads (by kernel_rfl))) (d := (some 22)) (by kernel_rfl) rfl ?_
 refine og 3 [(1, (ptr b1)), (2, (Value.iface 105 (MV 4 m.ok m E ec D dc))), (4, (i64 4))] 4 ?_
 refine od ?_
 refine q_ret (by kernel_rfl) ?_
 refine ⟨(Value.iface 105 (MV 4 m.ok m E ec D dc)), retv_tmp rfl rfl, ?_⟩
 exact ⟨rfl, K0⟩

theorem kind5_calls (w : World) (m : MsgP) (E : Option Addr) (ec : Nat) (D : Option Addr) (dc : Nat)  : Calls Try.prog 44 ⟨[(MV 5 m.ok m E ec D dc)]⟩ w (fun e w' => e = .returned (.iface 106 (MV 5 m.ok m E ec D dc)) ∧ Keeps none_ w w') := by
 have K0 : Keeps none_ w w := Keeps.refl w
 refine q_calls Try.func44 (by kernel_rfl) (by kernel_rfl) ?_
 refine qs ?_
 refine qg ?_
 refine Ops.new (o := rowL [(i64 5), (i64 m.group), (i64 m.frm), (i64 m.to), (i64 m.term), (i64 m.index), (i64 m.logTerm), (i64 m.commit), (Value.bool m.ok), (Value.slice E m.entries.length ec), (Value.slice D m.data.length dc)] 46) (V := fun b => (ptr b)) (by kernel_rfl) (d := (some 1)) (by kernel_rfl) (fun b => rfl) (fun b1 w2 hb3 H4 K5 hs6 => ?_)
 have nb1 : w.heap.size ≤ b1 := by have := K0.size; omega
 replace K0 := K0.t0 K5
 clear K5 hs6
 refine og 1 [(1, (ptr b1)), (2, Value.nilIface)] 2 ?_
 refine od ?_
 refine qs ?_
 refine qs ?_
 refine qg ?_
 refine og 1 [(1, (ptr b1)), (2, Value.nilIface), (3, (ptr b1))] 1 ?_
 refine Ops.go (v := (i64 5)) (by kernel_rfl) (Runs.load (t := 3) (a := ⟨b1, 0, none⟩) (by kernel_rfl) (H4.loads (by kernel_rfl))) (d := (some 4)) (by kernel_rfl) rfl ?_
 refine od ?_
 refine q_block (id := 0) (by kernel_rfl) ?_
 refine qs ?_
 refine qg ?_
 refine og 2 [(1, (ptr b1)), (2, Value.nilIface), (4, (i64 5)), (5, (Value.bool false))] 2 ?_
 refine od ?_
 refine q_else (o := .tmp 5) (by kernel_rfl) rfl ?_
 refine qs ?_
 refine qg ?_
 refine og 2 [(1, (ptr b1)), (2, Value.nilIface), (4, (i64 5)), (10, (Value.bool false))] 2 ?_
 refine od ?_
 refine q_else (o := .tmp 10) (by kernel_rfl) rfl ?_
 refine qs ?_
 refine qg ?_
 refine og 2 [(1, (ptr b1)), (2, Value.nilIface), (4, (i64 5)), (15, (Value.bool false))] 2 ?_
 refine od ?_
 refine q_else (o := .tmp 15) (by kernel_rfl) rfl ?_
 refine qs ?_
 refine qg ?_
 refine og 2 [(1, (ptr b1)), (2, Value.nilIface), (4, (i64 5)), (20, (Value.bool false))] 2 ?_
 refine od ?_
 refine q_else (o := .tmp 20) (by kernel_rfl) rfl ?_
 refine qs ?_
 refine qg ?_
 refine og 2 [(1, (ptr b1)), (2, Value.nilIface), (4, (i64 5)), (25, (Value.bool true))] 2 ?_
 refine od ?_
 refine q_then (o := .tmp 25) (by kernel_rfl) rfl ?_
 refine qs ?_
 refine qg ?_
 refine Ops.go (v := (MV 5 m.ok m E ec D dc)) (by kernel_rfl) (Runs.load (t := 46) (a := ⟨b1, 0, none⟩) (by kernel_rfl) (H4.loads (by kernel_rfl))) (d := (some 27)) (by kernel_rfl) rfl ?_
 refine og 3 [(1, (ptr b1)), (2, (Value.iface 106 (MV 5 m.ok m E ec D dc))), (4, (i64 5))] 4 ?_
 refine od ?_
 refine q_ret (by kernel_rfl) ?_
 refine ⟨(Value.iface 106 (MV 5 m.ok m E ec D dc)), retv_tmp rfl rfl, ?_⟩
 exact ⟨rfl, K0⟩

theorem kind6_calls (w : World) (m : MsgP) (E : Option Addr) (ec : Nat) (D : Option Addr) (dc : Nat)  : Calls Try.prog 44 ⟨[(MV 6 m.ok m E ec D dc)]⟩ w (fun e w' => e = .returned (.iface 107 (MV 6 m.ok m E ec D dc)) ∧ Keeps none_ w w') := by
 have K0 : Keeps none_ w w := Keeps.refl w
 refine q_calls Try.func44 (by kernel_rfl) (by kernel_rfl) ?_
 refine qs ?_
 refine qg ?_
 refine Ops.new (o := rowL [(i64 6), (i64 m.group), (i64 m.frm), (i64 m.to), (i64 m.term), (i64 m.index), (i64 m.logTerm), (i64 m.commit), (Value.bool m.ok), (Value.slice E m.entries.length ec), (Value.slice D m.data.length dc)] 46) (V := fun b => (ptr b)) (by kernel_rfl) (d := (some 1)) (by kernel_rfl) (fun b => rfl) (fun b1 w2 hb3 H4 K5 hs6 => ?_)
 have nb1 : w.heap.size ≤ b1 := by have := K0.size; omega
 replace K0 := K0.t0 K5
 clear K5 hs6
 refine og 1 [(1, (ptr b1)), (2, Value.nilIface)] 2 ?_
 refine od ?_
 refine qs ?_
 refine qs ?_
 refine qg ?_
 refine og 1 [(1, (ptr b1)), (2, Value.nilIface), (3, (ptr b1))] 1 ?_
 refine Ops.go (v := (i64 6)) (by kernel_rfl) (Runs.load (t := 3) (a := ⟨b1, 0, none⟩) (by kernel_rfl) (H4.loads (by kernel_rfl))) (d := (some 4)) (by kernel_rfl) rfl ?_
 refine od ?_
 refine q_block (id := 0) (by kernel_rfl) ?_
 refine qs ?_
 refine qg ?_
 refine og 2 [(1, (ptr b1)), (2, Value.nilIface), (4, (i64 6)), (5, (Value.bool false))] 2 ?_
 refine od ?_
 refine q_else (o := .tmp 5) (by kernel_rfl) rfl ?_
 refine qs ?_
 refine qg ?_
 refine og 2 [(1, (ptr b1)), (2, Value.nilIface), (4, (i64 6)), (10, (Value.bool false))] 2 ?_
 refine od ?_
 refine q_else (o := .tmp 10) (by kernel_rfl) rfl ?_
 refine qs ?_
 refine qg ?_
 refine og 2 [(1, (ptr b1)), (2, Value.nilIface), (4, (i64 6)), (15, (Value.bool false))] 2 ?_
 refine od ?_
 refine q_else (o := .tmp 15) (by kernel_rfl) rfl ?_
 refine qs ?_
 refine qg ?_
 refine og 2 [(1, (ptr b1)), (2, Value.nilIface), (4, (i64 6)), (20, (Value.bool false))] 2 ?_
 refine od ?_
 refine q_else (o := .tmp 20) (by kernel_rfl) rfl ?_
 refine qs ?_
 refine qg ?_
 refine og 2 [(1, (ptr b1)), (2, Value.nilIface), (4, (i64 6)), (25, (Value.bool false))] 2 ?_
 refine od ?_
 refine q_else (o := .tmp 25) (by kernel_rfl) rfl ?_
 refine qs ?_
 refine qg ?_
 refine og 2 [(1, (ptr b1)), (2, Value.nilIface), (30, (Value.bool true))] 2 ?_
 refine od ?_
 refine q_then (o := .tmp 30) (by kernel_rfl) rfl ?_
 refine qs ?_
 refine qg ?_
 refine Ops.go (v := (MV 6 m.ok m E ec D dc)) (by kernel_rfl) (Runs.load (t := 46) (a := ⟨b1, 0, none⟩) (by kernel_rfl) (H4.loads (by kernel_rfl))) (d := (some 32)) (by kernel_rfl) rfl ?_
 refine og 3 [(2, (Value.iface 107 (MV 6 m.ok m E ec D dc)))] 4 ?_
 refine od ?_
 refine q_ret (by kernel_rfl) ?_
 refine ⟨(Value.iface 107 (MV 6 m.ok m E ec D dc)), retv_tmp rfl rfl, ?_⟩
 exact ⟨rfl, K0⟩

theorem kind0_calls (w : World) (m : MsgP) (E : Option Addr) (ec : Nat) (D : Option Addr) (dc : Nat) (hk : m.kind < 1 ∨ 6 < m.kind) : Calls Try.prog 44 ⟨[(MV m.kind m.ok m E ec D dc)]⟩ w (fun e w' => e = .returned .nilIface ∧ Keeps none_ w w') := by
 have K0 : Keeps none_ w w := Keeps.refl w
 refine q_calls Try.func44 (by kernel_rfl) (by kernel_rfl) ?_
 refine qs ?_
 refine qg ?_
 refine Ops.new (o := rowL [(i64 m.kind), (i64 m.group), (i64 m.frm), (i64 m.to), (i64 m.term), (i64 m.index), (i64 m.logTerm), (i64 m.commit), (Value.bool m.ok), (Value.slice E m.entries.length ec), (Value.slice D m.data.length dc)] 46) (V := fun b => (ptr b)) (by kernel_rfl) (d := (some 1)) (by kernel_rfl) (fun b => rfl) (fun b1 w2 hb3 H4 K5 hs6 => ?_)
 have nb1 : w.heap.size ≤ b1 := by have := K0.size; omega
 replace K0 := K0.t0 K5
 clear K5 hs6
 refine og 1 [(1, (ptr b1)), (2, Value.nilIface)] 2 ?_
 refine od ?_
 refine qs ?_
 refine qs ?_
 refine qg ?_
 refine og 1 [(1, (ptr b1)), (2, Value.nilIface), (3, (ptr b1))] 1 ?_
 refine Ops.go (v := (i64 m.kind)) (by kernel_rfl) (Runs.load (t := 3) (a := ⟨b1, 0, none⟩) (by kernel_rfl) (H4.loads (by kernel_rfl))) (d := (some 4)) (by kernel_rfl) rfl ?_
 refine od ?_
 refine q_block (id := 0) (by kernel_rfl) ?_
 refine qs ?_
 refine qg ?_
 refine og 2 [(1, (ptr b1)), (2, Value.nilIface), (4, (i64 m.kind)), (5, (Value.bool (m.kind == 1)))] 2 ?_
 refine od ?_
 have h7 : (m.kind == 1) = false := beq_f (by omega)
 rw [h7]
 refine q_else (o := .tmp 5) (by kernel_rfl) rfl ?_
 refine qs ?_
 refine qg ?_
 refine og 2 [(1, (ptr b1)), (2, Value.nilIface), (4, (i64 m.kind)), (10, (Value.bool (m.kind == 2)))] 2 ?_
 refine od ?_
 have h8 : (m.kind == 2) = false := beq_f (by omega)
 rw [h8]
 refine q_else (o := .tmp 10) (by kernel_rfl) rfl ?_
 refine qs ?_
 refine qg ?_
 refine og 2 [(1, (ptr b1)), (2, Value.nilIface), (4, (i64 m.kind)), (15, (Value.bool (m.kind == 3)))] 2 ?_
 refine od ?_
 have h9 : (m.kind == 3) = false := beq_f (by omega)
 rw [h9]
 refine q_else (o := .tmp 15) (by kernel_rfl) rfl ?_
 refine qs ?_
 refine qg ?_
 refine og 2 [(1, (ptr b1)), (2, Value.nilIface), (4, (i64 m.kind)), (20, (Value.bool (m.kind == 4)))] 2 ?_
 refine od ?_
 have h10 : (m.kind == 4) = false := beq_f (by omega)
 rw [h10]
 refine q_else (o := .tmp 20) (by kernel_rfl) rfl ?_
 refine qs ?_
 refine qg ?_
 refine og 2 [(1, (ptr b1)), (2, Value.nilIface), (4, (i64 m.kind)), (25, (Value.bool (m.kind == 5)))] 2 ?_
 refine od ?_
 have h11 : (m.kind == 5) = false := beq_f (by omega)
 rw [h11]
 refine q_else (o := .tmp 25) (by kernel_rfl) rfl ?_
 refine qs ?_
 refine qg ?_
 refine og 2 [(1, (ptr b1)), (2, Value.nilIface), (30, (Value.bool (m.kind == 6)))] 2 ?_
 refine od ?_
 have h12 : (m.kind == 6) = false := beq_f (by omega)
 rw [h12]
 refine q_else (o := .tmp 30) (by kernel_rfl) rfl ?_
 refine q_skip (by kernel_rfl) ?_
 refine qs ?_
 refine qg ?_
 refine og 1 [(2, Value.nilIface)] 1 ?_
 refine od ?_
 refine q_ret (by kernel_rfl) ?_
 refine ⟨Value.nilIface, retv_tmp rfl rfl, ?_⟩
 exact ⟨rfl, K0⟩

theorem of1_calls (w : World) (m : MsgP) (E : Option Addr) (ec : Nat) (D : Option Addr) (dc : Nat)  : Calls Try.prog 108 ⟨[(MV 1 m.ok m E ec D dc)]⟩ w (fun e w' => e = .returned (MV 1 m.ok m E ec D dc) ∧ Keeps none_ w w') := by
 have K0 : Keeps none_ w w := Keeps.refl w
 refine q_calls Try.func108 (by kernel_rfl) (by kernel_rfl) ?_
 refine qs ?_
 refine qg ?_
 refine Ops.new (o := rowL [(i64 1), (i64 m.group), (i64 m.frm), (i64 m.to), (i64 m.term), (i64 m.index), (i64 m.logTerm), (i64 m.commit), (Value.bool m.ok), (Value.slice E m.entries.length ec), (Value.slice D m.data.length dc)] 98) (V := fun b => (ptr b)) (by kernel_rfl) (d := (some 1)) (by kernel_rfl) (fun b => rfl) (fun b1 w2 hb3 H4 K5 hs6 => ?_)
 have nb1 : w.heap.size ≤ b1 := by have := K0.size; omega
 replace K0 := K0.t0 K5
 clear K5 hs6
 refine Ops.new (o := rowL [(i64 0), (i64 0), (i64 0), (i64 0), (i64 0), (i64 0), (i64 0), (i64 0), (Value.bool false), (Value.slice none 0 0), (Value.slice none 0 0)] 46) (V := fun b => (ptr b)) (by kernel_rfl) (d := (some 2)) (by kernel_rfl) (fun b => rfl) (fun b7 w8 hb9 H10 K11 hs12 => ?_)
 have lb7b1 : b1 < b7 := by have := H4.lt; omega
 have nb7 : w.heap.size ≤ b7 := by have := K0.size; omega
 replace K0 := K0.t0 K11
 replace H4 := H4.keep K11 (fun h => h)
 clear K11 hs12
 refine od ?_
 refine qs ?_
 refine qg ?_
 refine og 1 [(2, (ptr b7)), (3, (ptr b1))] 1 ?_
 refine Ops.go (v := (MV 1 m.ok m E ec D dc)) (by kernel_rfl) (Runs.load (t := 46) (a := ⟨b1, 0, none⟩) (by kernel_rfl) (H4.loads (by kernel_rfl))) (d := (some 4)) (by kernel_rfl) rfl ?_
 refine Ops.put (t := 46) (b := b7) (off := 0) (v := (MV 1 m.ok m E ec D dc)) (ys := [(i64 1), (i64 m.group), (i64 m.frm), (i64 m.to), (i64 m.term), (i64 m.index), (i64 m.logTerm), (i64 m.commit), (Value.bool m.ok), (Value.slice E m.entries.length ec), (Value.slice D m.data.length dc)]) (by kernel_rfl) (by kernel_rfl) H10 (by kernel_rfl) (d := none) (by kernel_rfl) rfl (fun w13 H14 K15 => ?_)
 clear H10
 replace K0 := K0.trans K15 (U := none_) (fun i h1 h2 => h2) (fun i h1 h2 => by have h2 : i = b7 := h2; exfalso; omega)
 replace H4 := H4.k1 K15 (by omega)
 clear K15
 refine od ?_
 refine q_ret (by kernel_rfl) ?_
 refine ⟨(MV 1 m.ok m E ec D dc), retv_cell rfl rfl (H14.loads (by kernel_rfl)), ?_⟩
 exact ⟨rfl, K0⟩

theorem of2_calls (w : World) (m : MsgP) (E : Option Addr) (ec : Nat) (D : Option Addr) (dc : Nat)  : Calls Try.prog 109 ⟨[(MV 2 m.ok m E ec D dc)]⟩ w (fun e w' => e = .returned (MV 2 m.ok m E ec D dc) ∧ Keeps none_ w w') := by
 have K0 : Keeps none_ w w := Keeps.refl w
 refine q_calls Try.func109 (by kernel_rfl) (by kernel_rfl) ?_
 refine qs ?_
 refine qg ?_
 refine Ops.new (o := rowL [(i64 2), (i64 m.group), (i64 m.frm), (i64 m.to), (i64 m.term), (i64 m.index), (i64 m.logTerm), (i64 m.commit), (Value.bool m.ok), (Value.slice E m.entries.length ec), (Value.slice D m.data.length dc)] 101) (V := fun b => (ptr b)) (by kernel_rfl) (d := (some 1)) (by kernel_rfl) (fun b => rfl) (fun b1 w2 hb3 H4 K5 hs6 => ?_)
 have nb1 : w.heap.size ≤ b1 := by have := K0.size; omega
 replace K0 := K0.t0 K5
 clear K5 hs6
 refine Ops.new (o := rowL [(i64 0), (i64 0), (i64 0), (i64 0), (i64 0), (i64 0), (i64 0), (i64 0), (Value.bool false), (Value.slice none 0 0), (Value.slice none 0 0)] 46) (V := fun b => (ptr b)) (by kernel_rfl) (d := (some 2)) (by kernel_rfl) (fun b => rfl) (fun b7 w8 hb9 H10 K11 hs12 => ?_)
 have lb7b1 : b1 < b7 := by have := H4.lt; omega
 have nb7 : w.heap.size ≤ b7 := by have := K0.size; omega
 replace K0 := K0.t0 K11
 replace H4 := H4.keep K11 (fun h => h)
 clear K11 hs12
 refine od ?_
 refine qs ?_
 refine qg ?_
 refine og 1 [(2, (ptr b7)), (3, (ptr b1))] 1 ?_
 refine Ops.go (v := (MV 2 m.ok m E ec D dc)) (by kernel_rfl) (Runs.load (t := 46) (a := ⟨b1, 0, none⟩) (by kernel_rfl) (H4.loads (by kernel_rfl))) (d := (some 4)) (by kernel_rfl) rfl ?_
 refine Ops.put (t := 46) (b := b7) (off := 0) (v := (MV 2 m.ok m E ec D dc)) (ys := [(i64 2), (i64 m.group), (i64 m.frm), (i64 m.to), (i64 m.term), (i64 m.index), (i64 m.logTerm), (i64 m.commit), (Value.bool m.ok), (Value.slice E m.entries.length ec), (Value.slice D m.data.length dc)]) (by kernel_rfl) (by kernel_rfl) H10 (by kernel_rfl) (d := none) (by kernel_rfl) rfl (fun w13 H14 K15 => ?_)
 clear H10
 replace K0 := K0.trans K15 (U := none_) (fun i h1 h2 => h2) (fun i h1 h2 => by have h2 : i = b7 := h2; exfalso; omega)
 replace H4 := H4.k1 K15 (by omega)
 clear K15
 refine od ?_
 refine q_ret (by kernel_rfl) ?_
 refine ⟨(MV 2 m.ok m E ec D dc), retv_cell rfl rfl (H14.loads (by kernel_rfl)), ?_⟩
 exact ⟨rfl, K0⟩

theorem of3_calls (w : World) (m : MsgP) (E : Option Addr) (ec : Nat) (D : Option Addr) (dc : Nat)  : Calls Try.prog 110 ⟨[(MV 3 m.ok m E ec D dc)]⟩ w (fun e w' => e = .returned (MV 3 m.ok m E ec D dc) ∧ Keeps none_ w w') := by
 have K0 : Keeps none_ w w := Keeps.refl w
 refine q_calls Try.func110 (by kernel_rfl) (by kernel_rfl) ?_
 refine qs ?_
 refine qg ?_
 refine Ops.new (o := rowL [(i64 3), (i64 m.group), (i64 m.frm), (i64 m.to), (i64 m.term), (i64 m.index), (i64 m.logTerm), (i64 m.commit), (Value.bool m.ok), (Value.slice E m.entries.length ec), (Value.slice D m.data.length dc)] 103) (V := fun b => (ptr b)) (by kernel_rfl) (d := (some 1)) (by kernel_rfl) (fun b => rfl) (fun b1 w2 hb3 H4 K5 hs6 => ?_)
 have nb1 : w.heap.size ≤ b1 := by have := K0.size; omega
 replace K0 := K0.t0 K5
 clear K5 hs6
 refine Ops.new (o := rowL [(i64 0), (i64 0), (i64 0), (i64 0), (i64 0), (i64 0), (i64 0), (i64 0), (Value.bool false), (Value.slice none 0 0), (Value.slice none 0 0)] 46) (V := fun b => (ptr b)) (by kernel_rfl) (d := (some 2)) (by kernel_rfl) (fun b => rfl) (fun b7 w8 hb9 H10 K11 hs12 => ?_)
 have lb7b1 : b1 < b7 := by have := H4.lt; omega
 have nb7 : w.heap.size ≤ b7 := by have := K0.size; omega
 replace K0 := K0.t0 K11
 replace H4 := H4.keep K11 (fun h => h)
 clear K11 hs12
 refine od ?_
 refine qs ?_
 refine qg ?_
 refine og 1 [(2, (ptr b7)), (3, (ptr b1))] 1 ?_
 refine Ops.go (v := (MV 3 m.ok m E ec D dc)) (by kernel_rfl) (Runs.load (t := 46) (a := ⟨b1, 0, none⟩) (by kernel_rfl) (H4.loads (by kernel_rfl))) (d := (some 4)) (by kernel_rfl) rfl ?_
 refine Ops.put (t := 46) (b := b7) (off := 0) (v := (MV 3 m.ok m E ec D dc)) (ys := [(i64 3), (i64 m.group), (i64 m.frm), (i64 m.to), (i64 m.term), (i64 m.index), (i64 m.logTerm), (i64 m.commit), (Value.bool m.ok), (Value.slice E m.entries.length ec), (Value.slice D m.data.length dc)]) (by kernel_rfl) (by kernel_rfl) H10 (by kernel_rfl) (d := none) (by kernel_rfl) rfl (fun w13 H14 K15 => ?_)
 clear H10
 replace K0 := K0.trans K15 (U := none_) (fun i h1 h2 => h2) (fun i h1 h2 => by have h2 : i = b7 := h2; exfalso; omega)
 replace H4 := H4.k1 K15 (by omega)
 clear K15
 refine od ?_
 refine q_ret (by kernel_rfl) ?_
 refine ⟨(MV 3 m.ok m E ec D dc), retv_cell rfl rfl (H14.loads (by kernel_rfl)), ?_⟩
 exact ⟨rfl, K0⟩

theorem of4_calls (w : World) (m : MsgP) (E : Option Addr) (ec : Nat) (D : Option Addr) (dc : Nat)  : Calls Try.prog 111 ⟨[(MV 4 m.ok m E ec D dc)]⟩ w (fun e w' => e = .returned (MV 4 m.ok m E ec D dc) ∧ Keeps none_ w w') := by
 have K0 : Keeps none_ w w := Keeps.refl w
 refine q_calls Try.func111 (by kernel_rfl) (by kernel_rfl) ?_
 refine qs ?_
 refine qg ?_
 refine Ops.new (o := rowL [(i64 4), (i64 m.group), (i64 m.frm), (i64 m.to), (i64 m.term), (i64 m.index), (i64 m.logTerm), (i64 m.commit), (Value.bool m.ok), (Value.slice E m.entries.length ec), (Value.slice D m.data.length dc)] 105) (V := fun b => (ptr b)) (by kernel_rfl) (d := (some 1)) (by kernel_rfl) (fun b => rfl) (fun b1 w2 hb3 H4 K5 hs6 => ?_)
 have nb1 : w.heap.size ≤ b1 := by have := K0.size; omega
 replace K0 := K0.t0 K5
 clear K5 hs6
 refine Ops.new (o := rowL [(i64 0), (i64 0), (i64 0), (i64 0), (i64 0), (i64 0), (i64 0), (i64 0), (Value.bool false), (Value.slice none 0 0), (Value.slice none 0 0)] 46) (V := fun b => (ptr b)) (by kernel_rfl) (d := (some 2)) (by kernel_rfl) (fun b => rfl) (fun b7 w8 hb9 H10 K11 hs12 => ?_)
 have lb7b1 : b1 < b7 := by have := H4.lt; omega
 have nb7 : w.heap.size ≤ b7 := by have := K0.size; omega
 replace K0 := K0.t0 K11
 replace H4 := H4.keep K11 (fun h => h)
 clear K11 hs12
 refine od ?_
 refine qs ?_
 refine qg ?_
 refine og 1 [(2, (ptr b7)), (3, (ptr b1))] 1 ?_
 refine Ops.go (v := (MV 4 m.ok m E ec D dc)) (by kernel_rfl) (Runs.load (t := 46) (a := ⟨b1, 0, none⟩) (by kernel_rfl) (H4.loads (by kernel_rfl))) (d := (some 4)) (by kernel_rfl) rfl ?_
 refine Ops.put (t := 46) (b := b7) (off := 0) (v := (MV 4 m.ok m E ec D dc)) (ys := [(i64 4), (i64 m.group), (i64 m.frm), (i64 m.to), (i64 m.term), (i64 m.index), (i64 m.logTerm), (i64 m.commit), (Value.bool m.ok), (Value.slice E m.entries.length ec), (Value.slice D m.data.length dc)]) (by kernel_rfl) (by kernel_rfl) H10 (by kernel_rfl) (d := none) (by kernel_rfl) rfl (fun w13 H14 K15 => ?_)
 clear H10
 replace K0 := K0.trans K15 (U := none_) (fun i h1 h2 => h2) (fun i h1 h2 => by have h2 : i = b7 := h2; exfalso; omega)
 replace H4 := H4.k1 K15 (by omega)
 clear K15
 refine od ?_
 refine q_ret (by kernel_rfl) ?_
 refine ⟨(MV 4 m.ok m E ec D dc), retv_cell rfl rfl (H14.loads (by kernel_rfl)), ?_⟩
 exact ⟨rfl, K0⟩

theorem of5_calls (w : World) (m : MsgP) (E : Option Addr) (ec : Nat) (D : Option Addr) (dc : Nat)  : Calls Try.prog 112 ⟨[(MV 5 m.ok m E ec D dc)]⟩ w (fun e w' => e = .returned (MV 5 m.ok m E ec D dc) ∧ Keeps none_ w w') := by
 have K0 : Keeps none_ w w := Keeps.refl w
 refine q_calls Try.func112 (by kernel_rfl) (by kernel_rfl) ?_
 refine qs ?_
 refine qg ?_
 refine Ops.new (o := rowL [(i64 5), (i64 m.group), (i64 m.frm), (i64 m.to), (i64 m.term), (i64 m.index), (i64 m.logTerm), (i64 m.commit), (Value.bool m.ok), (Value.slice E m.entries.length ec), (Value.slice D m.data.length dc)] 106) (V := fun b => (ptr b)) (by kernel_rfl) (d := (some 1)) (by kernel_rfl) (fun b => rfl) (fun b1 w2 hb3 H4 K5 hs6 => ?_)
 have nb1 : w.heap.size ≤ b1 := by have := K0.size; omega
 replace K0 := K0.t0 K5
 clear K5 hs6
 refine Ops.new (o := rowL [(i64 0), (i64 0), (i64 0), (i64 0), (i64 0), (i64 0), (i64 0), (i64 0), (Value.bool false), (Value.slice none 0 0), (Value.slice none 0 0)] 46) (V := fun b => (ptr b)) (by kernel_rfl) (d := (some 2)) (by kernel_rfl) (fun b => rfl) (fun b7 w8 hb9 H10 K11 hs12 => ?_)
 have lb7b1 : b1 < b7 := by have := H4.lt; omega
 have nb7 : w.heap.size ≤ b7 := by have := K0.size; omega
 replace K0 := K0.t0 K11
 replace H4 := H4.keep K11 (fun h => h)
 clear K11 hs12
 refine od ?_
 refine qs ?_
 refine qg ?_
 refine og 1 [(2, (ptr b7)), (3, (ptr b1))] 1 ?_
 refine Ops.go (v := (MV 5 m.ok m E ec D dc)) (by kernel_rfl) (Runs.load (t := 46) (a := ⟨b1, 0, none⟩) (by kernel_rfl) (H4.loads (by kernel_rfl))) (d := (some 4)) (by kernel_rfl) rfl ?_
 refine Ops.put (t := 46) (b := b7) (off := 0) (v := (MV 5 m.ok m E ec D dc)) (ys := [(i64 5), (i64 m.group), (i64 m.frm), (i64 m.to), (i64 m.term), (i64 m.index), (i64 m.logTerm), (i64 m.commit), (Value.bool m.ok), (Value.slice E m.entries.length ec), (Value.slice D m.data.length dc)]) (by kernel_rfl) (by kernel_rfl) H10 (by kernel_rfl) (d := none) (by kernel_rfl) rfl (fun w13 H14 K15 => ?_)
 clear H10
 replace K0 := K0.trans K15 (U := none_) (fun i h1 h2 => h2) (fun i h1 h2 => by have h2 : i = b7 := h2; exfalso; omega)
 replace H4 := H4.k1 K15 (by omega)
 clear K15
 refine od ?_
 refine q_ret (by kernel_rfl) ?_
 refine ⟨(MV 5 m.ok m E ec D dc), retv_cell rfl rfl (H14.loads (by kernel_rfl)), ?_⟩
 exact ⟨rfl, K0⟩

theorem of6_calls (w : World) (m : MsgP) (E : Option Addr) (ec : Nat) (D : Option Addr) (dc : Nat)  : Calls Try.prog 113 ⟨[(MV 6 m.ok m E ec D dc)]⟩ w (fun e w' => e = .returned (MV 6 m.ok m E ec D dc) ∧ Keeps none_ w w') := by
 have K0 : Keeps none_ w w := Keeps.refl w
 refine q_calls Try.func113 (by kernel_rfl) (by kernel_rfl) ?_
 refine qs ?_
 refine qg ?_
 refine Ops.new (o := rowL [(i64 6), (i64 m.group), (i64 m.frm), (i64 m.to), (i64 m.term), (i64 m.index), (i64 m.logTerm), (i64 m.commit), (Value.bool m.ok), (Value.slice E m.entries.length ec), (Value.slice D m.data.length dc)] 107) (V := fun b => (ptr b)) (by kernel_rfl) (d := (some 1)) (by kernel_rfl) (fun b => rfl) (fun b1 w2 hb3 H4 K5 hs6 => ?_)
 have nb1 : w.heap.size ≤ b1 := by have := K0.size; omega
 replace K0 := K0.t0 K5
 clear K5 hs6
 refine Ops.new (o := rowL [(i64 0), (i64 0), (i64 0), (i64 0), (i64 0), (i64 0), (i64 0), (i64 0), (Value.bool false), (Value.slice none 0 0), (Value.slice none 0 0)] 46) (V := fun b => (ptr b)) (by kernel_rfl) (d := (some 2)) (by kernel_rfl) (fun b => rfl) (fun b7 w8 hb9 H10 K11 hs12 => ?_)
 have lb7b1 : b1 < b7 := by have := H4.lt; omega
 have nb7 : w.heap.size ≤ b7 := by have := K0.size; omega
 replace K0 := K0.t0 K11
 replace H4 := H4.keep K11 (fun h => h)
 clear K11 hs12
 refine od ?_
 refine qs ?_
 refine qg ?_
 refine og 1 [(2, (ptr b7)), (3, (ptr b1))] 1 ?_
 refine Ops.go (v := (MV 6 m.ok m E ec D dc)) (by kernel_rfl) (Runs.load (t := 46) (a := ⟨b1, 0, none⟩) (by kernel_rfl) (H4.loads (by kernel_rfl))) (d := (some 4)) (by kernel_rfl) rfl ?_
 refine Ops.put (t := 46) (b := b7) (off := 0) (v := (MV 6 m.ok m E ec D dc)) (ys := [(i64 6), (i64 m.group), (i64 m.frm), (i64 m.to), (i64 m.term), (i64 m.index), (i64 m.logTerm), (i64 m.commit), (Value.bool m.ok), (Value.slice E m.entries.length ec), (Value.slice D m.data.length dc)]) (by kernel_rfl) (by kernel_rfl) H10 (by kernel_rfl) (d := none) (by kernel_rfl) rfl (fun w13 H14 K15 => ?_)
 clear H10
 replace K0 := K0.trans K15 (U := none_) (fun i h1 h2 => h2) (fun i h1 h2 => by have h2 : i = b7 := h2; exfalso; omega)
 replace H4 := H4.k1 K15 (by omega)
 clear K15
 refine od ?_
 refine q_ret (by kernel_rfl) ?_
 refine ⟨(MV 6 m.ok m E ec D dc), retv_cell rfl rfl (H14.loads (by kernel_rfl)), ?_⟩
 exact ⟨rfl, K0⟩
end Go.Proofs.Ytnmpepjikfbpdaa
namespace Go.Proofs.Ytnmpepjikfbpdaa
open Go.Q Go.RowKit

theorem FInfoO_calls (w : World) (r g : Nat) (term voted leader commit group me n elapsed timeout : Int) (kv cv : Value) (came : Bool) (ov : Value) (Hr : Has w r (rowL [(i64 term), (i64 voted), (i64 0), (i64 leader), (i64 commit), (i64 group), (i64 me), (i64 n), (ptr g), (i64 elapsed), (i64 timeout), (Value.slice none 0 0), (Value.map none), (Value.slice none 0 0), kv, cv, (Value.bool came), ov] 84)) : Calls Try.prog 14 ⟨[(ptr r)]⟩ w (fun e w' => e = .returned (agg [(i64 term), (i64 voted), (i64 0), (i64 leader), (i64 commit)]) ∧ Keeps none_ w w') := by
 have Hrl := Hr.lt
 have K0 : Keeps none_ w w := Keeps.refl w
 refine q_calls Try.func14 (by kernel_rfl) (by kernel_rfl) ?_
 refine qs ?_
 refine qg ?_
 refine Ops.new (o := rowL [(i64 0), (i64 0), (i64 0), (i64 0), (i64 0)] 35) (V := fun b => (ptr b)) (by kernel_rfl) (d := (some 2)) (by kernel_rfl) (fun b => rfl) (fun b1 w2 hb3 H4 K5 hs6 => ?_)
 have lb1r : r < b1 := by have := Hr.lt; omega
 have nb1 : w.heap.size ≤ b1 := by have := K0.size; omega
 replace K0 := K0.t0 K5
 replace Hr := Hr.keep K5 (fun h => h)
 clear K5 hs6
 refine od ?_
 refine qs ?_
 refine qs ?_
 refine qg ?_
 refine og 2 [(0, (ptr r)), (2, (ptr b1)), (4, (Value.bool false))] 2 ?_
 refine od ?_
 refine q_else (o := .tmp 4) (by kernel_rfl) rfl ?_
 refine q_skip (by kernel_rfl) ?_
 refine qs ?_
 refine qg ?_
 refine og 3 [(2, (ptr b1)), (8, (ptr r))] 3 ?_
 refine Ops.go (v := (agg [(i64 term), (i64 voted), (i64 0), (i64 leader), (i64 commit)])) (by kernel_rfl) (Runs.load (t := 35) (a := ⟨r, 0, none⟩) (by kernel_rfl) (Hr.loads (by kernel_rfl))) (d := (some 9)) (by kernel_rfl) rfl ?_
 refine Ops.put (t := 35) (b := b1) (off := 0) (v := (agg [(i64 term), (i64 voted), (i64 0), (i64 leader), (i64 commit)])) (ys := [(i64 term), (i64 voted), (i64 0), (i64 leader), (i64 commit)]) (by kernel_rfl) (by kernel_rfl) H4 (by kernel_rfl) (d := none) (by kernel_rfl) rfl (fun w7 H8 K9 => ?_)
 clear H4
 replace K0 := K0.trans K9 (U := none_) (fun i h1 h2 => h2) (fun i h1 h2 => by have h2 : i = b1 := h2; exfalso; omega)
 replace Hr := Hr.k1 K9 (by omega)
 clear K9
 refine od ?_
 refine q_ret (by kernel_rfl) ?_
 refine ⟨(agg [(i64 term), (i64 voted), (i64 0), (i64 leader), (i64 commit)]), retv_cell rfl rfl (H8.loads (by kernel_rfl)), ?_⟩
 exact ⟨rfl, K0⟩

theorem InfoF_calls (w : World) (F : Nat → Prop) (r : Nat) (q : FolQ) (s : FolS) (ov : Value) (hF : Fol w F r q s ov) : Calls Try.prog 14 ⟨[ptr r]⟩ w (fun e w' => e = .returned (agg [i64 s.term, i64 s.voted, i64 0, i64 s.leader, i64 s.commit]) ∧ Keeps none_ w w') := by
 obtain ⟨g, T, CF, A, c, l, kv, cv, came, Hr, H0, hE, hK, hKv, hCv, hT7, hK8, hC9, hrg, hFr, hFg, hOk⟩ := hF
 exact FInfoO_calls w r g s.term s.voted s.leader s.commit q.group q.me q.n s.elapsed q.timeout kv cv came ov Hr
theorem Fwait_calls (w : World) (r g : Nat) (term voted leader commit group me n elapsed timeout : Int) (kv cv : Value) (came : Bool) (Hr : Has w r (rowL [(i64 term), (i64 voted), (i64 0), (i64 leader), (i64 commit), (i64 group), (i64 me), (i64 n), (ptr g), (i64 elapsed), (i64 timeout), (Value.slice none 0 0), (Value.map none), (Value.slice none 0 0), kv, cv, (Value.bool came), (Value.slice none 0 0)] 84)) (hme : 0 ≤ me ∧ me ≤ 5) : Calls Try.prog 36 ⟨[(ptr r)]⟩ w (fun e w' => e = .returned (.tuple #[]) ∧ Keeps (fun i => i = r) w w' ∧ Has w' r (rowL [(i64 term), (i64 voted), (i64 0), (i64 leader), (i64 commit), (i64 group), (i64 me), (i64 n), (ptr g), (i64 elapsed), (i64 (10 + 2 * me)), (Value.slice none 0 0), (Value.map none), (Value.slice none 0 0), kv, cv, (Value.bool came), (Value.slice none 0 0)] 84)) := by
 have Hrl := Hr.lt
 have K0 : Keeps (fun i => i = r) w w := (Keeps.refl w).mono (fun _ _ h => h.elim)
 refine q_calls Try.func36 (by kernel_rfl) (by kernel_rfl) ?_
 refine qs ?_
 refine qs ?_
 refine qg ?_
 refine og 3 [(0, (ptr r)), (4, (Value.pointer (some ⟨r, 11, none⟩)))] 3 ?_
 refine Ops.go (v := (Value.slice none 0 0)) (by kernel_rfl) (Runs.load (t := 53) (a := ⟨r, 11, none⟩) (by kernel_rfl) (Hr.loads (by kernel_rfl))) (d := (some 5)) (by kernel_rfl) rfl ?_
 refine og 2 [(0, (ptr r)), (7, (Value.bool true))] 6 ?_
 refine od ?_
 refine q_then (o := .tmp 7) (by kernel_rfl) rfl ?_
 refine qs ?_
 refine qg ?_
 refine og 4 [(0, (ptr r)), (8, (ptr r)), (11, (Value.pointer (some ⟨r, 6, none⟩)))] 4 ?_
 refine Ops.go (v := (i64 me)) (by kernel_rfl) (Runs.load (t := 3) (a := ⟨r, 6, none⟩) (by kernel_rfl) (Hr.loads (by kernel_rfl))) (d := (some 12)) (by kernel_rfl) rfl ?_
 refine og 1 [(0, (ptr r)), (8, (ptr r)), (13, (i64 (IntKind.i64.wrap (2 * me))))] 6 ?_
 have e1 : IntKind.i64.wrap (2 * me) = 2 * me := wrap_i64 (by omega) (by omega)
 rw [e1]
 refine og 1 [(0, (ptr r)), (8, (ptr r)), (14, (i64 (IntKind.i64.wrap (10 + (2 * me)))))] 7 ?_
 have e2 : IntKind.i64.wrap (10 + (2 * me)) = 10 + (2 * me) := wrap_i64 (by omega) (by omega)
 rw [e2]
 refine og 2 [(0, (ptr r)), (14, (i64 (10 + (2 * me)))), (16, (Value.pointer (some ⟨r, 10, none⟩)))] 9 ?_
 refine Ops.put (t := 3) (b := r) (off := 10) (v := (i64 (10 + (2 * me)))) (ys := [(i64 term), (i64 voted), (i64 0), (i64 leader), (i64 commit), (i64 group), (i64 me), (i64 n), (ptr g), (i64 elapsed), (i64 (10 + (2 * me))), (Value.slice none 0 0), (Value.map none), (Value.slice none 0 0), kv, cv, (Value.bool came), (Value.slice none 0 0)]) (by kernel_rfl) (by kernel_rfl) Hr (by kernel_rfl) (d := none) (by kernel_rfl) rfl (fun w3 H4 K5 => ?_)
 clear Hr
 replace K0 := K0.t1 K5 (fun _ => rfl)
 clear K5
 refine od ?_
 refine q_ret (by kernel_rfl) ?_
 refine ⟨(Value.tuple #[]), retv_none rfl, ?_⟩
 exact ⟨rfl, K0, H4⟩

set_option maxHeartbeats 1000000 in
theorem FNew_calls (w : World) (group me n term voted commit : Int) (T : Nat → Prop) (g : Nat) (base old : Int) (A : Option Addr) (c : Nat) (l : List EntP) (H0 : Has w g (rowL [i64 base, i64 old, .slice A l.length c] 78)) (hE : Ents w T (.slice A l.length c) l) (hT : ∀ i, T i → i ≠ g) (hB : 0 ≤ base ∧ base ≤ 2305843009213693952) (hL : l.length ≤ 4096) (hBig : BigK (l.map EntP.key)) (hgr : 0 ≤ group ∧ group ≤ 3) (hn : 1 ≤ n ∧ n ≤ 5) (hme : 0 ≤ me ∧ me < n) (ht : lastK base old (l.map EntP.key) ≤ term ∧ term ≤ 1152921504606846976) (hv : -1 ≤ voted ∧ voted < n) (hc : base ≤ commit ∧ commit ≤ base + (l.length : Int)) (hb60 : base ≤ 1152921504606846976) : Calls Try.prog 12 ⟨[(i64 group), (i64 me), (i64 n), (i64 term), (i64 voted), (ptr g), (i64 commit)]⟩ w (fun e w' => ∃ r, e = .returned (.tuple #[ptr r, i64 0]) ∧ Keeps none_ w w' ∧ w.heap.size ≤ r ∧ Fol w' (fun i => w.heap.size ≤ i ∧ i < w'.heap.size) r (⟨group, me, n, 10 + 2 * me⟩ : FolQ) (⟨term, voted, -1, commit, 0, base, old, (l.map EntP.key)⟩ : FolS) (.slice none 0 0)) := by
 have hcap := Ents.len hE
 have Hg := H0.lt
 have K0 : Keeps none_ w w := Keeps.refl w
 refine q_calls Try.func12 (by kernel_rfl) (by kernel_rfl) ?_
 refine qs ?_
 refine qg ?_
 refine og 2 [(0, (i64 group)), (1, (i64 me)), (2, (i64 n)), (3, (i64 term)), (4, (i64 voted)), (5, (ptr g)), (6, (i64 commit)), (14, (Value.pointer none)), (15, (i64 0))] 2 ?_
 refine od ?_
 refine qs ?_
 refine qs ?_
 refine qg ?_
 refine og 2 [(0, (i64 group)), (1, (i64 me)), (2, (i64 n)), (3, (i64 term)), (4, (i64 voted)), (5, (ptr g)), (6, (i64 commit)), (14, (Value.pointer none)), (15, (i64 0)), (22, (Value.bool false))] 2 ?_
 refine od ?_
 refine q_else (o := .tmp 22) (by kernel_rfl) rfl ?_
 refine q_skip (by kernel_rfl) ?_
 refine qs ?_
 refine qg ?_
 refine og 1 [(0, (i64 group)), (1, (i64 me)), (2, (i64 n)), (3, (i64 term)), (4, (i64 voted)), (5, (ptr g)), (6, (i64 commit)), (14, (Value.pointer none)), (15, (i64 0)), (24, (ptr g))] 1 ?_
 refine Ops.call (by kernel_rfl) (d := (some 25)) (by kernel_rfl) (Base_calls _ T g base old A c l H0 hE hT (by omega) (by omega)) ?_
 rintro _ w2 ⟨rfl, K1⟩
 refine ⟨_, _, rfl, rfl, ?_⟩
 replace K0 := K0.t0 K1
 replace H0 := H0.keep K1 (fun h => h)
 replace hE := Ents.keep0 hE K1
 clear K1
 refine og 5 [(0, (i64 group)), (1, (i64 me)), (2, (i64 n)), (3, (i64 term)), (4, (i64 voted)), (5, (ptr g)), (6, (i64 commit)), (14, (Value.pointer none)), (15, (i64 0)), (16, (i64 base))] 7 ?_
 refine od ?_
 refine qs ?_
 refine qg ?_
 refine og 1 [(0, (i64 group)), (1, (i64 me)), (2, (i64 n)), (3, (i64 term)), (4, (i64 voted)), (5, (ptr g)), (6, (i64 commit)), (14, (Value.pointer none)), (15, (i64 0)), (16, (i64 base)), (29, (ptr g))] 1 ?_
 refine Ops.call (by kernel_rfl) (d := (some 30)) (by kernel_rfl) (Last_calls _ T g base old A c l H0 hE hT (by omega) (by omega)) ?_
 rintro _ w4 ⟨rfl, K3⟩
 refine ⟨_, _, rfl, rfl, ?_⟩
 replace K0 := K0.t0 K3
 replace H0 := H0.keep K3 (fun h => h)
 replace hE := Ents.keep0 hE K3
 clear K3
 refine og 5 [(0, (i64 group)), (1, (i64 me)), (2, (i64 n)), (3, (i64 term)), (4, (i64 voted)), (5, (ptr g)), (6, (i64 commit)), (14, (Value.pointer none)), (15, (i64 0)), (16, (i64 base)), (18, (i64 (base + ((l.length : Nat) : Int)))), (19, (i64 (lastK base old (l.map EntP.key))))] 7 ?_
 refine od ?_
 refine qs ?_
 refine qs ?_
 refine qg ?_
 refine og 3 [(0, (i64 group)), (1, (i64 me)), (2, (i64 n)), (3, (i64 term)), (4, (i64 voted)), (5, (ptr g)), (6, (i64 commit)), (14, (Value.pointer none)), (15, (i64 0)), (16, (i64 base)), (18, (i64 (base + ((l.length : Nat) : Int)))), (19, (i64 (lastK base old (l.map EntP.key)))), (35, (Value.bool (decide (group < 0))))] 3 ?_
 have h5 : (decide (group < 0)) = false := decide_eq_false (by omega)
 rw [h5]
 refine og 4 [(0, (i64 group)), (1, (i64 me)), (2, (i64 n)), (3, (i64 term)), (4, (i64 voted)), (5, (ptr g)), (6, (i64 commit)), (14, (Value.pointer none)), (15, (i64 0)), (16, (i64 base)), (18, (i64 (base + ((l.length : Nat) : Int)))), (19, (i64 (lastK base old (l.map EntP.key)))), (39, (Value.bool (decide (group > 3))))] 7 ?_
 have h6 : (decide (group > 3)) = false := decide_eq_false (by omega)
 rw [h6]
 refine og 4 [(0, (i64 group)), (1, (i64 me)), (2, (i64 n)), (3, (i64 term)), (4, (i64 voted)), (5, (ptr g)), (6, (i64 commit)), (14, (Value.pointer none)), (15, (i64 0)), (16, (i64 base)), (18, (i64 (base + ((l.length : Nat) : Int)))), (19, (i64 (lastK base old (l.map EntP.key)))), (43, (Value.bool (decide (n < 1))))] 11 ?_
 have h7 : (decide (n < 1)) = false := decide_eq_false (by omega)
 rw [h7]
 refine og 4 [(0, (i64 group)), (1, (i64 me)), (2, (i64 n)), (3, (i64 term)), (4, (i64 voted)), (5, (ptr g)), (6, (i64 commit)), (14, (Value.pointer none)), (15, (i64 0)), (16, (i64 base)), (18, (i64 (base + ((l.length : Nat) : Int)))), (19, (i64 (lastK base old (l.map EntP.key)))), (47, (Value.bool (decide (n > 5))))] 15 ?_
 have h8 : (decide (n > 5)) = false := decide_eq_false (by omega)
 rw [h8]
 refine og 4 [(0, (i64 group)), (1, (i64 me)), (2, (i64 n)), (3, (i64 term)), (4, (i64 voted)), (5, (ptr g)), (6, (i64 commit)), (14, (Value.pointer none)), (15, (i64 0)), (16, (i64 base)), (18, (i64 (base + ((l.length : Nat) : Int)))), (19, (i64 (lastK base old (l.map EntP.key)))), (51, (Value.bool (decide (me < 0))))] 19 ?_
 have h9 : (decide (me < 0)) = false := decide_eq_false (by omega)
 rw [h9]
 refine og 5 [(0, (i64 group)), (1, (i64 me)), (2, (i64 n)), (3, (i64 term)), (4, (i64 voted)), (5, (ptr g)), (6, (i64 commit)), (14, (Value.pointer none)), (15, (i64 0)), (16, (i64 base)), (18, (i64 (base + ((l.length : Nat) : Int)))), (19, (i64 (lastK base old (l.map EntP.key)))), (56, (Value.bool (decide (me ≥ n))))] 24 ?_
 have h10 : (decide (me ≥ n)) = false := decide_eq_false (by omega)
 rw [h10]
 refine og 2 [(0, (i64 group)), (1, (i64 me)), (2, (i64 n)), (3, (i64 term)), (4, (i64 voted)), (5, (ptr g)), (6, (i64 commit)), (14, (Value.pointer none)), (15, (i64 0)), (16, (i64 base)), (18, (i64 (base + ((l.length : Nat) : Int)))), (56, (Value.bool false)), (57, (i64 term)), (58, (i64 (lastK base old (l.map EntP.key))))] 26 ?_
 refine Ops.call (by kernel_rfl) (d := (some 59)) (by kernel_rfl) (within_calls _ term (lastK base old (l.map EntP.key)) 1152921504606846976) ?_
 rintro _ w14 ⟨t11, rfl, ht12, K13⟩
 refine ⟨_, _, rfl, rfl, ?_⟩
 replace K0 := K0.t0 K13
 replace H0 := H0.keep K13 (fun h => h)
 replace hE := Ents.keep0 hE K13
 clear K13
 refine og 3 [(0, (i64 group)), (1, (i64 me)), (2, (i64 n)), (3, (i64 term)), (4, (i64 voted)), (5, (ptr g)), (6, (i64 commit)), (14, (Value.pointer none)), (15, (i64 0)), (16, (i64 base)), (18, (i64 (base + ((l.length : Nat) : Int)))), (62, (Value.bool (!t11)))] 30 ?_
 have h15 : (!t11) = false := by rw [show t11 = true from ht12.2 ⟨by omega, by omega⟩]; rfl
 rw [h15]
 refine og 4 [(0, (i64 group)), (1, (i64 me)), (2, (i64 n)), (3, (i64 term)), (4, (i64 voted)), (5, (ptr g)), (6, (i64 commit)), (14, (Value.pointer none)), (15, (i64 0)), (16, (i64 base)), (18, (i64 (base + ((l.length : Nat) : Int)))), (66, (Value.bool (decide (voted < (-1)))))] 34 ?_
 have h16 : (decide (voted < (-1))) = false := decide_eq_false (by omega)
 rw [h16]
 refine og 5 [(0, (i64 group)), (1, (i64 me)), (2, (i64 n)), (3, (i64 term)), (4, (i64 voted)), (5, (ptr g)), (6, (i64 commit)), (14, (Value.pointer none)), (15, (i64 0)), (16, (i64 base)), (18, (i64 (base + ((l.length : Nat) : Int)))), (71, (Value.bool (decide (voted ≥ n))))] 39 ?_
 have h17 : (decide (voted ≥ n)) = false := decide_eq_false (by omega)
 rw [h17]
 refine og 3 [(0, (i64 group)), (1, (i64 me)), (2, (i64 n)), (3, (i64 term)), (4, (i64 voted)), (5, (ptr g)), (6, (i64 commit)), (14, (Value.pointer none)), (15, (i64 0)), (71, (Value.bool false)), (72, (i64 commit)), (73, (i64 base)), (74, (i64 (base + ((l.length : Nat) : Int))))] 42 ?_
 refine Ops.call (by kernel_rfl) (d := (some 75)) (by kernel_rfl) (within_calls _ commit base (base + ((l.length : Nat) : Int))) ?_
 rintro _ w21 ⟨t18, rfl, ht19, K20⟩
 refine ⟨_, _, rfl, rfl, ?_⟩
 replace K0 := K0.t0 K20
 replace H0 := H0.keep K20 (fun h => h)
 replace hE := Ents.keep0 hE K20
 clear K20
 refine og 2 [(0, (i64 group)), (1, (i64 me)), (2, (i64 n)), (3, (i64 term)), (4, (i64 voted)), (5, (ptr g)), (6, (i64 commit)), (14, (Value.pointer none)), (15, (i64 0)), (77, (Value.bool (!t18)))] 45 ?_
 refine od ?_
 have h22 : (!t18) = false := by rw [show t18 = true from ht19.2 ⟨by omega, by omega⟩]; rfl
 rw [h22]
 refine q_else (o := .tmp 77) (by kernel_rfl) rfl ?_
 refine q_skip (by kernel_rfl) ?_
 refine qs ?_
 refine qg ?_
 refine og 8 [(14, (Value.pointer none)), (15, (i64 0)), (81, (agg [(i64 term), (i64 voted), (i64 0), (i64 (-1)), (i64 commit)])), (82, (i64 group)), (83, (i64 me)), (84, (i64 n)), (85, (ptr g))] 8 ?_
 have hz00 := K0.size
 refine Ops.call (by kernel_rfl) (d := (some 86)) (by kernel_rfl) (Copy_calls _ T g base old A c l H0 hE hT (by omega) (by omega) hBig) ?_
 rintro _ w27 ⟨g23, l24, A25, c26, rfl, hg32, K28, H29, hE30, hK31⟩
 have ot33 : ∀ i, (fun i => (w21.heap.size ≤ i ∧ i < w27.heap.size) ∧ i ≠ g23) i → i ≠ g := fun i hi => by have := hi.1.1; have := H0.lt; omega
 have lg23g : g < g23 := by have := H0.lt; omega
 have ot34 : ∀ i, T i → i ≠ g23 := fun i hi => by have := Ents.lt hE i hi; omega
 have ot35 : ∀ i, (fun i => (w21.heap.size ≤ i ∧ i < w27.heap.size) ∧ i ≠ g23) i → i ≠ g23 := fun i hi => hi.2
 have ng23 : w.heap.size ≤ g23 := by have := K0.size; omega
 have hn36 := keys_len2 hK31
 try rw [List.length_drop] at hn36
 try rw [List.length_append] at hn36
 try rw [List.length_map] at hn36
 try rw [List.length_map] at hn36
 refine ⟨_, _, rfl, rfl, ?_⟩
 replace K0 := K0.t0 K28
 replace H0 := H0.keep K28 (fun h => h)
 replace hE := Ents.keep0 hE K28
 clear K28
 refine og 1 [(14, (Value.pointer none)), (15, (i64 0)), (87, (agg [(i64 term), (i64 voted), (i64 0), (i64 (-1)), (i64 commit), (i64 group), (i64 me), (i64 n), (ptr g23), (i64 0), (i64 0), (Value.slice none 0 0), (Value.map none), (Value.slice none 0 0), (Value.pointer none), (Value.pointer none), (Value.bool false), (Value.slice none 0 0)]))] 10 ?_
 refine Ops.new (o := rowL [(i64 term), (i64 voted), (i64 0), (i64 (-1)), (i64 commit), (i64 group), (i64 me), (i64 n), (ptr g23), (i64 0), (i64 0), (Value.slice none 0 0), (Value.map none), (Value.slice none 0 0), (Value.pointer none), (Value.pointer none), (Value.bool false), (Value.slice none 0 0)] 84) (V := fun b => (ptr b)) (by kernel_rfl) (d := (some 88)) (by kernel_rfl) (fun b => rfl) (fun b37 w38 hb39 H40 K41 hs42 => ?_)
 have lb37g : g < b37 := by have := H0.lt; omega
 have lb37g23 : g23 < b37 := by have := H29.lt; omega
 have nb37 : w.heap.size ≤ b37 := by have := K0.size; omega
 have ot43 : ∀ i, T i → i ≠ b37 := fun i hi => by have := Ents.lt hE i hi; omega
 have ot44 : ∀ i, (fun i => (w21.heap.size ≤ i ∧ i < w27.heap.size) ∧ i ≠ g23) i → i ≠ b37 := fun i hi => by have := Ents.lt hE30 i hi; omega
 replace K0 := K0.t0 K41
 replace H0 := H0.keep K41 (fun h => h)
 replace H29 := H29.keep K41 (fun h => h)
 replace hE := Ents.keep0 hE K41
 replace hE30 := Ents.keep0 hE30 K41
 clear K41 hs42
 refine og 1 [(14, (Value.pointer none)), (15, (i64 0)), (20, (ptr b37))] 12 ?_
 refine od ?_
 refine qs ?_
 refine qg ?_
 refine og 1 [(14, (Value.pointer none)), (15, (i64 0)), (20, (ptr b37)), (89, (ptr b37))] 1 ?_
 refine Ops.call (by kernel_rfl) (d := (some 90)) (by kernel_rfl) (Fwait_calls _ b37 g23 term voted (-1) commit group me n 0 0 (Value.pointer none) (Value.pointer none) false H40 (by omega)) ?_
 rintro _ w46 ⟨rfl, K45, H47⟩
 refine ⟨_, _, rfl, rfl, ?_⟩
 replace K0 := K0.trans K45 (U := none_) (fun i h1 h2 => h2) (fun i h1 h2 => by have h2 : i = b37 := h2; exfalso; omega)
 replace H0 := H0.k1 K45 (by omega)
 replace H29 := H29.k1 K45 (by omega)
 replace hE := Ents.keep hE K45 ot43
 replace hE30 := Ents.keep hE30 K45 ot44
 clear K45
 refine od ?_
 refine qs ?_
 refine qg ?_
 refine og 3 [(14, (ptr b37)), (15, (i64 0))] 3 ?_
 refine od ?_
 refine q_ret (by kernel_rfl) ?_
 refine ⟨(Value.tuple #[(ptr b37), (i64 0)]), retv_tmp2 rfl rfl rfl, ?_⟩
 exact ⟨b37, rfl, K0, nb37, g23, (fun i => (w21.heap.size ≤ i ∧ i < w27.heap.size) ∧ i ≠ g23), none_, A25, c26, l24, .pointer none, .pointer none, false, H47, H29, hE30, hK31, .inl rfl, ⟨fun _ h => h.elim, .inl rfl⟩, fun i hi => ⟨ot44 i hi, ot35 i hi, fun h => h, by have := hi.1.1; omega, Ents.lt hE30 i hi⟩, (fun i hi => by cases hi), (fun i hi => hi.elim), by omega, ⟨nb37, H47.lt⟩, ⟨ng23, H29.lt⟩, ⟨by show 0 ≤ base ∧ base ≤ 1152921504606846976; omega, by show (l.map EntP.key).length ≤ 4096; rw [List.length_map]; exact hL, hBig, by show base ≤ commit ∧ commit ≤ 2305843009213693952; omega⟩⟩
end Go.Proofs.Ytnmpepjikfbpdaa
namespace Go.Q
open Go.RowKit

def le4 (a b c d : Nat) : Nat := (((0 ||| a * 1) ||| b * 256) ||| c * 65536) ||| d * 16777216
def byteN (bs : List UInt8) (k : Nat) : Nat := (bs.getD k 0).toNat
/-- The first frame of bytes: what is in it, how many bytes it has, the error. -/
def cutB (bs : List UInt8) : List UInt8 × Nat × Int :=
  if (scanB bs).2.2 ≠ 0 then ([], 0, (scanB bs).2.2)
  else if 65536 < (scanB bs).1 then ([], 0, 3)
  else if bs.length < (scanB bs).2.1 + 4 + (scanB bs).1 then ([], 0, 10)
  else if le4 (byteN bs (scanB bs).2.1) (byteN bs ((scanB bs).2.1 + 1)) (byteN bs ((scanB bs).2.1 + 2)) (byteN bs ((scanB bs).2.1 + 3)) ≠ crcMore 0 ((bs.drop ((scanB bs).2.1 + 4)).take (scanB bs).1) then ([], (scanB bs).2.1 + 4 + (scanB bs).1, 12)
  else ((bs.drop ((scanB bs).2.1 + 4)).take (scanB bs).1, (scanB bs).2.1 + 4 + (scanB bs).1, 0)
def unframeB (bs : List UInt8) : List UInt8 × Int :=
  if 0 < (cutB bs).2.1 ∧ (cutB bs).2.1 < bs.length then ([], 11)
  else if (cutB bs).2.2 ≠ 0 then ([], (cutB bs).2.2)
  else ((cutB bs).1, 0)
end Go.Q
namespace Go.Q
open Go.ChangeShapes Go.WideShapes Go.ChangeAt Go.RowKit Go.Deep

structure LetP where
  kind : Int
  n : Int
  group : Int
  op : Opm
  rep : ReplyM
  body : List UInt8
structure LetP.Ok (x : LetP) : Prop where
  kind : -9223372036854775808 ≤ x.kind ∧ x.kind ≤ 9223372036854775807
  n : -9223372036854775808 ≤ x.n ∧ x.n ≤ 9223372036854775807
  group : -9223372036854775808 ≤ x.group ∧ x.group ≤ 9223372036854775807
  op : x.op.Ok
  rep : x.rep.Ok
/-- The cells of a letter whose rows and bytes stand at V and D. -/
def LetP.cells (x : LetP) (V : Option Addr) (c : Nat) (D : Option Addr) (dc : Nat) : List Value :=
  [i64 x.kind, i64 x.n, i64 x.group, i64 x.op.kind, .string (str x.op.frm), .string (str x.op.to), i64 x.op.amount, .string (str x.op.key), i64 x.op.slot, i64 x.op.shard, i64 x.rep.why, i64 x.rep.amount, .slice V x.rep.rows.length c, .slice D x.body.length dc]
section
variable {H : Type} {enc : TypeId × Value → H} {P : Program} {w : World} {base : Nat} {spare : Nat → Bool} {held : Bool}
/-- A field: where it begins, how many cells it has, its type. -/
def fieldAt? (P : Program) (fs : Array Field) (j : Nat) : Option (Nat × Nat × TypeId) := match fs[j]? with
  | some f => some (f.offset, P.cellsOf f.type, f.type)
  | none => none
theorem trod_field {e : TypeId} {fs : Array Field} {m : Nat} {cs : List Value} {y : DataW H × List MemPlace} (he : P.underlying e = some (.struct fs)) (h : DataW.trod enc P w base spare held m e cs = some y) {j off sz : Nat} {t : TypeId} (hj : fieldAt? P fs j = some (off, sz, t)) :
    ∃ m' z, DataW.trod enc P w base spare held m' t ((cs.drop off).take sz) = some z ∧ ∀ n ∈ z.1.weights P t, n ∈ y.1.weights P e := by
  obtain ⟨xs, m', hm, hy, hlen, hxl, hf⟩ := DataW.trod_struct he h
  unfold fieldAt? at hj
  cases hfj : fs[j]? with
  | none => rw [hfj] at hj; cases hj
  | some f =>
    rw [hfj] at hj
    simp only [Option.some.injEq, Prod.mk.injEq] at hj
    obtain ⟨rfl, rfl, rfl⟩ := hj
    have h2 := hf j f hfj
    have hlt : j < xs.length := by have := (Array.getElem?_eq_some_iff.1 hfj).1; omega
    rw [List.getElem?_eq_getElem hlt] at h2
    refine ⟨_, _, h2, fun n hn => ?_⟩
    subst hy
    simp only [DataW.weights, he]
    exact DataW.weights_mem_each (j := j) (by rw [List.getElem?_map, Array.getElem?_toList, hfj]; rfl) (by rw [List.getElem?_map, List.getElem?_eq_getElem hlt]; rfl) n hn
theorem slice_weight {t e : TypeId} {n sz : Nat} {d : DataW H} (hu : P.underlying t = some (.slice e)) (hb : P.bytesOf e = sz) (hz : ∀ k ∈ d.weights P t, k ≤ reachBytes) (h : n = 0 ∨ ∃ el sp, d = .slice el sp ∧ el.length = n) : n * sz ≤ 140737488351232 := by
  rcases h with rfl | ⟨el, sp, rfl, rfl⟩
  · simp
  · have := hz ((el.length + sp.length) * P.bytesOf e) (by simp [DataW.weights, hu])
    rw [hb] at this
    have e : reachBytes = 140737488351232 := by decide
    rw [e, Nat.add_mul] at this
    omega
theorem weight_in {ts : List TypeId} {ds : List (DataW H)} (hz : (DataW.weightsEach P ts ds).all (· ≤ reachBytes) = true) {j : Nat} {t : TypeId} {d : DataW H} (ht : ts[j]? = some t) (hd : ds[j]? = some d) : ∀ k ∈ d.weights P t, k ≤ reachBytes :=
  fun k hk => of_decide_eq_true (List.all_eq_true.1 hz k (DataW.weights_mem_each ht hd k hk))
end
/-! ### as bytes -/
/-- Can it be packed? -/
def LetP.Fits (x : LetP) : Prop :=
  (x.kind = 2 → x.op.frm.length ≤ 65536 ∧ x.op.to.length ≤ 65536 ∧ x.op.key.length ≤ 65536) ∧ (x.kind = 3 → x.rep.rows.length ≤ 600 ∧ ∀ r ∈ x.rep.rows, r.name.length ≤ 65536) ∧ (x.kind ≠ 2 → x.kind ≠ 3 → x.body.length ≤ 65536)
instance (x : LetP) : Decidable x.Fits := by unfold LetP.Fits; infer_instance
def letv (x : LetP) : List UInt8 :=
  iv x.kind ++ (if x.kind = 2 then iv x.n ++ opv x.op else if x.kind = 3 then iv x.n ++ rpv x.rep else if x.kind = 5 then iv x.n ++ (iv x.group ++ tv x.body) else if x.kind = 4 then iv x.n ++ tv x.body else tv x.body)
/-- A letter as bytes, and the error. -/
def packB (x : LetP) : List UInt8 × Int :=
  if x.kind < 1 ∨ 5 < x.kind then ([], 1) else if ¬ x.Fits then ([], 3) else if 1048576 < (letv x).length then ([], 3) else (letv x, 0)
/-- The group that an operation goes to. -/
def groupI (k : Int) : Int := if k = 6 ∨ k = 7 then 0 else -1
/-- What counts of a letter. -/
def LetP.just (x : LetP) : LetP :=
  ⟨x.kind, if x.kind = 1 then 0 else x.n, if x.kind = 5 then x.group else 0, if x.kind = 2 then x.op else ⟨0, [], [], 0, [], 0, 0⟩, if x.kind = 3 then x.rep else ⟨0, 0, []⟩, if x.kind = 2 ∨ x.kind = 3 then [] else x.body⟩
end Go.Q
namespace Go.Q
end Go.Q
namespace Go.Proofs.Ytnmpepjikfbpdaa
open Go.Q Go.RowKit

theorem Count01_calls (w : World) (a k : Int) (hk : 0 < k ∧ k ≤ 9223372036854775807) : Calls Try.prog 18 ⟨[(i64 a), (i64 k)]⟩ w (fun e w' => e = .returned (i64 (cnt a k)) ∧ w = w') := by
 have htm := tmod_range a hk.1
 refine q_calls Try.func18 (by kernel_rfl) (by kernel_rfl) ?_
 refine qs ?_
 refine qg ?_
 refine og 1 [(0, (i64 a)), (1, (i64 k)), (4, (i64 0))] 1 ?_
 refine od ?_
 refine qs ?_
 refine qg ?_
 refine og 2 [(0, (i64 a)), (1, (i64 k)), (4, (i64 0)), (5, (i64 a)), (6, (i64 k))] 2 ?_
 refine Ops.go (by kernel_rfl) (Runs.int (op := .rem) (t := 3) (x := a) (y := k) (by kernel_rfl) (run_rem (k := IntKind.i64) (by omega))) (d := (some 7)) (by kernel_rfl) rfl ?_
 refine og 1 [(0, (i64 ((a : Int).tmod k))), (1, (i64 k)), (4, (i64 0))] 4 ?_
 refine od ?_
 refine qs ?_
 refine qs ?_
 refine qg ?_
 refine og 2 [(0, (i64 ((a : Int).tmod k))), (1, (i64 k)), (4, (i64 0)), (9, (Value.bool (decide ((a : Int).tmod k < 0))))] 2 ?_
 refine od ?_
 refine q_cond (o := .tmp 9) (b := (decide ((a : Int).tmod k < 0))) (by kernel_rfl) rfl (fun h1 => ?_) (fun h1 => ?_)
 ·rw [h1]
  have p2 : (a : Int).tmod k < 0 := of_decide_eq_true h1
  refine qg ?_
  refine og 3 [(0, (i64 ((a : Int).tmod k))), (4, (i64 0)), (12, (i64 (IntKind.i64.wrap (((a : Int).tmod k) + k))))] 3 ?_
  have e3 : IntKind.i64.wrap (((a : Int).tmod k) + k) = ((a : Int).tmod k) + k := wrap_i64 (by omega) (by omega)
  rw [e3]
  refine og 1 [(0, (i64 (((a : Int).tmod k) + k))), (4, (i64 0))] 4 ?_
  refine od ?_
  refine qs ?_
  refine qg ?_
  refine og 2 [(4, (i64 (((a : Int).tmod k) + k)))] 2 ?_
  refine od ?_
  refine q_ret (by kernel_rfl) ?_
  refine ⟨(i64 (((a : Int).tmod k) + k)), retv_tmp rfl rfl, ?_⟩
  exact ⟨by unfold cnt; first | (rw [if_pos (by omega)]; done) | (rw [if_neg (by omega)]; done), rfl⟩
 ·rw [h1]
  have p4 : ¬ ((a : Int).tmod k < 0) := of_decide_eq_false h1
  refine q_skip (by kernel_rfl) ?_
  refine qs ?_
  refine qg ?_
  refine og 2 [(4, (i64 ((a : Int).tmod k)))] 2 ?_
  refine od ?_
  refine q_ret (by kernel_rfl) ?_
  refine ⟨(i64 ((a : Int).tmod k)), retv_tmp rfl rfl, ?_⟩
  exact ⟨by unfold cnt; first | (rw [if_pos (by omega)]; done) | (rw [if_neg (by omega)]; done), rfl⟩

set_option maxHeartbeats 1000000 in
theorem emptyF_calls (w : World) (me n : Int) (hn : 1 ≤ n ∧ n ≤ 5) (hme : 0 ≤ me ∧ me < n) : Calls Try.prog 19 ⟨[(i64 me), (i64 n)]⟩ w (fun e w' => ∃ r, e = .returned (ptr r) ∧ Keeps none_ w w' ∧ w.heap.size ≤ r ∧ Fol w' (fun i => w.heap.size ≤ i ∧ i < w'.heap.size) r (⟨1, me, n, 10 + 2 * me⟩ : FolQ) (⟨0, -1, -1, 0, 0, 0, 0, []⟩ : FolS) (.slice none 0 0)) := by
 have K0 : Keeps none_ w w := Keeps.refl w
 refine q_calls Try.func19 (by kernel_rfl) (by kernel_rfl) ?_
 refine qs ?_
 refine qg ?_
 refine og 1 [(0, (i64 me)), (1, (i64 n)), (4, (Value.pointer none))] 1 ?_
 refine od ?_
 refine qs ?_
 refine qg ?_
 have hq1 : newE 0 0 [] = 0 := by decide
 refine Ops.call (by kernel_rfl) (d := (some 10)) (by kernel_rfl) (New_ok _ none_ 0 0 none 0 [] (Ents.nil _) BigK.nil hq1) ?_
 rintro _ w6 ⟨g2, l3, A4, c5, rfl, hg11, K7, H8, hE9, hK10⟩
 have ot12 : ∀ i, (fun i => (w.heap.size ≤ i ∧ i < w6.heap.size) ∧ i ≠ g2) i → i ≠ g2 := fun i hi => hi.2
 have ng2 : w.heap.size ≤ g2 := by have := K0.size; omega
 have hn13 := keys_len2 hK10
 try rw [List.length_drop] at hn13
 try rw [List.length_append] at hn13
 try rw [List.length_map] at hn13
 try rw [List.length_map] at hn13
 refine ⟨_, _, rfl, rfl, ?_⟩
 replace K0 := K0.t0 K7
 clear K7
 have hn0l3 : l3.length = 0 := by have q := congrArg List.length hK10; simpa using q
 refine og 5 [(0, (i64 me)), (1, (i64 n)), (4, (Value.pointer none)), (5, (ptr g2)), (6, (i64 0))] 6 ?_
 refine od ?_
 refine qs ?_
 refine qs ?_
 refine qg ?_
 refine og 6 [(0, (i64 me)), (1, (i64 n)), (4, (Value.pointer none)), (5, (ptr g2)), (18, (Value.bool false))] 6 ?_
 refine od ?_
 refine q_else (o := .tmp 18) (by kernel_rfl) rfl ?_
 refine q_skip (by kernel_rfl) ?_
 refine qs ?_
 refine qg ?_
 refine og 3 [(4, (Value.pointer none)), (20, (i64 me)), (21, (i64 n)), (22, (ptr g2))] 3 ?_
 refine Ops.call (by kernel_rfl) (d := (some 23)) (by kernel_rfl) (FNew_calls _ 1 me n 0 (-1) 0 (fun i => (w.heap.size ≤ i ∧ i < w6.heap.size) ∧ i ≠ g2) g2 0 0 A4 c5 l3 H8 hE9 ot12 (by omega) (by omega) (BigK.keys hK10 BigK.nil) (by omega) (by omega) (by omega) (by rw [hK10]; exact ⟨by decide, by decide⟩) (by omega) (by omega) (by omega)) ?_
 rintro _ w15 ⟨r14, rfl, K16, hr17, hF18⟩
 have hz19 := K0.size
 have hF18L : FolL w15 (fun i => w6.heap.size ≤ i ∧ i < w15.heap.size) r14 (⟨1, me, n, 10 + 2 * me⟩ : FolQ) (⟨0, (-1), -1, 0, 0, 0, 0, (l3.map EntP.key)⟩ : FolS) (.slice none 0 0) := ⟨hF18, fun i hi => hi.2⟩
 have of20 : ∀ i, (fun i => w6.heap.size ≤ i ∧ i < w15.heap.size) i → i ≠ g2 := fun i hi => by have h1 := hi.1; have := H8.lt; omega
 have sl21 : ∀ i, (fun i => w6.heap.size ≤ i ∧ i < w15.heap.size) i → w.heap.size ≤ i := fun i hi => Nat.le_trans hz19 hi.1
 refine ⟨_, _, rfl, rfl, ?_⟩
 replace K0 := K0.t0 K16
 replace H8 := H8.keep K16 (fun h => h)
 replace hE9 := Ents.keep0 hE9 K16
 clear K16
 refine og 5 [(4, (Value.pointer none)), (7, (ptr r14)), (8, (i64 0))] 9 ?_
 refine od ?_
 refine qs ?_
 refine qs ?_
 refine qg ?_
 refine og 2 [(4, (Value.pointer none)), (7, (ptr r14)), (27, (Value.bool false))] 2 ?_
 refine od ?_
 refine q_else (o := .tmp 27) (by kernel_rfl) rfl ?_
 refine q_skip (by kernel_rfl) ?_
 refine qs ?_
 refine qg ?_
 refine og 2 [(4, (ptr r14))] 2 ?_
 refine od ?_
 refine q_ret (by kernel_rfl) ?_
 refine ⟨(ptr r14), retv_tmp rfl rfl, ?_⟩
 have hFin := hF18L.1
 rw [hK10] at hFin
 exact ⟨r14, rfl, K0, sl21 r14 hFin.rmem, hFin.wide (fun i hi => ⟨sl21 i hi, hi.2⟩)⟩
end Go.Proofs.Ytnmpepjikfbpdaa
