/- What the claim stands on, part 8: rules of the walk, contracts of the functions, plain laws. -/
import Derived.Test.YtnmpepjikfbpdaaKRAlone6
import Derived.Test.YtnmpepjikfbpdaaKRAlone2
import Derived.Laws.CopyRow
import Derived.Test.YtnmpepjikfbpdaaProg
import Derived.Test.YtnmpepjikfbpdaaKRAlone7
import Derived.Test.YtnmpepjikfbpdaaKRAlone5
import Derived.Test.YtnmpepjikfbpdaaKRAlone3
set_option linter.unusedVariables false
namespace Go.Q
open Go.RowKit Go.MapKept
def kint (x : Int) : Value := i64 x
def vbool (x : Bool) : Value := .bool x
theorem keyTy_int {P : Program} {k : TypeId} (hk : P.underlying k = some (.int .i64)) : KeyTy P k kint where
  check e x w := run_checkKey hk (by first | trivial | rfl) e 9999
  find x es w h := by
    have hks : ∀ e ∈ es, IsKey (.int .i64) e.key := fun e he => by obtain ⟨y, hy⟩ := h e he; rw [hy]; first | trivial | rfl
    rcases findNow_spec (d := .int .i64) (k := kint x) rfl es 0 hks with ⟨h1, h2⟩ | ⟨j, e, h1, h2, h3⟩
    · exact .inr ⟨h2, run_findKey hk h1⟩
    · exact .inl ⟨j, e, h2, h3, by rw [run_findKey hk h1, Nat.zero_add]⟩
  same x := sameBits_self (d := .int .i64) (by first | trivial | rfl) 10000
  inj x y h := by
    simp only [kint, i64, Value.int.injEq, true_and] at h
    exact h
theorem copy_rows {P : Program} {w : World} {t ty e sz b b2 : Nat} {cur cs : List Value} {E : TypeId} (hu : P.underlying t = some (.slice e)) (hs : (P.info? e).map (·.size) = some sz) (H1 : Has w b2 (rowL cur E)) (hc : cur.length = sz) (hl : cs.length = sz)
    (hsrc : ∀ (j : Nat) v, cs[j]? = some v → w.cell? ⟨b, j, none⟩ = some v) (h1 : ∀ v ∈ cs, v.oneCell' = true) :
    (Builtin.copy_ #[t, t] ty #[.slice (some ⟨b2, 0, none⟩) 1 1, .slice (some ⟨b, 0, none⟩) 1 1]).run P w = .ok (goInt 1) (w.setRow b2 cs.toArray) := by
  have hl1 := run_loadCells_list (P := P) w ⟨b, 0, none⟩ cs (fun j v hj => by have := hsrc j v hj; rw [add_plain, Nat.zero_add]; exact this)
  have hst := run_storeCells_at P b2 0 E cs 0 ⟨cur⟩ w H1 (by simp; omega) h1
  have e1 : (List.take (0 + 0) cur ++ cs ++ List.drop (0 + 0 + cs.length) cur).toArray = cs.toArray := by
    rw [List.take_zero, List.nil_append, List.drop_eq_nil_of_le (by omega), List.append_nil]
  rw [show (⟨cur⟩ : Array Value).toList = cur from rfl, e1] at hst
  cases hq : P.info? e with
  | none => simp [hq] at hs
  | some i =>
    have hi : i.size = sz := by simpa [hq] using hs
    simp [Builtin.copy_, run_underlying hu, Builtin.lenOf, Builtin.firstCells, sizeOf, typeInfo, hq, hi, ← hl, hl1, hst]
theorem copy_rows2 {P : Program} {w : World} {t ty e sz b b2 : Nat} {cur cs : List Value} {E : TypeId} (hu : P.underlying t = some (.slice e)) (hs : (P.info? e).map (·.size) = some sz) (H1 : Has w b2 (rowL cur E)) (hc : cur.length = sz) (hl : cs.length = sz)
    (hsrc : ∀ (j : Nat) v, cs[j]? = some v → w.cell? ⟨b, j, none⟩ = some v) (h1 : ∀ v ∈ cs, v.oneCell' = true) :
    ∃ w', (Builtin.copy_ #[t, t] ty #[.slice (some ⟨b2, 0, none⟩) 1 1, .slice (some ⟨b, 0, none⟩) 1 1]).run P w = .ok (i64 1) w' ∧ Keeps (fun i => i = b2) w w' ∧ Has w' b2 (rowL cs E) :=
  ⟨_, copy_rows hu hs H1 hc hl hsrc h1, Keeps.setRow w b2 ⟨cs⟩, H1.set cs⟩
theorem Runs.copied {P : Program} {L : Loc} {o : Oper} {w w' : World} {ts : Array TypeId} {ty : TypeId} {vs : List Value} {v' : Value} (h : bi? L o = some (.copy, ts, ty, vs)) (hr : (Builtin.copy_ ts ty ⟨vs⟩).run P w = .ok v' w') : Runs P L o w v' w' := by
  unfold bi? at h
  cases ho : o.op with
  | call c =>
    rw [ho] at h
    simp only at h
    cases hc : c.callee with
    | builtin b =>
      rw [hc] at h
      simp only [Option.some.injEq, Prod.mk.injEq] at h
      obtain ⟨rfl, rfl, rfl, rfl⟩ := h
      unfold Runs execOp
      have he : c.args.map (ev L) = ⟨c.args.toList.map (ev L)⟩ := by
        apply Array.ext'; simp
      simp only [ho, resolve, hc, Sem.run_bind, Sem.run_pure, Result.andThen_ok, invoke, builtin]
      rw [he]
      have hb : ∀ (ats : Array TypeId) (ty : TypeId) (cs : Array Bool) (args : Array Value), Go.builtin .copy ats ty cs args = (do Pure.pure (Go.Next.value (← Builtin.copy_ ats ty args))) := fun _ _ _ _ => rfl
      rw [hb]
      simp only [Sem.run_bind, hr, Result.andThen_ok, Sem.run_pure]
    | _ => rw [hc] at h; cases h
  | _ => rw [ho] at h; cases h
end Go.Q
namespace Go.Proofs.Ytnmpepjikfbpdaa
open Go.Q Go.RowKit

theorem Repeat_one (w : World) (b : Nat) (n : Int) (Hb : Has w b (rowL [i64 n, i64 0, i64 0] 112)) : Calls Try.prog 60 ⟨[(Value.slice (some ⟨b, 0, none⟩) 1 1), (i64 1)]⟩ w (fun e w' => ∃ A c, e = .returned (.slice A 1 c) ∧ Keeps none_ w w') := by
 have K0 : Keeps none_ w w := Keeps.refl w
 have Hbl := Hb.lt
 refine q_calls Try.func60 (by kernel_rfl) (by kernel_rfl) ?_
 refine qs ?_
 refine qg ?_
 refine og 1 [(0, (Value.slice (some ⟨b, 0, none⟩) 1 1)), (1, (i64 1)), (4, (Value.slice none 0 0))] 1 ?_
 refine od ?_
 refine qs ?_
 refine qs ?_
 refine qg ?_
 refine og 2 [(0, (Value.slice (some ⟨b, 0, none⟩) 1 1)), (1, (i64 1)), (4, (Value.slice none 0 0)), (10, (Value.bool false))] 2 ?_
 refine od ?_
 refine q_else (o := .tmp 10) (by kernel_rfl) rfl ?_
 refine q_skip (by kernel_rfl) ?_
 refine qs ?_
 refine qg ?_
 refine og 5 [(0, (Value.slice (some ⟨b, 0, none⟩) 1 1)), (4, (Value.slice none 0 0)), (15, (Value.int IntKind.u64 1)), (17, (Value.int IntKind.u64 1))] 5 ?_
 refine Ops.call (by kernel_rfl) (d := (some 18)) (by kernel_rfl) (Mul_one _) ?_
 rintro _ w2 ⟨rfl, K1⟩
 refine ⟨_, _, rfl, rfl, ?_⟩
 replace K0 := K0.t0 K1
 replace Hb := Hb.keep K1 (fun h => h)
 clear K1
 refine og 5 [(0, (Value.slice (some ⟨b, 0, none⟩) 1 1)), (4, (Value.slice none 0 0)), (5, (Value.int IntKind.u64 0)), (6, (Value.int IntKind.u64 1))] 11 ?_
 refine od ?_
 refine qs ?_
 refine qs ?_
 refine qg ?_
 refine og 6 [(0, (Value.slice (some ⟨b, 0, none⟩) 1 1)), (4, (Value.slice none 0 0)), (6, (Value.int IntKind.u64 1)), (26, (Value.bool false))] 6 ?_
 refine od ?_
 refine q_else (o := .tmp 26) (by kernel_rfl) rfl ?_
 refine q_skip (by kernel_rfl) ?_
 refine qs ?_
 refine qg ?_
 refine og 2 [(0, (Value.slice (some ⟨b, 0, none⟩) 1 1)), (4, (Value.slice none 0 0)), (29, (i64 1))] 2 ?_
 refine Ops.new (o := rowL [(i64 0), (i64 0), (i64 0)] 112) (V := fun b => (Value.slice (some ⟨b, 0, none⟩) 1 1)) (by kernel_rfl) (d := (some 30)) (by kernel_rfl) (fun b => rfl) (fun b3 w4 hb5 H6 K7 hs8 => ?_)
 have lb3b : b < b3 := by have := Hb.lt; omega
 have nb3 : w.heap.size ≤ b3 := by have := K0.size; omega
 replace K0 := K0.t0 K7
 replace Hb := Hb.keep K7 (fun h => h)
 clear K7 hs8
 refine og 1 [(0, (Value.slice (some ⟨b, 0, none⟩) 1 1)), (4, (Value.slice none 0 0)), (7, (Value.slice (some ⟨b3, 0, none⟩) 1 1))] 4 ?_
 refine od ?_
 refine qs ?_
 refine qg ?_
 refine og 2 [(4, (Value.slice none 0 0)), (7, (Value.slice (some ⟨b3, 0, none⟩) 1 1)), (31, (Value.slice (some ⟨b3, 0, none⟩) 1 1)), (32, (Value.slice (some ⟨b, 0, none⟩) 1 1))] 2 ?_
 obtain ⟨w9, hr10, K11, H12⟩ := copy_rows2 (P := Try.prog) (t := 81) (ty := 3) (e := 112) (sz := 3) (b := b) (cs := [(i64 n), (i64 0), (i64 0)]) Try.underlying81 (by kernel_rfl) H6 rfl rfl (fun j v hj => by rw [Hb.cell]; exact hj) (by intro v hv; simp only [List.mem_cons, List.not_mem_nil, or_false] at hv; rcases hv with rfl | rfl | rfl <;> rfl)
 refine Ops.go (v := i64 1) (by kernel_rfl) (Runs.copied (ts := #[81, 81]) (ty := 3) (vs := [(Value.slice (some ⟨b3, 0, none⟩) 1 1), (Value.slice (some ⟨b, 0, none⟩) 1 1)]) (by kernel_rfl) hr10) (d := (some 33)) (by kernel_rfl) rfl ?_
 replace K0 := K0.trans K11 (U := none_) (fun i h1 h2 => h2) (fun i h1 h2 => by have h2 : i = b3 := h2; exfalso; omega)
 replace Hb := Hb.keep K11 (by intro h; change b = b3 at h; omega)
 clear K11 hr10
 refine og 1 [(4, (Value.slice none 0 0)), (7, (Value.slice (some ⟨b3, 0, none⟩) 1 1)), (8, (i64 1))] 4 ?_
 refine od ?_
 refine qs ?_
 refine q_block (id := 0) (by kernel_rfl) ?_
 refine q_keep (R := [(4, (Value.slice none 0 0)), (7, (Value.slice (some ⟨b3, 0, none⟩) 1 1)), (8, (i64 1))]) (by kernel_rfl) ?_
 refine q_loop (fun (z : Nat) L (wx : World) => L = [(4, (Value.slice none 0 0)), (7, (Value.slice (some ⟨b3, 0, none⟩) 1 1)), (8, (i64 1))] ∧ Keeps none_ w wx ∧ Has wx b (rowL [(i64 n), (i64 0), (i64 0)] 112) ∧ Has wx b3 (rowL [(i64 n), (i64 0), (i64 0)] 112)) (fun (z : Nat) => 0 - z) 0 (by kernel_rfl) ⟨rfl, K0, Hb, H12⟩ ?_
 clear Hb H12 K0
 rintro z _ w13 ⟨rfl, K14, H15, H16⟩
 refine qs ?_
 refine qs ?_
 refine qg ?_
 refine og 4 [(4, (Value.slice none 0 0)), (7, (Value.slice (some ⟨b3, 0, none⟩) 1 1)), (8, (i64 1)), (37, (Value.bool false))] 4 ?_
 refine od ?_
 refine q_else (o := .tmp 37) (by kernel_rfl) rfl ?_
 refine q_exit (id := 0) (by kernel_rfl) ?_
 refine qs ?_
 refine qg ?_
 refine og 2 [(4, (Value.slice (some ⟨b3, 0, none⟩) 1 1))] 2 ?_
 refine od ?_
 refine q_ret (by kernel_rfl) ?_
 refine ⟨(Value.slice (some ⟨b3, 0, none⟩) 1 1), retv_tmp rfl rfl, ?_⟩
 exact ⟨_, _, rfl, K14⟩
end Go.Proofs.Ytnmpepjikfbpdaa
namespace Go.Q
open Go.RowKit
/-- How far a replica alone is agreed. -/
def agC (base old term commit : Int) (ks : Ks) : Int := if commit < base + ks.length ∧ lastK base old ks = term then base + ks.length else commit
theorem Ents.lit {w : World} {b : Nat} {E : TypeId} {t : Int} {A : Option Addr} {n c : Nat} {bs : List UInt8} (H : Has w b (rowL [i64 t, .slice A n c] E)) (hB : RdB w (.slice A n c) bs) (hA : bs ≠ [] → ∀ i, (Value.slice A n c).ownBlock = some i → i < w.heap.size) :
    Ents w (fun i => i = b ∨ (bs ≠ [] ∧ (Value.slice A n c).ownBlock = some i)) (.slice (some ⟨b, 0, none⟩) 1 1) [⟨t, A, c, bs⟩] := by
  have hn := hB.slice.1
  subst hn
  refine ⟨Rd.lit (n := 1) H rfl (by decide), fun x hx => ?_, fun _ i hi => ?_, fun x hx hc i hi => ?_, fun i hi => ?_⟩
  · rw [List.mem_singleton.1 hx]; exact hB
  · simp only [Value.ownBlock, Option.some.injEq] at hi
    exact .inl hi.symm
  · rw [List.mem_singleton.1 hx] at hi hc; exact .inr ⟨hc, hi⟩
  · rcases hi with hi | ⟨hb, hi⟩
    · rw [hi]; exact H.lt
    · exact hA hb i hi
theorem RdB.keepg {S : Nat → Prop} {w w' : World} {v : Value} {xs : List UInt8} (h : RdB w v xs) (K : Keeps S w w') (hS : xs ≠ [] → ∀ b, v.ownBlock = some b → ¬ S b) : RdB w' v xs := by
  by_cases hx : xs = []
  · exact Rd.keep_nil (by decide) h (by rw [hx]; rfl)
  · exact Rd.keep (by decide) h K (hS hx)
end Go.Q
namespace Go.Proofs.Ytnmpepjikfbpdaa
open Go.Q Go.RowKit

set_option maxHeartbeats 1000000 in
theorem agree_calls (w : World) (r g : Nat) (term voted role leader commit group elapsed timeout : Int) (vv pv : Value) (T : Nat → Prop) (base old : Int) (A : Option Addr) (c : Nat) (l : List EntP) (Hr : Has w r (rowL [(i64 term), (i64 voted), (i64 role), (i64 leader), (i64 commit), (i64 group), (i64 0), (i64 1), (ptr g), (i64 elapsed), (i64 timeout), (Value.slice none 0 0), vv, pv, (Value.pointer none), (Value.pointer none), (Value.bool false), (Value.slice none 0 0)] 84)) (H0 : Has w g (rowL [i64 base, i64 old, .slice A l.length c] 78)) (hE : Ents w T (.slice A l.length c) l) (hT : ∀ i, T i → i ≠ g) (hB : 0 ≤ base ∧ base ≤ 2305843009213693952) (hL : l.length ≤ 4096) (hrg : r ≠ g) (hrT : ∀ i, T i → i ≠ r) : Calls Try.prog 42 ⟨[(ptr r)]⟩ w (fun e w' => e = .returned (.tuple #[]) ∧ Keeps (fun i => i = r) w w' ∧ Has w' r (rowL [(i64 term), (i64 voted), (i64 role), (i64 leader), (i64 (agC base old term commit (l.map EntP.key))), (i64 group), (i64 0), (i64 1), (ptr g), (i64 elapsed), (i64 timeout), (Value.slice none 0 0), vv, pv, (Value.pointer none), (Value.pointer none), (Value.bool false), (Value.slice none 0 0)] 84)) := by
 have hcap := Ents.len hE
 have Hg := H0.lt
 have Hrl := Hr.lt
 have K0 : Keeps (fun i => i = r) w w := (Keeps.refl w).mono (fun _ _ h => h.elim)
 refine q_calls Try.func42 (by kernel_rfl) (by kernel_rfl) ?_
 refine qs ?_
 refine qg ?_
 refine Ops.new (o := rowL [(ptr r)] 29) (V := fun b => (ptr b)) (by kernel_rfl) (d := (some 1)) (by kernel_rfl) (fun b => rfl) (fun b1 w2 hb3 H4 K5 hs6 => ?_)
 have lb1g : g < b1 := by have := H0.lt; omega
 have lb1r : r < b1 := by have := Hr.lt; omega
 have nb1 : w.heap.size ≤ b1 := by have := K0.size; omega
 have ot7 : ∀ i, T i → i ≠ b1 := fun i hi => by have := Ents.lt hE i hi; omega
 replace K0 := K0.trans K5 (U := (fun i => i = r)) (fun i h1 h2 => h2) (fun i h1 h2 => by exact h2.elim)
 replace H0 := H0.keep K5 (fun h => h)
 replace Hr := Hr.keep K5 (fun h => h)
 replace hE := Ents.keep0 hE K5
 clear K5 hs6
 refine od ?_
 refine qs ?_
 refine qg ?_
 refine Ops.go (v := (ptr r)) (by kernel_rfl) (Runs.load (t := 29) (a := ⟨b1, 0, none⟩) (by kernel_rfl) (H4.loads (by kernel_rfl))) (d := (some 9)) (by kernel_rfl) rfl ?_
 refine og 2 [(1, (ptr b1)), (11, (Value.pointer (some ⟨r, 8, none⟩)))] 3 ?_
 refine Ops.go (v := (ptr g)) (by kernel_rfl) (Runs.load (t := 24) (a := ⟨r, 8, none⟩) (by kernel_rfl) (Hr.loads (by kernel_rfl))) (d := (some 12)) (by kernel_rfl) rfl ?_
 refine Ops.call (by kernel_rfl) (d := (some 13)) (by kernel_rfl) (Last_calls _ T g base old A c l H0 hE hT (by omega) (by omega)) ?_
 rintro _ w9 ⟨rfl, K8⟩
 refine ⟨_, _, rfl, rfl, ?_⟩
 replace K0 := K0.trans K8 (U := (fun i => i = r)) (fun i h1 h2 => h2) (fun i h1 h2 => by exact h2.elim)
 replace H0 := H0.keep K8 (fun h => h)
 replace Hr := Hr.keep K8 (fun h => h)
 replace H4 := H4.keep K8 (fun h => h)
 replace hE := Ents.keep0 hE K8
 clear K8
 refine og 5 [(1, (ptr b1)), (2, (i64 (base + ((l.length : Nat) : Int))))] 10 ?_
 refine od ?_
 refine qs ?_
 refine qg ?_
 refine og 1 [(1, (ptr b1)), (2, (i64 (base + ((l.length : Nat) : Int)))), (16, (i64 (base + ((l.length : Nat) : Int))))] 1 ?_
 refine Ops.new (o := rowL [(i64 (base + ((l.length : Nat) : Int)))] 2) (V := fun b => (Value.slice (some ⟨b, 0, none⟩) 1 1)) (by kernel_rfl) (d := (some 17)) (by kernel_rfl) (fun b => rfl) (fun b10 w11 hb12 H13 K14 hs15 => ?_)
 have lb10g : g < b10 := by have := H0.lt; omega
 have lb10r : r < b10 := by have := Hr.lt; omega
 have lb10b1 : b1 < b10 := by have := H4.lt; omega
 have nb10 : w.heap.size ≤ b10 := by have := K0.size; omega
 have ot16 : ∀ i, T i → i ≠ b10 := fun i hi => by have := Ents.lt hE i hi; omega
 replace K0 := K0.trans K14 (U := (fun i => i = r)) (fun i h1 h2 => h2) (fun i h1 h2 => by exact h2.elim)
 replace H0 := H0.keep K14 (fun h => h)
 replace Hr := Hr.keep K14 (fun h => h)
 replace H4 := H4.keep K14 (fun h => h)
 replace hE := Ents.keep0 hE K14
 clear K14 hs15
 refine Ops.new (o := rowL [(Value.slice none 0 0)] 61) (V := fun b => (ptr b)) (by kernel_rfl) (d := (some 4)) (by kernel_rfl) (fun b => rfl) (fun b17 w18 hb19 H20 K21 hs22 => ?_)
 have lb17g : g < b17 := by have := H0.lt; omega
 have lb17r : r < b17 := by have := Hr.lt; omega
 have lb17b1 : b1 < b17 := by have := H4.lt; omega
 have lb17b10 : b10 < b17 := by have := H13.lt; omega
 have nb17 : w.heap.size ≤ b17 := by have := K0.size; omega
 have ot23 : ∀ i, T i → i ≠ b17 := fun i hi => by have := Ents.lt hE i hi; omega
 replace K0 := K0.trans K21 (U := (fun i => i = r)) (fun i h1 h2 => h2) (fun i h1 h2 => by exact h2.elim)
 replace H0 := H0.keep K21 (fun h => h)
 replace Hr := Hr.keep K21 (fun h => h)
 replace H4 := H4.keep K21 (fun h => h)
 replace H13 := H13.keep K21 (fun h => h)
 replace hE := Ents.keep0 hE K21
 clear K21 hs22
 refine Ops.put (t := 61) (b := b17) (off := 0) (v := (Value.slice (some ⟨b10, 0, none⟩) 1 1)) (ys := [(Value.slice (some ⟨b10, 0, none⟩) 1 1)]) (by kernel_rfl) (by kernel_rfl) H20 (by kernel_rfl) (d := none) (by kernel_rfl) rfl (fun w24 H25 K26 => ?_)
 clear H20
 replace K0 := K0.trans K26 (U := (fun i => i = r)) (fun i h1 h2 => h2) (fun i h1 h2 => by have h2 : i = b17 := h2; show i = r; omega)
 replace H0 := H0.keep K26 (by intro h; change g = b17 at h; omega)
 replace Hr := Hr.keep K26 (by intro h; change r = b17 at h; omega)
 replace H4 := H4.keep K26 (by intro h; change b1 = b17 at h; omega)
 replace H13 := H13.keep K26 (by intro h; change b10 = b17 at h; omega)
 replace hE := Ents.keep hE K26 (fun i hi hs => by have hs : i = b17 := hs; have := ot23 i hi; omega)
 clear K26
 refine od ?_
 refine qs ?_
 refine qg ?_
 refine Ops.go (v := (ptr r)) (by kernel_rfl) (Runs.load (t := 29) (a := ⟨b1, 0, none⟩) (by kernel_rfl) (H4.loads (by kernel_rfl))) (d := (some 18)) (by kernel_rfl) rfl ?_
 refine og 1 [(1, (ptr b1)), (2, (i64 (base + ((l.length : Nat) : Int)))), (4, (ptr b17)), (18, (ptr r)), (19, (Value.func (Fn.func 58) ⟨[]⟩ ⟨[(ptr b17), (ptr b1)]⟩))] 2 ?_
 refine Ops.call (by kernel_rfl) (d := (some 20)) (by kernel_rfl) (others_calls _ r g term voted role leader commit group elapsed timeout vv pv (Value.func (Fn.func 58) ⟨[]⟩ ⟨[(ptr b17), (ptr b1)]⟩) Hr) ?_
 rintro _ w28 ⟨rfl, K27⟩
 refine ⟨_, _, rfl, rfl, ?_⟩
 replace K0 := K0.trans K27 (U := (fun i => i = r)) (fun i h1 h2 => h2) (fun i h1 h2 => by exact h2.elim)
 replace H0 := H0.keep K27 (fun h => h)
 replace Hr := Hr.keep K27 (fun h => h)
 replace H4 := H4.keep K27 (fun h => h)
 replace H13 := H13.keep K27 (fun h => h)
 replace H25 := H25.keep K27 (fun h => h)
 replace hE := Ents.keep0 hE K27
 clear K27
 refine od ?_
 refine qs ?_
 refine qg ?_
 refine Ops.go (v := (Value.slice (some ⟨b10, 0, none⟩) 1 1)) (by kernel_rfl) (Runs.load (t := 61) (a := ⟨b17, 0, none⟩) (by kernel_rfl) (H25.loads (by kernel_rfl))) (d := (some 21)) (by kernel_rfl) rfl ?_
 refine Ops.call (by kernel_rfl) (d := (some 22)) (by kernel_rfl) (Sort_one _ (some ⟨b10, 0, none⟩) 1) ?_
 rintro _ w30 ⟨rfl, K29⟩
 refine ⟨_, _, rfl, rfl, ?_⟩
 replace K0 := K0.trans K29 (U := (fun i => i = r)) (fun i h1 h2 => h2) (fun i h1 h2 => by exact h2.elim)
 replace H0 := H0.keep K29 (fun h => h)
 replace Hr := Hr.keep K29 (fun h => h)
 replace H4 := H4.keep K29 (fun h => h)
 replace H13 := H13.keep K29 (fun h => h)
 replace H25 := H25.keep K29 (fun h => h)
 replace hE := Ents.keep0 hE K29
 clear K29
 refine od ?_
 refine qs ?_
 refine qg ?_
 refine Ops.go (v := (Value.slice (some ⟨b10, 0, none⟩) 1 1)) (by kernel_rfl) (Runs.load (t := 61) (a := ⟨b17, 0, none⟩) (by kernel_rfl) (H25.loads (by kernel_rfl))) (d := (some 23)) (by kernel_rfl) rfl ?_
 refine Ops.go (v := (Value.slice (some ⟨b10, 0, none⟩) 1 1)) (by kernel_rfl) (Runs.load (t := 61) (a := ⟨b17, 0, none⟩) (by kernel_rfl) (H25.loads (by kernel_rfl))) (d := (some 24)) (by kernel_rfl) rfl ?_
 refine og 4 [(1, (ptr b1)), (2, (i64 (base + ((l.length : Nat) : Int)))), (28, (ptr b10))] 6 ?_
 refine Ops.go (v := (i64 (base + ((l.length : Nat) : Int)))) (by kernel_rfl) (Runs.load (t := 2) (a := ⟨b10, 0, none⟩) (by kernel_rfl) (H13.loads (by kernel_rfl))) (d := (some 29)) (by kernel_rfl) rfl ?_
 refine og 2 [(1, (ptr b1)), (31, (i64 (if (base + ((l.length : Nat) : Int) : Int) < (base + ((l.length : Nat) : Int)) then (base + ((l.length : Nat) : Int) : Int) else (base + ((l.length : Nat) : Int)))))] 9 ?_
 have e31 : (if (base + ((l.length : Nat) : Int) : Int) < (base + ((l.length : Nat) : Int)) then (base + ((l.length : Nat) : Int) : Int) else (base + ((l.length : Nat) : Int))) = base + ((l.length : Nat) : Int) := by split <;> rfl
 rw [e31]
 clear e31
 refine og 1 [(1, (ptr b1)), (5, (i64 (base + ((l.length : Nat) : Int))))] 10 ?_
 refine od ?_
 refine qs ?_
 refine qg ?_
 refine Ops.go (v := (ptr r)) (by kernel_rfl) (Runs.load (t := 29) (a := ⟨b1, 0, none⟩) (by kernel_rfl) (H4.loads (by kernel_rfl))) (d := (some 33)) (by kernel_rfl) rfl ?_
 refine og 2 [(1, (ptr b1)), (5, (i64 (base + ((l.length : Nat) : Int)))), (35, (Value.pointer (some ⟨r, 8, none⟩)))] 3 ?_
 refine Ops.go (v := (ptr g)) (by kernel_rfl) (Runs.load (t := 24) (a := ⟨r, 8, none⟩) (by kernel_rfl) (Hr.loads (by kernel_rfl))) (d := (some 36)) (by kernel_rfl) rfl ?_
 refine og 1 [(1, (ptr b1)), (5, (i64 (base + ((l.length : Nat) : Int)))), (36, (ptr g)), (37, (i64 (base + ((l.length : Nat) : Int))))] 5 ?_
 refine Ops.call (by kernel_rfl) (d := (some 38)) (by kernel_rfl) (Term_calls _ T g base old A c l (base + ((l.length : Nat) : Int)) H0 hE hT (by omega) (by omega) (by omega)) ?_
 rintro _ w33 ⟨rfl, K32⟩
 refine ⟨_, _, rfl, rfl, ?_⟩
 replace K0 := K0.trans K32 (U := (fun i => i = r)) (fun i h1 h2 => h2) (fun i h1 h2 => by exact h2.elim)
 replace H0 := H0.keep K32 (fun h => h)
 replace Hr := Hr.keep K32 (fun h => h)
 replace H4 := H4.keep K32 (fun h => h)
 replace H13 := H13.keep K32 (fun h => h)
 replace H25 := H25.keep K32 (fun h => h)
 replace hE := Ents.keep0 hE K32
 clear K32
 refine og 5 [(1, (ptr b1)), (5, (i64 (base + ((l.length : Nat) : Int)))), (6, (i64 ((termK base old (l.map EntP.key) (base + ((l.length : Nat) : Int))).1)))] 11 ?_
 refine od ?_
 refine qs ?_
 refine qg ?_
 refine og 1 [(1, (ptr b1)), (5, (i64 (base + ((l.length : Nat) : Int)))), (6, (i64 ((termK base old (l.map EntP.key) (base + ((l.length : Nat) : Int))).1))), (41, (i64 (base + ((l.length : Nat) : Int))))] 1 ?_
 refine Ops.go (v := (ptr r)) (by kernel_rfl) (Runs.load (t := 29) (a := ⟨b1, 0, none⟩) (by kernel_rfl) (H4.loads (by kernel_rfl))) (d := (some 42)) (by kernel_rfl) rfl ?_
 refine og 3 [(1, (ptr b1)), (5, (i64 (base + ((l.length : Nat) : Int)))), (6, (i64 ((termK base old (l.map EntP.key) (base + ((l.length : Nat) : Int))).1))), (41, (i64 (base + ((l.length : Nat) : Int)))), (45, (Value.pointer (some ⟨r, 4, none⟩)))] 5 ?_
 refine Ops.go (v := (i64 commit)) (by kernel_rfl) (Runs.load (t := 2) (a := ⟨r, 4, none⟩) (by kernel_rfl) (Hr.loads (by kernel_rfl))) (d := (some 46)) (by kernel_rfl) rfl ?_
 refine og 2 [(1, (ptr b1)), (5, (i64 (base + ((l.length : Nat) : Int)))), (6, (i64 ((termK base old (l.map EntP.key) (base + ((l.length : Nat) : Int))).1))), (48, (Value.bool (decide (base + ((l.length : Nat) : Int) > commit))))] 8 ?_
 refine Ops.split (decide (base + ((l.length : Nat) : Int) > commit)) (fun h34 => ?_) (fun h34 => ?_)
 ·rw [h34]
  have p35 : base + ((l.length : Nat) : Int) > commit := of_decide_eq_true h34
  refine og 1 [(1, (ptr b1)), (5, (i64 (base + ((l.length : Nat) : Int)))), (48, (Value.bool true)), (49, (i64 ((termK base old (l.map EntP.key) (base + ((l.length : Nat) : Int))).1)))] 9 ?_
  refine Ops.go (v := (ptr r)) (by kernel_rfl) (Runs.load (t := 29) (a := ⟨b1, 0, none⟩) (by kernel_rfl) (H4.loads (by kernel_rfl))) (d := (some 50)) (by kernel_rfl) rfl ?_
  refine og 3 [(1, (ptr b1)), (5, (i64 (base + ((l.length : Nat) : Int)))), (48, (Value.bool true)), (49, (i64 ((termK base old (l.map EntP.key) (base + ((l.length : Nat) : Int))).1))), (53, (ptr r))] 13 ?_
  refine Ops.go (v := (i64 term)) (by kernel_rfl) (Runs.load (t := 2) (a := ⟨r, 0, none⟩) (by kernel_rfl) (Hr.loads (by kernel_rfl))) (d := (some 54)) (by kernel_rfl) rfl ?_
  refine og 2 [(1, (ptr b1)), (5, (i64 (base + ((l.length : Nat) : Int)))), (56, (Value.bool (((termK base old (l.map EntP.key) (base + ((l.length : Nat) : Int))).1) == term)))] 16 ?_
  refine od ?_
  refine q_cond (o := .tmp 56) (b := (((termK base old (l.map EntP.key) (base + ((l.length : Nat) : Int))).1) == term)) (by kernel_rfl) rfl (fun h36 => ?_) (fun h36 => ?_)
  ·rw [h36]
   have p37 : (termK base old (l.map EntP.key) (base + ((l.length : Nat) : Int))).1 = term := of_beq_t h36
   refine qg ?_
   refine Ops.go (v := (ptr r)) (by kernel_rfl) (Runs.load (t := 29) (a := ⟨b1, 0, none⟩) (by kernel_rfl) (H4.loads (by kernel_rfl))) (d := (some 57)) (by kernel_rfl) rfl ?_
   refine og 4 [(58, (i64 (base + ((l.length : Nat) : Int)))), (61, (Value.pointer (some ⟨r, 4, none⟩)))] 5 ?_
   refine Ops.put (t := 2) (b := r) (off := 4) (v := (i64 (base + ((l.length : Nat) : Int)))) (ys := [(i64 term), (i64 voted), (i64 role), (i64 leader), (i64 (base + ((l.length : Nat) : Int))), (i64 group), (i64 0), (i64 1), (ptr g), (i64 elapsed), (i64 timeout), (Value.slice none 0 0), vv, pv, (Value.pointer none), (Value.pointer none), (Value.bool false), (Value.slice none 0 0)]) (by kernel_rfl) (by kernel_rfl) Hr (by kernel_rfl) (d := none) (by kernel_rfl) rfl (fun w38 H39 K40 => ?_)
   clear Hr
   replace K0 := K0.trans K40 (U := (fun i => i = r)) (fun i h1 h2 => h2) (fun i h1 h2 => by have h2 : i = r := h2; show i = r; omega)
   replace H0 := H0.keep K40 (by intro h; change g = r at h; omega)
   replace H4 := H4.keep K40 (by intro h; change b1 = r at h; omega)
   replace H13 := H13.keep K40 (by intro h; change b10 = r at h; omega)
   replace H25 := H25.keep K40 (by intro h; change b17 = r at h; omega)
   replace hE := Ents.keep hE K40 (fun i hi hs => by have hs : i = r := hs; have := hrT i hi; omega)
   clear K40
   refine od ?_
   refine ⟨(Value.tuple #[]), retv_none rfl, ?_⟩
   have e : agC base old term commit (l.map EntP.key) = base + ((l.length : Nat) : Int) := by unfold agC; rw [List.length_map]; first | (rw [if_pos ⟨by omega, by unfold lastK; rw [List.length_map]; omega⟩]; done) | (rw [if_neg (fun q => by first | omega | (have q2 := q.2; unfold lastK at q2; rw [List.length_map] at q2; omega))])
   exact ⟨rfl, K0, by rw [e]; exact H39⟩
  ·rw [h36]
   have p41 : ¬ ((termK base old (l.map EntP.key) (base + ((l.length : Nat) : Int))).1 = term) := of_beq_f h36
   refine q_skip (by kernel_rfl) ?_
   refine ⟨(Value.tuple #[]), retv_none rfl, ?_⟩
   have e : agC base old term commit (l.map EntP.key) = commit := by unfold agC; rw [List.length_map]; first | (rw [if_pos ⟨by omega, by unfold lastK; rw [List.length_map]; omega⟩]; done) | (rw [if_neg (fun q => by first | omega | (have q2 := q.2; unfold lastK at q2; rw [List.length_map] at q2; omega))])
   exact ⟨rfl, K0, by rw [e]; exact Hr⟩
 ·rw [h34]
  have p42 : ¬ (base + ((l.length : Nat) : Int) > commit) := of_decide_eq_false h34
  refine og 8 [(1, (ptr b1)), (5, (i64 (base + ((l.length : Nat) : Int)))), (56, (Value.bool false))] 16 ?_
  refine od ?_
  refine q_else (o := .tmp 56) (by kernel_rfl) rfl ?_
  refine q_skip (by kernel_rfl) ?_
  refine ⟨(Value.tuple #[]), retv_none rfl, ?_⟩
  have e : agC base old term commit (l.map EntP.key) = commit := by unfold agC; rw [List.length_map]; first | (rw [if_pos ⟨by omega, by unfold lastK; rw [List.length_map]; omega⟩]; done) | (rw [if_neg (fun q => by first | omega | (have q2 := q.2; unfold lastK at q2; rw [List.length_map] at q2; omega))])
  exact ⟨rfl, K0, by rw [e]; exact Hr⟩
end Go.Proofs.Ytnmpepjikfbpdaa
namespace Go.Q
open Go.RowKit
structure LogE (w : World) (bs e : Nat) (T : Nat → Prop) (v : Value) (l : List EntP) : Prop where
  ents : Ents w T v l
  own : OwnT w bs e 2 EntP.cells v l
  apart : ∀ x ∈ l, x.cmd ≠ [] → ∀ i, (Value.slice x.A x.cmd.length x.c).ownBlock = some i → v.ownBlock ≠ some i
  ownT : ∀ i, v.ownBlock = some i → T i
theorem LogE.nil (w : World) (bs e : Nat) : LogE w bs e none_ (.slice none 0 0) [] :=
  ⟨Ents.nil w, OwnT.nil _ _ _ _ _, fun x hx => (by cases hx), fun i hi => by cases hi⟩
theorem LogE.keep {S T : Nat → Prop} {w w' : World} {bs e : Nat} {v : Value} {l : List EntP} (h : LogE w bs e T v l) (K : Keeps S w w') (hS : ∀ i, T i → ¬ S i) : LogE w' bs e T v l :=
  ⟨h.ents.keep K hS, own_keep h.own K fun b hb => hS b (h.ownT b hb), h.apart, h.ownT⟩
theorem LogE.keep0 {T : Nat → Prop} {w w' : World} {bs e : Nat} {v : Value} {l : List EntP} (h : LogE w bs e T v l) (K : Keeps none_ w w') : LogE w' bs e T v l := h.keep K fun _ _ h => h
theorem LogE.mono {T U : Nat → Prop} {w : World} {bs e : Nat} {v : Value} {l : List EntP} (h : LogE w bs e T v l) (hT : ∀ i, T i → U i) (hU : ∀ i, U i → i < w.heap.size) : LogE w bs e U v l :=
  ⟨h.ents.mono hT hU, h.own, h.apart, fun i hi => hT i (h.ownT i hi)⟩
theorem LogE.mine {w : World} {base e e2 G cap : Nat} {l : List EntP} {rest : List Value} (hb : base ≤ G) (H : Has w G (rowL (l.flatMap EntP.cells ++ rest) e)) (h1 : l.length ≤ cap) (h2 : cap ≤ maxLen) (h3 : (l.flatMap EntP.cells ++ rest).length = cap * 2)
    (hM : EntsMine e2 w base (.slice (some ⟨G, 0, none⟩) l.length cap) l) : LogE w base e (fun i => base ≤ i ∧ i < w.heap.size) (.slice (some ⟨G, 0, none⟩) l.length cap) l := by
  have hO := own_casesE_mk hb H h1 h2 h3
  refine ⟨Ents.mine hb H h1 h2 h3 hM, hO, fun x hx _ i hi => ?_, fun i hi => World.ownsRow.lt hO i hi⟩
  cases hA : x.A with
  | none => rw [hA] at hi; cases hi
  | some a =>
    obtain ⟨g, o, s⟩ := a
    rw [hA] at hi
    simp only [Value.ownBlock, Option.some.injEq] at hi
    subst hi
    exact ((hM x hx).2 _ o s hA).2.2
theorem LogE.base {T : Nat → Prop} {w : World} {bs bs' e : Nat} {v : Value} {l : List EntP} (h : LogE w bs e T v l) (hb : bs' ≤ bs) : LogE w bs' e T v l := ⟨h.ents, own_base h.own hb, h.apart, h.ownT⟩
/-- Entries in new memory stand behind the log's own. -/
theorem LogE.grow {w0 w1 w3 : World} {bs e : Nat} {T U : Nat → Prop} {v v' y : Value} {l ys : List EntP} (h : LogE w0 bs e T v l) (k01 : Keeps none_ w0 w1) (hY : Ents w1 U y ys) (hU : ∀ i, U i → w0.heap.size ≤ i)
    (k13 : Keeps (fun i => v.ownBlock = some i) w1 w3) (hO : OwnT w3 bs e 2 EntP.cells v' (l ++ ys)) (hg : ∀ i, v'.ownBlock = some i → v.ownBlock = some i ∨ w1.heap.size ≤ i) :
    LogE w3 bs e (fun i => T i ∨ (w0.heap.size ≤ i ∧ i < w3.heap.size)) v' (l ++ ys) := by
  have hT0 : ∀ i, T i → i < w0.heap.size := h.ents.lt
  have s1 := k01.size
  have s3 := k13.size
  have hap : ∀ x ∈ l ++ ys, x.cmd ≠ [] → ∀ i, (Value.slice x.A x.cmd.length x.c).ownBlock = some i → v'.ownBlock ≠ some i := by
    intro x hx hc i hi q
    rcases List.mem_append.1 hx with hx | hx
    · rcases hg i q with q | q
      · exact h.apart x hx hc i hi q
      · have := hT0 i (h.ents.inn x hx hc i hi); omega
    · have h1 := hU i (hY.inn x hx hc i hi)
      have h2 := hY.lt i (hY.inn x hx hc i hi)
      rcases hg i q with q | q
      · have := hT0 i (h.ownT i q); omega
      · omega
  have hlt : ∀ i, v'.ownBlock = some i → T i ∨ (w0.heap.size ≤ i ∧ i < w3.heap.size) := by
    intro i hi
    rcases hg i hi with q | q
    · exact .inl (h.ownT i q)
    · exact .inr ⟨by omega, (World.ownsRow.lt hO i hi).2⟩
  refine ⟨⟨OwnT.rd hO, fun x hx => ?_, fun _ => hlt, fun x hx hc i hi => ?_, fun i hi => ?_⟩, hO, hap, hlt⟩
  · rcases List.mem_append.1 hx with hx | hx
    · have h1 : RdB w1 (.slice x.A x.cmd.length x.c) x.cmd := (h.ents.ins x hx).keep0 (by omega) k01
      by_cases hc : x.cmd = []
      · exact Rd.keep_nil (by decide) h1 (by rw [hc]; rfl)
      · exact Rd.keep (by decide) h1 k13 fun b hb q => h.apart x hx hc b hb q
    · by_cases hc : x.cmd = []
      · exact Rd.keep_nil (by decide) (hY.ins x hx) (by rw [hc]; rfl)
      · exact Rd.keep (by decide) (hY.ins x hx) k13 fun b hb q => by
          have h1 := hU b (hY.inn x hx hc b hb)
          have h2 := hT0 b (h.ownT b q)
          omega
  · rcases List.mem_append.1 hx with hx | hx
    · exact .inl (h.ents.inn x hx hc i hi)
    · exact .inr ⟨hU i (hY.inn x hx hc i hi), Nat.lt_of_lt_of_le (hY.lt i (hY.inn x hx hc i hi)) s3⟩
  · rcases hi with hi | hi
    · have := hT0 i hi; omega
    · exact hi.2
end Go.Q
namespace Go.Proofs.Ytnmpepjikfbpdaa
open Go.Q Go.RowKit

set_option maxHeartbeats 1000000 in
theorem Append_grow (w : World) (T : Nat → Prop) (g bs : Nat) (base old : Int) (A : Option Addr) (c : Nat) (l : List EntP) (U : Nat → Prop) (B : Option Addr) (d : Nat) (ys : List EntP) (H0 : Has w g (rowL [i64 base, i64 old, .slice A l.length c] 78)) (hM : LogE w bs 43 T (.slice A l.length c) l) (hT : ∀ i, T i → i ≠ g) (hB : 0 ≤ base ∧ base ≤ 2305843009213693952) (hL : l.length ≤ 4096) (hbs : bs ≤ w.heap.size) (hY : Ents w U (.slice B ys.length d) ys) (hU : ∀ i, U i → i ≠ g) (hBig : BigK (l.map EntP.key)) (hBigY : BigK (ys.map EntP.key)) (hYl : ys.length * 32 ≤ 140737488351232) (hq : appE base old (l.map EntP.key) (ys.map EntP.key) = 0) : Calls Try.prog 41 ⟨[(ptr g), (Value.slice B ys.length d)]⟩ w (fun e w' => ∃ l' A' c' T', e = .returned (i64 0) ∧ Keeps (fun i => i = g ∨ (Value.slice A l.length c).ownBlock = some i) w w' ∧ Has w' g (rowL [i64 base, i64 old, .slice A' l'.length c'] 78) ∧ LogE w' bs 43 T' (.slice A' l'.length c') l' ∧ l'.map EntP.key = (l.map EntP.key) ++ ys.map EntP.key ∧ ∀ i, T' i → i ≠ g ∧ (T i ∨ w.heap.size ≤ i)) := by
 have hE := hM.ents
 have hOw := hM.own
 have hcap := Ents.len hE
 have Hg := H0.lt
 have hcy := Ents.len hY
 have hT0 := hT
 have hTl := Ents.lt hE
 have hUl := Ents.lt hY
 have hvg : ∀ i, (Value.slice A l.length c).ownBlock = some i → i ≠ g := fun i hi => hT i (hM.ownT i hi)
 have K0 : Keeps (fun i => i = g ∨ (Value.slice A l.length c).ownBlock = some i) w w := (Keeps.refl w).mono (fun _ _ h => h.elim)
 have hk0 : Keeps none_ w w := Keeps.refl w
 refine q_calls Try.func41 (by kernel_rfl) (by kernel_rfl) ?_
 refine qs ?_
 refine qg ?_
 refine og 1 [(0, (ptr g)), (1, (Value.slice B ys.length d)), (4, (i64 0))] 1 ?_
 refine od ?_
 refine qs ?_
 refine qs ?_
 refine qg ?_
 refine og 2 [(0, (ptr g)), (1, (Value.slice B ys.length d)), (4, (i64 0)), (8, (Value.bool false))] 2 ?_
 refine od ?_
 refine q_else (o := .tmp 8) (by kernel_rfl) rfl ?_
 refine q_skip (by kernel_rfl) ?_
 refine qs ?_
 refine qg ?_
 refine og 1 [(0, (ptr g)), (1, (Value.slice B ys.length d)), (4, (i64 0)), (10, (ptr g))] 1 ?_
 refine Ops.call (by kernel_rfl) (d := (some 11)) (by kernel_rfl) (Last_calls _ T g base old A c l H0 hE hT (by omega) (by omega)) ?_
 rintro _ w2 ⟨rfl, K1⟩
 refine ⟨_, _, rfl, rfl, ?_⟩
 replace K0 := K0.trans K1 (U := (fun i => i = g ∨ ((Value.slice A l.length c)).ownBlock = some i)) (fun i h1 h2 => h2) (fun i h1 h2 => by exact h2.elim)
 replace H0 := H0.keep K1 (fun h => h)
 replace hE := Ents.keep0 hE K1
 replace hY := Ents.keep0 hY K1
 replace hOw := own_keep0 hOw K1
 replace hk0 := hk0.trans K1 (fun _ _ h => h) (fun _ _ h => h)
 clear K1
 refine og 5 [(0, (ptr g)), (1, (Value.slice B ys.length d)), (4, (i64 0)), (6, (i64 (lastK base old (l.map EntP.key))))] 7 ?_
 refine od ?_
 refine qs ?_
 refine q_block (id := 0) (by kernel_rfl) ?_
 refine qs ?_
 refine qg ?_
 refine og 3 [(0, (ptr g)), (1, (Value.slice B ys.length d)), (4, (i64 0)), (6, (i64 (lastK base old (l.map EntP.key)))), (17, (Value.pointer (some ⟨g, 2, none⟩)))] 3 ?_
 refine Ops.go (v := (Value.slice A l.length c)) (by kernel_rfl) (Runs.load (t := 22) (a := ⟨g, 2, none⟩) (by kernel_rfl) (H0.loads (by kernel_rfl))) (d := (some 18)) (by kernel_rfl) rfl ?_
 refine og 4 [(0, (ptr g)), (1, (Value.slice B ys.length d)), (4, (i64 0)), (6, (i64 (lastK base old (l.map EntP.key)))), (22, (i64 (IntKind.i64.wrap (((l.length : Nat) : Int) + ((ys.length : Nat) : Int)))))] 8 ?_
 have e3 : IntKind.i64.wrap (((l.length : Nat) : Int) + ((ys.length : Nat) : Int)) = ((l.length + ys.length : Nat) : Int) := by rw [wrap_i64 (by omega) (by omega)]; omega
 rw [e3]
 clear e3
 refine og 2 [(0, (ptr g)), (1, (Value.slice B ys.length d)), (4, (i64 0)), (6, (i64 (lastK base old (l.map EntP.key)))), (14, (Value.bool (decide (((l.length + ys.length : Nat) : Int) > 4096))))] 10 ?_
 refine od ?_
 refine q_cond (o := .tmp 14) (b := (decide (((l.length + ys.length : Nat) : Int) > 4096))) (by kernel_rfl) rfl (fun h4 => ?_) (fun h4 => ?_)
 ·rw [h4]
  have p5 : ((l.length + ys.length : Nat) : Int) > 4096 := of_decide_eq_true h4
  refine qs ?_
  refine qg ?_
  refine og 1 [(0, (ptr g)), (1, (Value.slice B ys.length d)), (4, (i64 4)), (6, (i64 (lastK base old (l.map EntP.key))))] 1 ?_
  refine od ?_
  refine q_ret (by kernel_rfl) ?_
  refine ⟨(i64 4), retv_tmp rfl rfl, ?_⟩
  exfalso; have hq := appE_ok hq; rw [List.length_map, List.length_map] at hq; omega
 ·rw [h4]
  have p6 : ¬ (((l.length + ys.length : Nat) : Int) > 4096) := of_decide_eq_false h4
  refine qs ?_
  refine qg ?_
  refine og 2 [(0, (ptr g)), (1, (Value.slice B ys.length d)), (4, (i64 0)), (25, (i64 (lastK base old (l.map EntP.key)))), (26, (Value.slice B ys.length d))] 2 ?_
  refine Ops.call (by kernel_rfl) (d := (some 27)) (by kernel_rfl) (rising_calls _ U (lastK base old (l.map EntP.key)) B d ys hY) ?_
  rintro _ w8 ⟨rfl, K7⟩
  refine ⟨_, _, rfl, rfl, ?_⟩
  replace K0 := K0.trans K7 (U := (fun i => i = g ∨ ((Value.slice A l.length c)).ownBlock = some i)) (fun i h1 h2 => h2) (fun i h1 h2 => by exact h2.elim)
  replace H0 := H0.keep K7 (fun h => h)
  replace hE := Ents.keep0 hE K7
  replace hY := Ents.keep0 hY K7
  replace hOw := own_keep0 hOw K7
  replace hk0 := hk0.trans K7 (fun _ _ h => h) (fun _ _ h => h)
  clear K7
  refine og 2 [(0, (ptr g)), (1, (Value.slice B ys.length d)), (4, (i64 0)), (24, (Value.bool (!(risingK (lastK base old (l.map EntP.key)) (ys.map EntP.key)))))] 5 ?_
  refine od ?_
  refine q_cond (o := .tmp 24) (b := (!(risingK (lastK base old (l.map EntP.key)) (ys.map EntP.key)))) (by kernel_rfl) rfl (fun h9 => ?_) (fun h9 => ?_)
  ·rw [h9]
   have p10 : (risingK (lastK base old (l.map EntP.key)) (ys.map EntP.key)) = false := (bnot_true h9)
   refine qs ?_
   refine qg ?_
   refine og 1 [(0, (ptr g)), (1, (Value.slice B ys.length d)), (4, (i64 1))] 1 ?_
   refine od ?_
   refine q_ret (by kernel_rfl) ?_
   refine ⟨(i64 1), retv_tmp rfl rfl, ?_⟩
   exfalso; have hq := appE_ok hq; rw [List.length_map, List.length_map] at hq; have hq2 := hq.2; rw [(bnot_true h9)] at hq2; cases hq2
  ·rw [h9]
   have p11 : (risingK (lastK base old (l.map EntP.key)) (ys.map EntP.key)) = true := (bnot_false h9)
   refine q_skip (by kernel_rfl) ?_
   refine qs ?_
   refine q_draw (fun wz => Keeps (fun i => ((Value.slice A l.length c)).ownBlock = some i ∨ i = g) w8 wz) 11 (by kernel_rfl) (by kernel_rfl) (by kernel_rfl) (fun w12 K13 _ _ => ⟨(K13.mono (fun _ _ h => h.elim)), ?_⟩)
   replace K0 := K0.trans K13 (U := (fun i => i = g ∨ ((Value.slice A l.length c)).ownBlock = some i)) (fun i h1 h2 => h2) (fun i h1 h2 => by exact h2.elim)
   replace H0 := H0.keep K13 (fun h => h)
   replace hE := Ents.keep0 hE K13
   replace hY := Ents.keep0 hY K13
   replace hOw := own_keep0 hOw K13
   replace hk0 := hk0.trans K13 (fun _ _ h => h) (fun _ _ h => h)
   refine Dr.strong (S' := (fun wz => Keeps (fun i => ((Value.slice A l.length c)).ownBlock = some i ∨ i = g) w12 wz)) ((Keeps.refl w12).mono (fun _ _ h => h.elim)) (fun wz hx => K13.trans hx (fun i _ h => h.elim) (fun _ _ h => h)) ?_
   clear K13
   refine Dr.takes (fuel' := 6) (is' := [5, 3, 2, 1, 0]) [0, 1, 2, 3, 5] [(4, (i64 0)), (29, (ptr g)), (32, (Value.pointer (some ⟨g, 2, none⟩))), (34, (Value.slice B ys.length d))] (by kernel_rfl) rfl (by kernel_rfl) ?_
   refine Dr.float [(4, (i64 0)), (29, (ptr g)), (33, (Value.slice A l.length c)), (34, (Value.slice B ys.length d))] 4 ?_
   have hz0 := K0.size
   refine DrB.call (i := 4) (j := 6) (t := 22) (a := ⟨g, 2, none⟩) (v := (Value.slice A l.length c)) (by kernel_rfl) (.inl rfl) (by kernel_rfl) (by kernel_rfl) (by kernel_rfl) (by kernel_rfl) (di := (some 33)) (by kernel_rfl) (by kernel_rfl) (by kernel_rfl) (by kernel_rfl) (dj := (some 35)) (by kernel_rfl) (H0.loads (by kernel_rfl)) ((Keeps.refl _).mono (fun _ _ h => h.elim)) (own_calls _ U B d ys hY (BigK.l hBigY) (by omega)) ?_
   rintro _ w17 ⟨l14, A15, c16, rfl, K18, hE19, hK20⟩
   have ot21 : ∀ i, (fun i => w12.heap.size ≤ i ∧ i < w17.heap.size) i → i ≠ g := fun i hi => by have := hi.1; have := H0.lt; omega
   have hz22 := K0.size
   have hn23 := keys_len2 hK20
   try rw [List.length_drop] at hn23
   try rw [List.length_append] at hn23
   try rw [List.length_map] at hn23
   try rw [List.length_map] at hn23
   replace K0 := K0.trans K18 (U := (fun i => i = g ∨ ((Value.slice A l.length c)).ownBlock = some i)) (fun i h1 h2 => h2) (fun i h1 h2 => by exact h2.elim)
   replace H0 := H0.keep K18 (fun h => h)
   replace hE := Ents.keep0 hE K18
   replace hY := Ents.keep0 hY K18
   replace hOw := own_keep0 hOw K18
   replace hk0 := hk0.trans K18 (fun _ _ h => h) (fun _ _ h => h)
   refine ⟨_, _, _, rfl, (K18.mono (fun _ _ h => h.elim)), rfl, rfl, ?_⟩
   refine DrB.strong (S' := (fun wz => Keeps (fun i => ((Value.slice A l.length c)).ownBlock = some i ∨ i = g) w17 wz)) ((Keeps.refl w17).mono (fun _ _ h => h.elim)) (fun wz hx => K18.trans hx (fun i _ h => h.elim) (fun _ _ h => h)) ?_
   clear K18
   refine DrB.end_ (t := 22) (a := ⟨g, 2, none⟩) (v := (Value.slice A l.length c)) (R := [(4, (i64 0)), (29, (ptr g)), (33, (Value.slice A l.length c)), (35, (Value.slice A15 l14.length c16))]) (by kernel_rfl) (by kernel_rfl) (by kernel_rfl) (di := (some 33)) (by kernel_rfl) (by kernel_rfl) (by kernel_rfl) (H0.loads (by kernel_rfl)) ((Keeps.refl _).mono (fun _ _ h => h.elim)) ?_
   obtain ⟨v24, w25, hr26, hO27, hK28, hg29⟩ := OwnT.app (ty := 22) EntP.two EntP.one tyE hOw (Ents.rd hE19) (by first | omega | (simp only [List.length_nil]; omega)) (by first | omega | (simp only [List.length_nil]; omega)) (Nat.le_trans hbs K0.size)
   obtain ⟨A31, c32, rfl⟩ := RdT.form EntP.two (by decide) (OwnT.rd hO27)
   have ob33 : ∀ i, ((Value.slice A31 ((l ++ l14).length) c32)).ownBlock = some i → i ≠ g := fun i hi => by rcases hg29 i hi with h | h; (have := hvg i h; omega); (have := H0.lt; omega)
   have K30 := hK28
   have hY9 := hE19
   have k01 : Keeps none_ w w17 := hk0
   replace K0 := K0.trans K30 (U := (fun i => i = g ∨ ((Value.slice A l.length c)).ownBlock = some i)) (fun i h1 h2 => h2) (fun i h1 h2 => by have h2 : ((Value.slice A l.length c)).ownBlock = some i := h2; exact .inr (h2))
   replace H0 := H0.keep K30 (by intro h; change ((Value.slice A l.length c)).ownBlock = some g at h; have := hvg g h; omega)
   clear hE
   clear hY
   clear hOw
   clear hk0
   clear hE19
   refine Dr.go (i := 7) (v := (Value.slice A31 ((l ++ l14).length) c32)) (by kernel_rfl) (by kernel_rfl) (Runs.append (ts := #[22, 22]) (ty := 22) (vs := [(Value.slice A l.length c), (Value.slice A15 l14.length c16)]) (by kernel_rfl) hr26) (d := (some 36)) (by kernel_rfl) rfl (K30.mono (fun i _ h => by have h : ((Value.slice A l.length c)).ownBlock = some i := h; show ((Value.slice A l.length c)).ownBlock = some i ∨ i = g; exact (.inl h))) ?_
   refine Dr.strong (S' := (fun wz => Keeps (fun i => ((Value.slice A l.length c)).ownBlock = some i ∨ i = g) w25 wz)) ((Keeps.refl w25).mono (fun _ _ h => h.elim)) (fun wz hx => K30.trans hx (fun i _ h => by have h : ((Value.slice A l.length c)).ownBlock = some i := h; show ((Value.slice A l.length c)).ownBlock = some i ∨ i = g; exact (.inl h)) (fun _ _ h => h)) ?_
   have hLE := LogE.grow hM k01 hY9 (fun i hi => Nat.le_trans hz0 hi.1) hK28 hO27 hg29
   have hTg : ∀ i, (T i ∨ (w.heap.size ≤ i ∧ i < w25.heap.size)) → ¬ i = g := fun i hi => by rcases hi with h | h; exact hT0 i h; omega
   clear K30 hr26 hK28 hg29
   refine Dr.takes (fuel' := 1) (is' := [9, 8, 7, 4, 6, 5, 3, 2, 1, 0]) [8, 9] [(4, (i64 0)), (36, (Value.slice A31 ((l ++ l14).length) c32)), (38, (Value.pointer (some ⟨g, 2, none⟩)))] (by kernel_rfl) rfl (by kernel_rfl) ?_
   refine Dr.put (i := 10) (t := 22) (b := g) (off := 2) (v := (Value.slice A31 ((l ++ l14).length) c32)) (ys := [(i64 base), (i64 old), (Value.slice A31 ((l ++ l14).length) c32)]) (by kernel_rfl) (by kernel_rfl) (by kernel_rfl) H0 (by kernel_rfl) (d := none) (by kernel_rfl) rfl (fun w34 H35 K36 => ?_)
   clear H0
   replace K0 := K0.trans K36 (U := (fun i => i = g ∨ ((Value.slice A l.length c)).ownBlock = some i)) (fun i h1 h2 => h2) (fun i h1 h2 => by have h2 : i = g := h2; exact .inl h2)
   replace hLE := LogE.keep hLE K36 hTg
   replace hO27 := own_keep hO27 K36 (fun i hi hs => by have hs : i = g := hs; have := ob33 i hi; omega)
   refine ⟨(K36.mono (fun i _ h => by have h : i = g := h; show ((Value.slice A l.length c)).ownBlock = some i ∨ i = g; exact (.inr h))), ?_⟩
   refine Dr.strong (S' := (fun wz => Keeps (fun i => ((Value.slice A l.length c)).ownBlock = some i ∨ i = g) w34 wz)) ((Keeps.refl w34).mono (fun _ _ h => h.elim)) (fun wz hx => K36.trans hx (fun i _ h => by have h : i = g := h; show ((Value.slice A l.length c)).ownBlock = some i ∨ i = g; exact (.inr h)) (fun _ _ h => h)) ?_
   clear K36
   refine Dr.done (by kernel_rfl) ?_
   refine qs ?_
   refine qg ?_
   refine og 1 [(4, (i64 0))] 1 ?_
   refine od ?_
   refine q_ret (by kernel_rfl) ?_
   refine ⟨(i64 0), retv_tmp rfl rfl, ?_⟩
   exact ⟨l ++ l14, A31, c32, _, rfl, K0, H35, hLE, by rw [List.map_append, hK20], fun i hi => ⟨hTg i hi, hi.elim .inl fun h => .inr h.1⟩⟩
end Go.Proofs.Ytnmpepjikfbpdaa
namespace Go.Proofs.Ytnmpepjikfbpdaa
open Go.Q Go.RowKit

set_option maxHeartbeats 1000000 in
theorem lead_calls (w : World) (r g : Nat) (term voted role leader commit group elapsed timeout : Int) (vv pv : Value) (T : Nat → Prop) (bs : Nat) (base old : Int) (A : Option Addr) (c : Nat) (l : List EntP) (Hr : Has w r (rowL [(i64 term), (i64 voted), (i64 role), (i64 leader), (i64 commit), (i64 group), (i64 0), (i64 1), (ptr g), (i64 elapsed), (i64 timeout), (Value.slice none 0 0), vv, pv, (Value.pointer none), (Value.pointer none), (Value.bool false), (Value.slice none 0 0)] 84)) (H0 : Has w g (rowL [i64 base, i64 old, .slice A l.length c] 78)) (hM : LogE w bs 43 T (.slice A l.length c) l) (hT : ∀ i, T i → i ≠ g) (hB : 0 ≤ base ∧ base ≤ 2305843009213693952) (hL : l.length ≤ 4096) (hrg : r ≠ g) (hrT : ∀ i, T i → i ≠ r) (hbs : bs ≤ w.heap.size) (hBig : BigK (l.map EntP.key)) (hq : appE base old (l.map EntP.key) [(term, [])] = 0) (hl1 : l.length + 1 ≤ 4096) : Calls Try.prog 48 ⟨[(ptr r)]⟩ w (fun e w' => ∃ l' A' c' T' PA pc, e = .returned (.tuple #[]) ∧ Keeps (fun i => i = r ∨ i = g ∨ ((Value.slice A l.length c)).ownBlock = some i) w w' ∧ Has w' r (rowL [(i64 term), (i64 voted), (i64 2), (i64 0), (i64 (agC base old term commit ((l.map EntP.key) ++ [(term, [])]))), (i64 group), (i64 0), (i64 1), (ptr g), (i64 elapsed), (i64 timeout), (Value.slice none 0 0), vv, (Value.slice PA 1 pc), (Value.pointer none), (Value.pointer none), (Value.bool false), (Value.slice none 0 0)] 84) ∧ Has w' g (rowL [i64 base, i64 old, .slice A' l'.length c'] 78) ∧ LogE w' bs 43 T' (.slice A' l'.length c') l' ∧ l'.map EntP.key = ((l.map EntP.key) ++ [(term, [])]) ∧ ∀ i, T' i → i ≠ g ∧ i ≠ r ∧ (T i ∨ w.heap.size ≤ i)) := by
 have hE := hM.ents
 have hvr : ∀ i, ((Value.slice A l.length c)).ownBlock = some i → i ≠ r := fun i hi => hrT i (hM.ownT i hi)
 have hvg : ∀ i, ((Value.slice A l.length c)).ownBlock = some i → i ≠ g := fun i hi => hT i (hM.ownT i hi)
 have hcap := Ents.len hE
 have Hg := H0.lt
 have Hrl := Hr.lt
 have K0 : Keeps (fun i => i = r ∨ i = g ∨ ((Value.slice A l.length c)).ownBlock = some i) w w := (Keeps.refl w).mono (fun _ _ h => h.elim)
 refine q_calls Try.func48 (by kernel_rfl) (by kernel_rfl) ?_
 refine qs ?_
 refine qg ?_
 refine og 3 [(0, (ptr r)), (7, (Value.pointer (some ⟨r, 8, none⟩)))] 3 ?_
 refine Ops.go (v := (ptr g)) (by kernel_rfl) (Runs.load (t := 24) (a := ⟨r, 8, none⟩) (by kernel_rfl) (Hr.loads (by kernel_rfl))) (d := (some 8)) (by kernel_rfl) rfl ?_
 refine Ops.call (by kernel_rfl) (d := (some 9)) (by kernel_rfl) (Last_calls _ T g base old A c l H0 hE hT (by omega) (by omega)) ?_
 rintro _ w2 ⟨rfl, K1⟩
 refine ⟨_, _, rfl, rfl, ?_⟩
 replace K0 := K0.trans K1 (U := (fun i => i = r ∨ i = g ∨ ((Value.slice A l.length c)).ownBlock = some i)) (fun i h1 h2 => h2) (fun i h1 h2 => by exact h2.elim)
 replace H0 := H0.keep K1 (fun h => h)
 replace Hr := Hr.keep K1 (fun h => h)
 replace hE := Ents.keep0 hE K1
 replace hM := LogE.keep0 hM K1
 clear K1
 refine og 5 [(0, (ptr r)), (2, (i64 (base + ((l.length : Nat) : Int))))] 10 ?_
 refine od ?_
 refine qs ?_
 refine qg ?_
 refine og 5 [(0, (ptr r)), (2, (i64 (base + ((l.length : Nat) : Int)))), (12, (ptr r)), (13, (ptr r)), (16, (Value.pointer (some ⟨r, 6, none⟩)))] 5 ?_
 refine Ops.go (v := (i64 0)) (by kernel_rfl) (Runs.load (t := 3) (a := ⟨r, 6, none⟩) (by kernel_rfl) (Hr.loads (by kernel_rfl))) (d := (some 17)) (by kernel_rfl) rfl ?_
 refine og 3 [(0, (ptr r)), (2, (i64 (base + ((l.length : Nat) : Int)))), (13, (ptr r)), (17, (i64 0)), (20, (Value.pointer (some ⟨r, 2, none⟩)))] 9 ?_
 refine Ops.put (t := 3) (b := r) (off := 2) (v := (i64 2)) (ys := [(i64 term), (i64 voted), (i64 2), (i64 leader), (i64 commit), (i64 group), (i64 0), (i64 1), (ptr g), (i64 elapsed), (i64 timeout), (Value.slice none 0 0), vv, pv, (Value.pointer none), (Value.pointer none), (Value.bool false), (Value.slice none 0 0)]) (by kernel_rfl) (by kernel_rfl) Hr (by kernel_rfl) (d := none) (by kernel_rfl) rfl (fun w3 H4 K5 => ?_)
 clear Hr
 replace K0 := K0.trans K5 (U := (fun i => i = r ∨ i = g ∨ ((Value.slice A l.length c)).ownBlock = some i)) (fun i h1 h2 => h2) (fun i h1 h2 => by have h2 : i = r := h2; exact .inl h2)
 replace H0 := H0.keep K5 (by intro h; change g = r at h; omega)
 replace hE := Ents.keep hE K5 (fun i hi hs => by have hs : i = r := hs; have := hrT i hi; omega)
 replace hM := LogE.keep hM K5 (fun i hi hs => by have hs : i = r := hs; have := hrT i hi; omega)
 clear K5
 refine og 3 [(0, (ptr r)), (2, (i64 (base + ((l.length : Nat) : Int)))), (17, (i64 0)), (23, (Value.pointer (some ⟨r, 3, none⟩)))] 13 ?_
 refine Ops.put (t := 3) (b := r) (off := 3) (v := (i64 0)) (ys := [(i64 term), (i64 voted), (i64 2), (i64 0), (i64 commit), (i64 group), (i64 0), (i64 1), (ptr g), (i64 elapsed), (i64 timeout), (Value.slice none 0 0), vv, pv, (Value.pointer none), (Value.pointer none), (Value.bool false), (Value.slice none 0 0)]) (by kernel_rfl) (by kernel_rfl) H4 (by kernel_rfl) (d := none) (by kernel_rfl) rfl (fun w6 H7 K8 => ?_)
 clear H4
 replace K0 := K0.trans K8 (U := (fun i => i = r ∨ i = g ∨ ((Value.slice A l.length c)).ownBlock = some i)) (fun i h1 h2 => h2) (fun i h1 h2 => by have h2 : i = r := h2; exact .inl h2)
 replace H0 := H0.keep K8 (by intro h; change g = r at h; omega)
 replace hE := Ents.keep hE K8 (fun i hi hs => by have hs : i = r := hs; have := hrT i hi; omega)
 replace hM := LogE.keep hM K8 (fun i hi hs => by have hs : i = r := hs; have := hrT i hi; omega)
 clear K8
 refine od ?_
 refine qs ?_
 refine qg ?_
 refine og 3 [(0, (ptr r)), (24, (ptr r)), (26, (i64 (IntKind.i64.wrap ((base + ((l.length : Nat) : Int)) + 1))))] 3 ?_
 have e9 : IntKind.i64.wrap ((base + ((l.length : Nat) : Int)) + 1) = (base + ((l.length : Nat) : Int)) + 1 := wrap_i64 (by omega) (by omega)
 rw [e9]
 refine og 1 [(0, (ptr r)), (24, (ptr r)), (27, (agg [(i64 ((base + ((l.length : Nat) : Int)) + 1)), (i64 0), (i64 0)]))] 4 ?_
 refine Ops.new (o := rowL [(i64 ((base + ((l.length : Nat) : Int)) + 1)), (i64 0), (i64 0)] 112) (V := fun b => (Value.slice (some ⟨b, 0, none⟩) 1 1)) (by kernel_rfl) (d := (some 28)) (by kernel_rfl) (fun b => rfl) (fun b10 w11 hb12 H13 K14 hs15 => ?_)
 have lb10g : g < b10 := by have := H0.lt; omega
 have lb10r : r < b10 := by have := H7.lt; omega
 have nb10 : w.heap.size ≤ b10 := by have := K0.size; omega
 have ot16 : ∀ i, T i → i ≠ b10 := fun i hi => by have := Ents.lt hE i hi; omega
 have ot17 : ∀ i, ((Value.slice A l.length c)).ownBlock = some i → i ≠ b10 := fun i hi => ot16 i (hM.ownT i hi)
 replace K0 := K0.trans K14 (U := (fun i => i = r ∨ i = g ∨ ((Value.slice A l.length c)).ownBlock = some i)) (fun i h1 h2 => h2) (fun i h1 h2 => by exact h2.elim)
 replace H0 := H0.keep K14 (fun h => h)
 replace H7 := H7.keep K14 (fun h => h)
 replace hE := Ents.keep0 hE K14
 replace hM := LogE.keep0 hM K14
 clear K14 hs15
 refine og 3 [(0, (ptr r)), (24, (ptr r)), (28, (Value.slice (some ⟨b10, 0, none⟩) 1 1)), (31, (Value.pointer (some ⟨r, 7, none⟩)))] 8 ?_
 refine Ops.go (v := (i64 1)) (by kernel_rfl) (Runs.load (t := 3) (a := ⟨r, 7, none⟩) (by kernel_rfl) (H7.loads (by kernel_rfl))) (d := (some 32)) (by kernel_rfl) rfl ?_
 refine Ops.call (by kernel_rfl) (d := (some 33)) (by kernel_rfl) (Repeat_one _ b10 ((base + ((l.length : Nat) : Int)) + 1) H13) ?_
 rintro _ w21 ⟨A18, c19, rfl, K20⟩
 refine ⟨_, _, rfl, rfl, ?_⟩
 replace K0 := K0.trans K20 (U := (fun i => i = r ∨ i = g ∨ ((Value.slice A l.length c)).ownBlock = some i)) (fun i h1 h2 => h2) (fun i h1 h2 => by exact h2.elim)
 replace H0 := H0.keep K20 (fun h => h)
 replace H7 := H7.keep K20 (fun h => h)
 replace H13 := H13.keep K20 (fun h => h)
 replace hE := Ents.keep0 hE K20
 replace hM := LogE.keep0 hM K20
 clear K20
 refine og 2 [(0, (ptr r)), (33, (Value.slice A18 1 c19)), (35, (Value.pointer (some ⟨r, 13, none⟩)))] 12 ?_
 refine Ops.put (t := 81) (b := r) (off := 13) (v := (Value.slice A18 1 c19)) (ys := [(i64 term), (i64 voted), (i64 2), (i64 0), (i64 commit), (i64 group), (i64 0), (i64 1), (ptr g), (i64 elapsed), (i64 timeout), (Value.slice none 0 0), vv, (Value.slice A18 1 c19), (Value.pointer none), (Value.pointer none), (Value.bool false), (Value.slice none 0 0)]) (by kernel_rfl) (by kernel_rfl) H7 (by kernel_rfl) (d := none) (by kernel_rfl) rfl (fun w22 H23 K24 => ?_)
 clear H7
 replace K0 := K0.trans K24 (U := (fun i => i = r ∨ i = g ∨ ((Value.slice A l.length c)).ownBlock = some i)) (fun i h1 h2 => h2) (fun i h1 h2 => by have h2 : i = r := h2; exact .inl h2)
 replace H0 := H0.keep K24 (by intro h; change g = r at h; omega)
 replace H13 := H13.keep K24 (by intro h; change b10 = r at h; omega)
 replace hE := Ents.keep hE K24 (fun i hi hs => by have hs : i = r := hs; have := hrT i hi; omega)
 replace hM := LogE.keep hM K24 (fun i hi hs => by have hs : i = r := hs; have := hrT i hi; omega)
 clear K24
 refine od ?_
 refine qs ?_
 refine q_draw (fun wz => Keeps (fun i => ((Value.slice A l.length c)).ownBlock = some i ∨ i = g) w22 wz) 12 (by kernel_rfl) (by kernel_rfl) (by kernel_rfl) (fun w25 K26 _ _ => ⟨(K26.mono (fun _ _ h => h.elim)), ?_⟩)
 replace K0 := K0.trans K26 (U := (fun i => i = r ∨ i = g ∨ ((Value.slice A l.length c)).ownBlock = some i)) (fun i h1 h2 => h2) (fun i h1 h2 => by exact h2.elim)
 replace H0 := H0.keep K26 (fun h => h)
 replace H23 := H23.keep K26 (fun h => h)
 replace H13 := H13.keep K26 (fun h => h)
 replace hE := Ents.keep0 hE K26
 replace hM := LogE.keep0 hM K26
 refine Dr.strong (S' := (fun wz => Keeps (fun i => ((Value.slice A l.length c)).ownBlock = some i ∨ i = g) w25 wz)) ((Keeps.refl w25).mono (fun _ _ h => h.elim)) (fun wz hx => K26.trans hx (fun i _ h => h.elim) (fun _ _ h => h)) ?_
 clear K26
 refine Dr.takes (fuel' := 9) (is' := [2, 1, 0]) [0, 1, 2] [(0, (ptr r)), (38, (Value.pointer (some ⟨r, 8, none⟩)))] (by kernel_rfl) rfl (by kernel_rfl) ?_
 refine Dr.take (i := 3) (v := (ptr g)) (by kernel_rfl) (by kernel_rfl) (fun wz hS => Runs.load (t := 24) (a := ⟨r, 8, none⟩) (by kernel_rfl) ((H23.keep hS (by intro h; change ((Value.slice A l.length c)).ownBlock = some r ∨ r = g at h; rcases h with h | h; (have := hvr r h; omega); (omega))).loads (by kernel_rfl))) (d := (some 39)) (by kernel_rfl) rfl ?_
 refine Dr.takes (fuel' := 4) (is' := [7, 6, 5, 4, 3, 2, 1, 0]) [4, 5, 6, 7] [(0, (ptr r)), (39, (ptr g)), (43, (ptr r))] (by kernel_rfl) rfl (by kernel_rfl) ?_
 refine Dr.take (i := 8) (v := (i64 term)) (by kernel_rfl) (by kernel_rfl) (fun wz hS => Runs.load (t := 2) (a := ⟨r, 0, none⟩) (by kernel_rfl) ((H23.keep hS (by intro h; change ((Value.slice A l.length c)).ownBlock = some r ∨ r = g at h; rcases h with h | h; (have := hvr r h; omega); (omega))).loads (by kernel_rfl))) (d := (some 44)) (by kernel_rfl) rfl ?_
 refine Dr.takes (fuel' := 2) (is' := [9, 8, 7, 6, 5, 4, 3, 2, 1, 0]) [9] [(0, (ptr r)), (39, (ptr g)), (45, (agg [(i64 term), (Value.slice none 0 0)]))] (by kernel_rfl) rfl (by kernel_rfl) ?_
 refine Dr.new (i := 10) (o := rowL [(i64 term), (Value.slice none 0 0)] 43) (V := fun b => (Value.slice (some ⟨b, 0, none⟩) 1 1)) (by kernel_rfl) (by kernel_rfl) (d := (some 46)) (by kernel_rfl) (fun b => rfl) (fun b27 w28 hb29 H30 K31 hs32 => ?_)
 have lb27g : g < b27 := by have := H0.lt; omega
 have lb27r : r < b27 := by have := H23.lt; omega
 have lb27b10 : b10 < b27 := by have := H13.lt; omega
 have nb27 : w.heap.size ≤ b27 := by have := K0.size; omega
 have ot33 : ∀ i, T i → i ≠ b27 := fun i hi => by have := Ents.lt hE i hi; omega
 have ot34 : ∀ i, ((Value.slice A l.length c)).ownBlock = some i → i ≠ b27 := fun i hi => ot33 i (hM.ownT i hi)
 replace K0 := K0.trans K31 (U := (fun i => i = r ∨ i = g ∨ ((Value.slice A l.length c)).ownBlock = some i)) (fun i h1 h2 => h2) (fun i h1 h2 => by exact h2.elim)
 replace H0 := H0.keep K31 (fun h => h)
 replace H23 := H23.keep K31 (fun h => h)
 replace H13 := H13.keep K31 (fun h => h)
 replace hE := Ents.keep0 hE K31
 replace hM := LogE.keep0 hM K31
 refine ⟨(K31.mono (fun _ _ h => h.elim)), ?_⟩
 refine Dr.strong (S' := (fun wz => Keeps (fun i => ((Value.slice A l.length c)).ownBlock = some i ∨ i = g ∨ i = b27) w28 wz)) ((Keeps.refl w28).mono (fun _ _ h => h.elim)) (fun wz hx => K31.trans hx (U := (fun i => ((Value.slice A l.length c)).ownBlock = some i ∨ i = g)) (fun i _ h => h.elim) (fun i hi h => by have h : ((Value.slice A l.length c)).ownBlock = some i ∨ i = g ∨ i = b27 := h; show ((Value.slice A l.length c)).ownBlock = some i ∨ i = g; rcases h with h | h | h; (exact (.inl h)); (exact (.inr h)); (exfalso; omega))) ?_
 clear K31 hs32
 have hY35 : Ents w28 (fun i => i = b27 ∨ (([] : List UInt8) ≠ [] ∧ ((Value.slice none 0 0)).ownBlock = some i)) (Value.slice (some ⟨b27, 0, none⟩) 1 1) [(⟨term, none, 0, []⟩ : EntP)] := Ents.lit H30 (Rd.nil _ _) (fun _ i hi => by cases hi)
 have hU36 : ∀ i, (fun i => i = b27 ∨ (([] : List UInt8) ≠ [] ∧ ((Value.slice none 0 0)).ownBlock = some i)) i → i ≠ g := fun i hi => by rcases hi with h | ⟨hb, h⟩; (omega); (cases h)
 refine Dr.call (i := 11) (by kernel_rfl) (by kernel_rfl) (d := (some 47)) (by kernel_rfl) (fun _ => Append_grow _ T g bs base old A c l (fun i => i = b27 ∨ (([] : List UInt8) ≠ [] ∧ ((Value.slice none 0 0)).ownBlock = some i)) (some ⟨b27, 0, none⟩) 1 [(⟨term, none, 0, []⟩ : EntP)] H0 hM hT (by omega) (by first | omega | decide) (Nat.le_trans hbs K0.size) hY35 hU36 hBig (fun y hy => by rw [List.map_singleton, List.mem_singleton] at hy; subst hy; exact Nat.zero_le _) (by show 1 * 32 ≤ _; decide) hq) ?_
 rintro _ w41 ⟨l37, A38, c39, T40, rfl, K42, H43, hM44, hK46, hT47⟩
 have hE45 := hM44.ents
 have ot48 : ∀ i, T40 i → i ≠ g := fun i hi => (hT47 i hi).1
 have ot49 : ∀ i, ((Value.slice A38 l37.length c39)).ownBlock = some i → i ≠ g := fun i hi => ot48 i (hM44.ownT i hi)
 have ot50 : ∀ i, T40 i → i ≠ r := fun i hi => by rcases (hT47 i hi).2 with h | h; (exact hrT i h); (have := H23.lt; omega)
 have ot51 : ∀ i, ((Value.slice A38 l37.length c39)).ownBlock = some i → i ≠ r := fun i hi => ot50 i (hM44.ownT i hi)
 have ot52 : ∀ i, T40 i → i ≠ b10 := fun i hi => by rcases (hT47 i hi).2 with h | h; (exact ot16 i h); (have := H13.lt; omega)
 have ot53 : ∀ i, ((Value.slice A38 l37.length c39)).ownBlock = some i → i ≠ b10 := fun i hi => ot52 i (hM44.ownT i hi)
 have ot54 : ∀ i, T40 i → i ≠ b27 := fun i hi => by rcases (hT47 i hi).2 with h | h; (exact ot33 i h); (have := H30.lt; omega)
 have ot55 : ∀ i, ((Value.slice A38 l37.length c39)).ownBlock = some i → i ≠ b27 := fun i hi => ot54 i (hM44.ownT i hi)
 have hn56 := keys_len2 hK46
 have hz57 := K0.size
 have hn58 : l37.length = l.length + 1 := by have q := congrArg List.length hK46; simpa using q
 replace K0 := K0.trans K42 (U := (fun i => i = r ∨ i = g ∨ ((Value.slice A l.length c)).ownBlock = some i)) (fun i h1 h2 => h2) (fun i h1 h2 => by have h2 : i = g ∨ ((Value.slice A l.length c)).ownBlock = some i := h2; rcases h2 with h2 | h2; (exact .inr (.inl h2)); (exact .inr (.inr (h2))))
 replace H23 := H23.keep K42 (by intro h; change r = g ∨ ((Value.slice A l.length c)).ownBlock = some r at h; rcases h with h | h; (omega); (have := hvr r h; omega))
 replace H13 := H13.keep K42 (by intro h; change b10 = g ∨ ((Value.slice A l.length c)).ownBlock = some b10 at h; rcases h with h | h; (omega); (have := ot17 b10 h; omega))
 replace H30 := H30.keep K42 (by intro h; change b27 = g ∨ ((Value.slice A l.length c)).ownBlock = some b27 at h; rcases h with h | h; (omega); (have := ot34 b27 h; omega))
 clear hE
 clear hM
 refine ⟨_, _, rfl, rfl, (K42.mono (fun i _ h => by have h : i = g ∨ ((Value.slice A l.length c)).ownBlock = some i := h; show ((Value.slice A l.length c)).ownBlock = some i ∨ i = g ∨ i = b27; rcases h with h | h; (exact (.inr (.inl h))); (exact (.inl h)))), ?_⟩
 refine Dr.strong (S' := (fun wz => Keeps (fun i => ((Value.slice A l.length c)).ownBlock = some i ∨ i = g ∨ i = b27) w41 wz)) ((Keeps.refl w41).mono (fun _ _ h => h.elim)) (fun wz hx => K42.trans hx (fun i _ h => by have h : i = g ∨ ((Value.slice A l.length c)).ownBlock = some i := h; show ((Value.slice A l.length c)).ownBlock = some i ∨ i = g ∨ i = b27; rcases h with h | h; (exact (.inr (.inl h))); (exact (.inl h))) (fun _ _ h => h)) ?_
 clear K42
 have hbigl37 : BigK (l37.map EntP.key) := by rw [hK46]; exact BigK.app hBig (fun y hy => by rw [List.map_singleton, List.mem_singleton] at hy; subst hy; exact Nat.zero_le _)
 refine Dr.done (by kernel_rfl) ?_
 refine qs ?_
 refine qg ?_
 refine og 1 [(0, (ptr r)), (48, (ptr r))] 1 ?_
 refine Ops.call (by kernel_rfl) (d := (some 49)) (by kernel_rfl) (agree_calls _ r g term voted 2 0 commit group elapsed timeout vv (Value.slice A18 1 c19) T40 base old A38 c39 l37 H23 H43 hE45 ot48 (by omega) (by omega) (by omega) ot50) ?_
 rintro _ w60 ⟨rfl, K59, H61⟩
 refine ⟨_, _, rfl, rfl, ?_⟩
 replace K0 := K0.trans K59 (U := (fun i => i = r ∨ i = g ∨ ((Value.slice A l.length c)).ownBlock = some i)) (fun i h1 h2 => h2) (fun i h1 h2 => by have h2 : i = r := h2; exact .inl h2)
 replace H43 := H43.keep K59 (by intro h; change g = r at h; omega)
 replace H13 := H13.keep K59 (by intro h; change b10 = r at h; omega)
 replace H30 := H30.keep K59 (by intro h; change b27 = r at h; omega)
 replace hE45 := Ents.keep hE45 K59 (fun i hi hs => by have hs : i = r := hs; have := ot50 i hi; omega)
 replace hM44 := LogE.keep hM44 K59 (fun i hi hs => by have hs : i = r := hs; have := ot50 i hi; omega)
 clear K59
 refine od ?_
 refine qg ?_
 refine og 3 [(50, (ptr r)), (52, (Value.func (Fn.func 38) ⟨[(ptr r)]⟩ ⟨[]⟩))] 3 ?_
 refine Ops.call (by kernel_rfl) (d := (some 53)) (by kernel_rfl) (others_calls _ r g term voted 2 0 (agC base old term commit (l37.map EntP.key)) group elapsed timeout vv (Value.slice A18 1 c19) (Value.func (Fn.func 38) ⟨[(ptr r)]⟩ ⟨[]⟩) H61) ?_
 rintro _ w63 ⟨rfl, K62⟩
 refine ⟨_, _, rfl, rfl, ?_⟩
 replace K0 := K0.trans K62 (U := (fun i => i = r ∨ i = g ∨ ((Value.slice A l.length c)).ownBlock = some i)) (fun i h1 h2 => h2) (fun i h1 h2 => by exact h2.elim)
 replace H43 := H43.keep K62 (fun h => h)
 replace H61 := H61.keep K62 (fun h => h)
 replace H13 := H13.keep K62 (fun h => h)
 replace H30 := H30.keep K62 (fun h => h)
 replace hE45 := Ents.keep0 hE45 K62
 replace hM44 := LogE.keep0 hM44 K62
 clear K62
 refine od ?_
 refine ⟨(Value.tuple #[]), retv_none rfl, ?_⟩
 rw [hK46] at H61
 exact ⟨l37, A38, c39, T40, A18, c19, rfl, K0, H61, H43, hM44, hK46, fun i hi => ⟨(hT47 i hi).1, ot50 i hi, (hT47 i hi).2.elim .inl fun h => .inr (Nat.le_trans hz57 h)⟩⟩
end Go.Proofs.Ytnmpepjikfbpdaa
namespace Go.Q
open Go.RowKit

section
variable {P : Program} {n : Nat} {os : Array Oper} {K : Loc → World → Prop} {L L' : Loc} {w : World} {i j : Nat} {d di dj : Option Tmp} {S : World → Prop} {fuel : Nat} {is : List Nat}

theorem DrB.load {t t2 : TypeId} {a a2 : Addr} {v v2 : Value} {L1 La Lb : Loc} {l : List Nat}
    (hr : Region.ready .any os (marks os.size is) = l) (hl2 : l = [i, j] ∨ l = [j, i]) (hij : Region.ready .any os (marks os.size (i :: is)) = [j]) (hm : marks os.size (i :: j :: is) = marks os.size (j :: i :: is))
    (hi0 : okAt os L i = true) (hld : ld? L (opn os i) = some (t, a)) (hdi : dst? os i = some di) (hsi : (match setL n di v L with | some Lx => restrict Lx (L1.map Prod.fst) | none => none) = some L1)
    (hj0 : okAt os L j = true) (hj1 : okAt os L1 j = true) (hk0 : ld? L (opn os j) = some (t2, a2)) (hk1 : ld? L1 (opn os j) = some (t2, a2)) (hdj : dst? os j = some dj) (hsj0 : setL n dj v2 L = some La) (hsj1 : setL n dj v2 L1 = some Lb)
    (hl : Loads P w t a v) (hlj : Loads P w t2 a2 v2) (hS : S w)
    (h : DrB P n os S fuel (j :: is) i K La Lb w) : DrB P n os S (fuel + 1) is i K L L1 w := by
  have h2 : Dr P n os S (fuel + 1) (i :: is) K L1 w := Dr.go hij hj1 (Runs.load hk1 hlj) hdj hsj1 hS (Dr.swap hm h.2)
  refine ⟨?_, h2⟩
  intro hS0 act ha
  refine wpAnyH_all hr (by rcases hl2 with rfl | rfl <;> simp) fun q hq => ?_
  have hq : q = i ∨ q = j := by rcases hl2 with rfl | rfl <;> simp at hq <;> omega
  rcases hq with rfl | rfl
  · cases hx : setL n di v L with
    | none => rw [hx] at hsi; cases hsi
    | some Lx =>
      rw [hx] at hsi
      exact Dr.opStep hi0 (Runs.load hld hl) hdi hx hS (Dr.keep hsi h2) ha
  · exact Dr.opStep hj0 (Runs.load hk0 hlj) hdj hsj0 hS h.1 ha
theorem DrB.run {t : TypeId} {a : Addr} {v u : Value} {w2 : World} {L1 La Lb : Loc} {l : List Nat}
    (hr : Region.ready .any os (marks os.size is) = l) (hl2 : l = [i, j] ∨ l = [j, i]) (hij : Region.ready .any os (marks os.size (i :: is)) = [j]) (hm : marks os.size (i :: j :: is) = marks os.size (j :: i :: is))
    (hi0 : okAt os L i = true) (hld : ld? L (opn os i) = some (t, a)) (hdi : dst? os i = some di) (hsi : (match setL n di v L with | some Lx => restrict Lx (L1.map Prod.fst) | none => none) = some L1)
    (hj0 : okAt os L j = true) (hj1 : okAt os L1 j = true) (r0 : Runs P L (opn os j) w u w2) (r1 : Runs P L1 (opn os j) w u w2) (hdj : dst? os j = some dj) (hsj0 : setL n dj u L = some La) (hsj1 : setL n dj u L1 = some Lb)
    (hl : Loads P w t a v) (hS : S w)
    (h : S w2 ∧ DrB P n os S fuel (j :: is) i K La Lb w2) : DrB P n os S (fuel + 1) is i K L L1 w := by
  have h2 : Dr P n os S (fuel + 1) (i :: is) K L1 w := Dr.go hij hj1 r1 hdj hsj1 h.1 (Dr.swap hm h.2.2)
  refine ⟨?_, h2⟩
  intro hS0 act ha
  refine wpAnyH_all hr (by rcases hl2 with rfl | rfl <;> simp) fun q hq => ?_
  have hq : q = i ∨ q = j := by rcases hl2 with rfl | rfl <;> simp at hq <;> omega
  rcases hq with rfl | rfl
  · cases hx : setL n di v L with
    | none => rw [hx] at hsi; cases hsi
    | some Lx =>
      rw [hx] at hsi
      exact Dr.opStep hi0 (Runs.load hld hl) hdi hx hS (Dr.keep hsi h2) ha
  · exact Dr.opStep hj0 r0 hdj hsj0 h.1 h.2.1 ha
end
end Go.Q
namespace Go.Proofs.Ytnmpepjikfbpdaa
open Go.Q Go.RowKit
theorem KTI : KeyTy Try.prog 3 kint := keyTy_int Try.underlying3

set_option maxHeartbeats 2000000 in
theorem elect_calls (w : World) (r g : Nat) (term voted role leader commit group elapsed timeout : Int) (vv pv : Value) (T : Nat → Prop) (bs : Nat) (base old : Int) (A : Option Addr) (c : Nat) (l : List EntP) (Hr : Has w r (rowL [(i64 term), (i64 voted), (i64 role), (i64 leader), (i64 commit), (i64 group), (i64 0), (i64 1), (ptr g), (i64 elapsed), (i64 timeout), (Value.slice none 0 0), vv, pv, (Value.pointer none), (Value.pointer none), (Value.bool false), (Value.slice none 0 0)] 84)) (H0 : Has w g (rowL [i64 base, i64 old, .slice A l.length c] 78)) (hM : LogE w bs 43 T (.slice A l.length c) l) (hT : ∀ i, T i → i ≠ g) (hB : 0 ≤ base ∧ base ≤ 2305843009213693952) (hL : l.length ≤ 4096) (hrg : r ≠ g) (hrT : ∀ i, T i → i ≠ r) (hbs : bs ≤ w.heap.size) (hBig : BigK (l.map EntP.key)) (hq : appE base old (l.map EntP.key) [(term + 1, [])] = 0) (hl1 : l.length + 1 ≤ 4096) (ht : 0 ≤ term ∧ term ≤ 1152921504606846976) : Calls Try.prog 40 ⟨[(ptr r)]⟩ w (fun e w' => ∃ l' A' c' T' PA pc mb, e = .returned (.tuple #[]) ∧ Keeps (fun i => i = r ∨ i = g ∨ ((Value.slice A l.length c)).ownBlock = some i) w w' ∧ Has w' r (rowL [(i64 (term + 1)), (i64 0), (i64 2), (i64 0), (i64 (agC base old (term + 1) commit ((l.map EntP.key) ++ [(term + 1, [])]))), (i64 group), (i64 0), (i64 1), (ptr g), (i64 0), (i64 10), (Value.slice none 0 0), (Value.map (some mb)), (Value.slice PA 1 pc), (Value.pointer none), (Value.pointer none), (Value.bool false), (Value.slice none 0 0)] 84) ∧ Has w' g (rowL [i64 base, i64 old, .slice A' l'.length c'] 78) ∧ LogE w' bs 43 T' (.slice A' l'.length c') l' ∧ l'.map EntP.key = ((l.map EntP.key) ++ [(term + 1, [])]) ∧ ∀ i, T' i → i ≠ g ∧ i ≠ r ∧ (T i ∨ w.heap.size ≤ i)) := by
 have hE := hM.ents
 have hvr : ∀ i, ((Value.slice A l.length c)).ownBlock = some i → i ≠ r := fun i hi => hrT i (hM.ownT i hi)
 have hvg : ∀ i, ((Value.slice A l.length c)).ownBlock = some i → i ≠ g := fun i hi => hT i (hM.ownT i hi)
 have hcap := Ents.len hE
 have Hg := H0.lt
 have Hrl := Hr.lt
 have K0 : Keeps (fun i => i = r ∨ i = g ∨ ((Value.slice A l.length c)).ownBlock = some i) w w := (Keeps.refl w).mono (fun _ _ h => h.elim)
 refine q_calls Try.func40 (by kernel_rfl) (by kernel_rfl) ?_
 refine qs ?_
 refine qg ?_
 refine Ops.new (o := rowL [(ptr r)] 29) (V := fun b => (ptr b)) (by kernel_rfl) (d := (some 1)) (by kernel_rfl) (fun b => rfl) (fun b1 w2 hb3 H4 K5 hs6 => ?_)
 have lb1g : g < b1 := by have := H0.lt; omega
 have lb1r : r < b1 := by have := Hr.lt; omega
 have nb1 : w.heap.size ≤ b1 := by have := K0.size; omega
 have ot7 : ∀ i, T i → i ≠ b1 := fun i hi => by have := Ents.lt hE i hi; omega
 have ot8 : ∀ i, ((Value.slice A l.length c)).ownBlock = some i → i ≠ b1 := fun i hi => ot7 i (hM.ownT i hi)
 replace K0 := K0.trans K5 (U := (fun i => i = r ∨ i = g ∨ ((Value.slice A l.length c)).ownBlock = some i)) (fun i h1 h2 => h2) (fun i h1 h2 => by exact h2.elim)
 replace H0 := H0.keep K5 (fun h => h)
 replace Hr := Hr.keep K5 (fun h => h)
 replace hE := Ents.keep0 hE K5
 replace hM := LogE.keep0 hM K5
 clear K5 hs6
 refine od ?_
 refine qs ?_
 refine qg ?_
 refine Ops.go (v := (ptr r)) (by kernel_rfl) (Runs.load (t := 29) (a := ⟨b1, 0, none⟩) (by kernel_rfl) (H4.loads (by kernel_rfl))) (d := (some 4)) (by kernel_rfl) rfl ?_
 refine og 3 [(1, (ptr b1)), (4, (ptr r)), (7, (ptr r))] 4 ?_
 refine Ops.go (v := (i64 term)) (by kernel_rfl) (Runs.load (t := 2) (a := ⟨r, 0, none⟩) (by kernel_rfl) (Hr.loads (by kernel_rfl))) (d := (some 8)) (by kernel_rfl) rfl ?_
 refine og 1 [(1, (ptr b1)), (4, (ptr r)), (9, (i64 (IntKind.i64.wrap (term + 1))))] 6 ?_
 have e9 : IntKind.i64.wrap (term + 1) = term + 1 := wrap_i64 (by omega) (by omega)
 rw [e9]
 refine og 3 [(1, (ptr b1)), (9, (i64 (term + 1))), (12, (ptr r))] 9 ?_
 refine Ops.put (t := 2) (b := r) (off := 0) (v := (i64 (term + 1))) (ys := [(i64 (term + 1)), (i64 voted), (i64 role), (i64 leader), (i64 commit), (i64 group), (i64 0), (i64 1), (ptr g), (i64 elapsed), (i64 timeout), (Value.slice none 0 0), vv, pv, (Value.pointer none), (Value.pointer none), (Value.bool false), (Value.slice none 0 0)]) (by kernel_rfl) (by kernel_rfl) Hr (by kernel_rfl) (d := none) (by kernel_rfl) rfl (fun w10 H11 K12 => ?_)
 clear Hr
 replace K0 := K0.trans K12 (U := (fun i => i = r ∨ i = g ∨ ((Value.slice A l.length c)).ownBlock = some i)) (fun i h1 h2 => h2) (fun i h1 h2 => by have h2 : i = r := h2; exact .inl h2)
 replace H0 := H0.keep K12 (by intro h; change g = r at h; omega)
 replace H4 := H4.keep K12 (by intro h; change b1 = r at h; omega)
 replace hE := Ents.keep hE K12 (fun i hi hs => by have hs : i = r := hs; have := hrT i hi; omega)
 replace hM := LogE.keep hM K12 (fun i hi hs => by have hs : i = r := hs; have := hrT i hi; omega)
 clear K12
 refine od ?_
 refine qs ?_
 refine q_draw (fun wz => Keeps (fun i => i = r) w10 wz) 23 (by kernel_rfl) (by kernel_rfl) (by kernel_rfl) (fun w13 K14 _ _ => ⟨(K14.mono (fun _ _ h => h.elim)), ?_⟩)
 replace K0 := K0.trans K14 (U := (fun i => i = r ∨ i = g ∨ ((Value.slice A l.length c)).ownBlock = some i)) (fun i h1 h2 => h2) (fun i h1 h2 => by exact h2.elim)
 replace H0 := H0.keep K14 (fun h => h)
 replace H11 := H11.keep K14 (fun h => h)
 replace H4 := H4.keep K14 (fun h => h)
 replace hE := Ents.keep0 hE K14
 replace hM := LogE.keep0 hM K14
 refine Dr.strong (S' := (fun wz => Keeps (fun i => i = r) w13 wz)) ((Keeps.refl w13).mono (fun _ _ h => h.elim)) (fun wz hx => K14.trans hx (fun i _ h => h.elim) (fun _ _ h => h)) ?_
 clear K14
 refine Dr.take (i := 0) (v := (ptr r)) (by kernel_rfl) (by kernel_rfl) (fun wz hS => Runs.load (t := 29) (a := ⟨b1, 0, none⟩) (by kernel_rfl) ((H4.keep hS (by intro h; change b1 = r at h; omega)).loads (by kernel_rfl))) (d := (some 13)) (by kernel_rfl) rfl ?_
 refine Dr.take (i := 1) (v := (ptr r)) (by kernel_rfl) (by kernel_rfl) (fun wz hS => Runs.load (t := 29) (a := ⟨b1, 0, none⟩) (by kernel_rfl) ((H4.keep hS (by intro h; change b1 = r at h; omega)).loads (by kernel_rfl))) (d := (some 14)) (by kernel_rfl) rfl ?_
 refine Dr.take (i := 2) (v := (ptr r)) (by kernel_rfl) (by kernel_rfl) (fun wz hS => Runs.load (t := 29) (a := ⟨b1, 0, none⟩) (by kernel_rfl) ((H4.keep hS (by intro h; change b1 = r at h; omega)).loads (by kernel_rfl))) (d := (some 15)) (by kernel_rfl) rfl ?_
 refine Dr.take (i := 3) (v := (ptr r)) (by kernel_rfl) (by kernel_rfl) (fun wz hS => Runs.load (t := 29) (a := ⟨b1, 0, none⟩) (by kernel_rfl) ((H4.keep hS (by intro h; change b1 = r at h; omega)).loads (by kernel_rfl))) (d := (some 16)) (by kernel_rfl) rfl ?_
 refine Dr.take (i := 4) (v := (ptr r)) (by kernel_rfl) (by kernel_rfl) (fun wz hS => Runs.load (t := 29) (a := ⟨b1, 0, none⟩) (by kernel_rfl) ((H4.keep hS (by intro h; change b1 = r at h; omega)).loads (by kernel_rfl))) (d := (some 17)) (by kernel_rfl) rfl ?_
 refine Dr.takes (fuel' := 16) (is' := [6, 5, 4, 3, 2, 1, 0]) [5, 6] [(1, (ptr b1)), (13, (ptr r)), (14, (ptr r)), (15, (ptr r)), (16, (ptr r)), (19, (Value.pointer (some ⟨r, 6, none⟩)))] (by kernel_rfl) rfl (by kernel_rfl) ?_
 refine Dr.go (i := 7) (v := (i64 0)) (by kernel_rfl) (by kernel_rfl) (Runs.load (t := 3) (a := ⟨r, 6, none⟩) (by kernel_rfl) (H11.loads (by kernel_rfl))) (d := (some 20)) (by kernel_rfl) rfl ((Keeps.refl _).mono (fun _ _ h => h.elim)) ?_
 refine Dr.takes (fuel' := 12) (is' := [10, 9, 8, 7, 6, 5, 4, 3, 2, 1, 0]) [8, 9, 10] [(1, (ptr b1)), (14, (ptr r)), (15, (ptr r)), (16, (ptr r)), (20, (i64 0)), (23, (Value.pointer (some ⟨r, 2, none⟩)))] (by kernel_rfl) rfl (by kernel_rfl) ?_
 refine Dr.put (i := 11) (t := 3) (b := r) (off := 2) (v := (i64 1)) (ys := [(i64 (term + 1)), (i64 voted), (i64 1), (i64 leader), (i64 commit), (i64 group), (i64 0), (i64 1), (ptr g), (i64 elapsed), (i64 timeout), (Value.slice none 0 0), vv, pv, (Value.pointer none), (Value.pointer none), (Value.bool false), (Value.slice none 0 0)]) (by kernel_rfl) (by kernel_rfl) (by kernel_rfl) H11 (by kernel_rfl) (d := none) (by kernel_rfl) rfl (fun w15 H16 K17 => ?_)
 clear H11
 replace K0 := K0.trans K17 (U := (fun i => i = r ∨ i = g ∨ ((Value.slice A l.length c)).ownBlock = some i)) (fun i h1 h2 => h2) (fun i h1 h2 => by have h2 : i = r := h2; exact .inl h2)
 replace H0 := H0.keep K17 (by intro h; change g = r at h; omega)
 replace H4 := H4.keep K17 (by intro h; change b1 = r at h; omega)
 replace hE := Ents.keep hE K17 (fun i hi hs => by have hs : i = r := hs; have := hrT i hi; omega)
 replace hM := LogE.keep hM K17 (fun i hi hs => by have hs : i = r := hs; have := hrT i hi; omega)
 refine ⟨K17, ?_⟩
 refine Dr.strong (S' := (fun wz => Keeps (fun i => i = r) w15 wz)) ((Keeps.refl w15).mono (fun _ _ h => h.elim)) (fun wz hx => K17.trans hx (fun i _ h => by have h : i = r := h; show i = r; omega) (fun _ _ h => h)) ?_
 clear K17
 refine Dr.takes (fuel' := 8) (is' := [14, 13, 12, 11, 10, 9, 8, 7, 6, 5, 4, 3, 2, 1, 0]) [12, 13, 14] [(1, (ptr b1)), (15, (ptr r)), (16, (ptr r)), (20, (i64 0)), (26, (Value.pointer (some ⟨r, 1, none⟩)))] (by kernel_rfl) rfl (by kernel_rfl) ?_
 refine Dr.put (i := 15) (t := 3) (b := r) (off := 1) (v := (i64 0)) (ys := [(i64 (term + 1)), (i64 0), (i64 1), (i64 leader), (i64 commit), (i64 group), (i64 0), (i64 1), (ptr g), (i64 elapsed), (i64 timeout), (Value.slice none 0 0), vv, pv, (Value.pointer none), (Value.pointer none), (Value.bool false), (Value.slice none 0 0)]) (by kernel_rfl) (by kernel_rfl) (by kernel_rfl) H16 (by kernel_rfl) (d := none) (by kernel_rfl) rfl (fun w18 H19 K20 => ?_)
 clear H16
 replace K0 := K0.trans K20 (U := (fun i => i = r ∨ i = g ∨ ((Value.slice A l.length c)).ownBlock = some i)) (fun i h1 h2 => h2) (fun i h1 h2 => by have h2 : i = r := h2; exact .inl h2)
 replace H0 := H0.keep K20 (by intro h; change g = r at h; omega)
 replace H4 := H4.keep K20 (by intro h; change b1 = r at h; omega)
 replace hE := Ents.keep hE K20 (fun i hi hs => by have hs : i = r := hs; have := hrT i hi; omega)
 replace hM := LogE.keep hM K20 (fun i hi hs => by have hs : i = r := hs; have := hrT i hi; omega)
 refine ⟨K20, ?_⟩
 refine Dr.strong (S' := (fun wz => Keeps (fun i => i = r) w18 wz)) ((Keeps.refl w18).mono (fun _ _ h => h.elim)) (fun wz hx => K20.trans hx (fun i _ h => by have h : i = r := h; show i = r; omega) (fun _ _ h => h)) ?_
 clear K20
 refine Dr.takes (fuel' := 4) (is' := [18, 17, 16, 15, 14, 13, 12, 11, 10, 9, 8, 7, 6, 5, 4, 3, 2, 1, 0]) [16, 17, 18] [(1, (ptr b1)), (16, (ptr r)), (29, (Value.pointer (some ⟨r, 3, none⟩)))] (by kernel_rfl) rfl (by kernel_rfl) ?_
 refine Dr.put (i := 19) (t := 3) (b := r) (off := 3) (v := (i64 (-1))) (ys := [(i64 (term + 1)), (i64 0), (i64 1), (i64 (-1)), (i64 commit), (i64 group), (i64 0), (i64 1), (ptr g), (i64 elapsed), (i64 timeout), (Value.slice none 0 0), vv, pv, (Value.pointer none), (Value.pointer none), (Value.bool false), (Value.slice none 0 0)]) (by kernel_rfl) (by kernel_rfl) (by kernel_rfl) H19 (by kernel_rfl) (d := none) (by kernel_rfl) rfl (fun w21 H22 K23 => ?_)
 clear H19
 replace K0 := K0.trans K23 (U := (fun i => i = r ∨ i = g ∨ ((Value.slice A l.length c)).ownBlock = some i)) (fun i h1 h2 => h2) (fun i h1 h2 => by have h2 : i = r := h2; exact .inl h2)
 replace H0 := H0.keep K23 (by intro h; change g = r at h; omega)
 replace H4 := H4.keep K23 (by intro h; change b1 = r at h; omega)
 replace hE := Ents.keep hE K23 (fun i hi hs => by have hs : i = r := hs; have := hrT i hi; omega)
 replace hM := LogE.keep hM K23 (fun i hi hs => by have hs : i = r := hs; have := hrT i hi; omega)
 refine ⟨K23, ?_⟩
 refine Dr.strong (S' := (fun wz => Keeps (fun i => i = r) w21 wz)) ((Keeps.refl w21).mono (fun _ _ h => h.elim)) (fun wz hx => K23.trans hx (fun i _ h => by have h : i = r := h; show i = r; omega) (fun _ _ h => h)) ?_
 clear K23
 refine Dr.takes (fuel' := 1) (is' := [21, 20, 19, 18, 17, 16, 15, 14, 13, 12, 11, 10, 9, 8, 7, 6, 5, 4, 3, 2, 1, 0]) [20, 21] [(1, (ptr b1)), (31, (Value.pointer (some ⟨r, 9, none⟩)))] (by kernel_rfl) rfl (by kernel_rfl) ?_
 refine Dr.put (i := 22) (t := 3) (b := r) (off := 9) (v := (i64 0)) (ys := [(i64 (term + 1)), (i64 0), (i64 1), (i64 (-1)), (i64 commit), (i64 group), (i64 0), (i64 1), (ptr g), (i64 0), (i64 timeout), (Value.slice none 0 0), vv, pv, (Value.pointer none), (Value.pointer none), (Value.bool false), (Value.slice none 0 0)]) (by kernel_rfl) (by kernel_rfl) (by kernel_rfl) H22 (by kernel_rfl) (d := none) (by kernel_rfl) rfl (fun w24 H25 K26 => ?_)
 clear H22
 replace K0 := K0.trans K26 (U := (fun i => i = r ∨ i = g ∨ ((Value.slice A l.length c)).ownBlock = some i)) (fun i h1 h2 => h2) (fun i h1 h2 => by have h2 : i = r := h2; exact .inl h2)
 replace H0 := H0.keep K26 (by intro h; change g = r at h; omega)
 replace H4 := H4.keep K26 (by intro h; change b1 = r at h; omega)
 replace hE := Ents.keep hE K26 (fun i hi hs => by have hs : i = r := hs; have := hrT i hi; omega)
 replace hM := LogE.keep hM K26 (fun i hi hs => by have hs : i = r := hs; have := hrT i hi; omega)
 refine ⟨K26, ?_⟩
 refine Dr.strong (S' := (fun wz => Keeps (fun i => i = r) w24 wz)) ((Keeps.refl w24).mono (fun _ _ h => h.elim)) (fun wz hx => K26.trans hx (fun i _ h => by have h : i = r := h; show i = r; omega) (fun _ _ h => h)) ?_
 clear K26
 refine Dr.done (by kernel_rfl) ?_
 refine qs ?_
 refine q_draw (fun wz => Keeps (fun i => i = r) w24 wz) 11 (by kernel_rfl) (by kernel_rfl) (by kernel_rfl) (fun w27 K28 _ _ => ⟨(K28.mono (fun _ _ h => h.elim)), ?_⟩)
 replace K0 := K0.trans K28 (U := (fun i => i = r ∨ i = g ∨ ((Value.slice A l.length c)).ownBlock = some i)) (fun i h1 h2 => h2) (fun i h1 h2 => by exact h2.elim)
 replace H0 := H0.keep K28 (fun h => h)
 replace H25 := H25.keep K28 (fun h => h)
 replace H4 := H4.keep K28 (fun h => h)
 replace hE := Ents.keep0 hE K28
 replace hM := LogE.keep0 hM K28
 refine Dr.strong (S' := (fun wz => Keeps (fun i => i = r) w27 wz)) ((Keeps.refl w27).mono (fun _ _ h => h.elim)) (fun wz hx => K28.trans hx (fun i _ h => h.elim) (fun _ _ h => h)) ?_
 clear K28
 refine Dr.take (i := 0) (v := (ptr r)) (by kernel_rfl) (by kernel_rfl) (fun wz hS => Runs.load (t := 29) (a := ⟨b1, 0, none⟩) (by kernel_rfl) ((H4.keep hS (by intro h; change b1 = r at h; omega)).loads (by kernel_rfl))) (d := (some 32)) (by kernel_rfl) rfl ?_
 refine Dr.take (i := 2) (v := (ptr r)) (by kernel_rfl) (by kernel_rfl) (fun wz hS => Runs.load (t := 29) (a := ⟨b1, 0, none⟩) (by kernel_rfl) ((H4.keep hS (by intro h; change b1 = r at h; omega)).loads (by kernel_rfl))) (d := (some 34)) (by kernel_rfl) rfl ?_
 refine Dr.takes (fuel' := 7) (is' := [4, 3, 2, 0]) [3, 4] [(1, (ptr b1)), (32, (ptr r)), (36, (Value.pointer (some ⟨r, 6, none⟩)))] (by kernel_rfl) rfl (by kernel_rfl) ?_
 refine Dr.float [(1, (ptr b1)), (32, (ptr r)), (37, (i64 0))] 5 ?_
 obtain ⟨mb29, w30, hr31, K32, hb33, H34⟩ := HasMap.made Try.prog w27 80 kint (vbool)
 refine DrB.run (i := 5) (j := 1) (t := 3) (a := ⟨r, 6, none⟩) (v := (i64 0)) (u := (Value.map (some mb29))) (w2 := w30) (by kernel_rfl) (.inr rfl) (by kernel_rfl) (by kernel_rfl) (by kernel_rfl) (by kernel_rfl) (di := (some 37)) (by kernel_rfl) (by kernel_rfl) (by kernel_rfl) (by kernel_rfl) (Runs.of_makeMap (by kernel_rfl) hr31) (Runs.of_makeMap (by kernel_rfl) hr31) (dj := (some 33)) (by kernel_rfl) rfl rfl (H25.loads (by kernel_rfl)) ((Keeps.refl _).mono (fun _ _ h => h.elim)) ?_
 have lmb29g : g < mb29 := by have := H0.lt; omega
 have lmb29r : r < mb29 := by have := H25.lt; omega
 have lmb29b1 : b1 < mb29 := by have := H4.lt; omega
 have nmb29 : w.heap.size ≤ mb29 := by have := K0.size; omega
 have ot35 : ∀ i, T i → i ≠ mb29 := fun i hi => by have := hM.ents.lt i hi; omega
 have ot36 : ∀ i, ((Value.slice A l.length c)).ownBlock = some i → i ≠ mb29 := fun i hi => ot35 i (hM.ownT i hi)
 replace K0 := K0.trans K32 (U := (fun i => i = r ∨ i = g ∨ ((Value.slice A l.length c)).ownBlock = some i)) (fun i h1 h2 => h2) (fun i h1 h2 => by exact h2.elim)
 replace H0 := H0.keep K32 (fun h => h)
 replace H25 := H25.keep K32 (fun h => h)
 replace H4 := H4.keep K32 (fun h => h)
 replace hE := Ents.keep0 hE K32
 replace hM := LogE.keep0 hM K32
 refine ⟨(K32.mono (fun _ _ h => h.elim)), ?_⟩
 refine DrB.strong (S' := (fun wz => Keeps (fun i => i = r ∨ i = mb29) w30 wz)) ((Keeps.refl w30).mono (fun _ _ h => h.elim)) (fun wz hx => K32.trans hx (U := (fun i => i = r)) (fun i _ h => h.elim) (fun i hi h => by have h : i = r ∨ i = mb29 := h; show i = r; omega)) ?_
 clear K32 hr31
 refine DrB.end_ (t := 3) (a := ⟨r, 6, none⟩) (v := (i64 0)) (R := [(1, (ptr b1)), (32, (ptr r)), (33, (Value.map (some mb29))), (37, (i64 0))]) (by kernel_rfl) (by kernel_rfl) (by kernel_rfl) (di := (some 37)) (by kernel_rfl) (by kernel_rfl) (by kernel_rfl) (H25.loads (by kernel_rfl)) ((Keeps.refl _).mono (fun _ _ h => h.elim)) ?_
 obtain ⟨w37, hr38, K39, H40⟩ := HasMap.update KTI Try.underlying80 H34 0 true
 refine Dr.goU (i := 6) (by kernel_rfl) (by kernel_rfl) (RunsU.of_update (by kernel_rfl) hr38) (d := none) (by kernel_rfl) rfl (K39.mono (fun i _ h => by have h : i = mb29 := h; show i = r ∨ i = mb29; omega)) ?_
 clear H34
 replace K0 := K0.trans K39 (U := (fun i => i = r ∨ i = g ∨ ((Value.slice A l.length c)).ownBlock = some i)) (fun i h1 h2 => h2) (fun i h1 h2 => by have h2 : i = mb29 := h2; exfalso; omega)
 replace H0 := H0.keep K39 (by intro h; change g = mb29 at h; omega)
 replace H25 := H25.keep K39 (by intro h; change r = mb29 at h; omega)
 replace H4 := H4.keep K39 (by intro h; change b1 = mb29 at h; omega)
 replace hE := Ents.keep hE K39 (fun i hi hs => by have hs : i = mb29 := hs; have := ot35 i hi; omega)
 replace hM := LogE.keep hM K39 (fun i hi hs => by have hs : i = mb29 := hs; have := ot35 i hi; omega)
 refine Dr.strong (S' := (fun wz => Keeps (fun i => i = r ∨ i = mb29) w37 wz)) ((Keeps.refl w37).mono (fun _ _ h => h.elim)) (fun wz hx => K39.trans hx (fun i _ h => by have h : i = mb29 := h; show i = r ∨ i = mb29; omega) (fun _ _ h => h)) ?_
 clear K39 hr38
 refine Dr.takes (fuel' := 1) (is' := [9, 8, 7, 6, 5, 1, 4, 3, 2, 0]) [7, 8, 9] [(1, (ptr b1)), (38, (Value.map (some mb29))), (40, (Value.pointer (some ⟨r, 12, none⟩)))] (by kernel_rfl) rfl (by kernel_rfl) ?_
 refine Dr.put (i := 10) (t := 80) (b := r) (off := 12) (v := (Value.map (some mb29))) (ys := [(i64 (term + 1)), (i64 0), (i64 1), (i64 (-1)), (i64 commit), (i64 group), (i64 0), (i64 1), (ptr g), (i64 0), (i64 timeout), (Value.slice none 0 0), (Value.map (some mb29)), pv, (Value.pointer none), (Value.pointer none), (Value.bool false), (Value.slice none 0 0)]) (by kernel_rfl) (by kernel_rfl) (by kernel_rfl) H25 (by kernel_rfl) (d := none) (by kernel_rfl) rfl (fun w41 H42 K43 => ?_)
 clear H25
 replace K0 := K0.trans K43 (U := (fun i => i = r ∨ i = g ∨ ((Value.slice A l.length c)).ownBlock = some i)) (fun i h1 h2 => h2) (fun i h1 h2 => by have h2 : i = r := h2; exact .inl h2)
 replace H0 := H0.keep K43 (by intro h; change g = r at h; omega)
 replace H4 := H4.keep K43 (by intro h; change b1 = r at h; omega)
 replace H40 := H40.keep K43 (by intro h; change mb29 = r at h; omega)
 replace hE := Ents.keep hE K43 (fun i hi hs => by have hs : i = r := hs; have := hrT i hi; omega)
 replace hM := LogE.keep hM K43 (fun i hi hs => by have hs : i = r := hs; have := hrT i hi; omega)
 refine ⟨(K43.mono (fun i _ h => by have h : i = r := h; show i = r ∨ i = mb29; omega)), ?_⟩
 refine Dr.strong (S' := (fun wz => Keeps (fun i => i = r ∨ i = mb29) w41 wz)) ((Keeps.refl w41).mono (fun _ _ h => h.elim)) (fun wz hx => K43.trans hx (fun i _ h => by have h : i = r := h; show i = r ∨ i = mb29; omega) (fun _ _ h => h)) ?_
 clear K43
 refine Dr.done (by kernel_rfl) ?_
 refine qs ?_
 refine qg ?_
 refine Ops.go (v := (ptr r)) (by kernel_rfl) (Runs.load (t := 29) (a := ⟨b1, 0, none⟩) (by kernel_rfl) (H4.loads (by kernel_rfl))) (d := (some 41)) (by kernel_rfl) rfl ?_
 refine Ops.call (by kernel_rfl) (d := (some 42)) (by kernel_rfl) (wait_calls _ r g (term + 1) 0 1 (-1) commit group 0 timeout (Value.map (some mb29)) pv H42) ?_
 rintro _ w45 ⟨rfl, K44, H46⟩
 refine ⟨_, _, rfl, rfl, ?_⟩
 replace K0 := K0.trans K44 (U := (fun i => i = r ∨ i = g ∨ ((Value.slice A l.length c)).ownBlock = some i)) (fun i h1 h2 => h2) (fun i h1 h2 => by have h2 : i = r := h2; exact .inl h2)
 replace H0 := H0.keep K44 (by intro h; change g = r at h; omega)
 replace H4 := H4.keep K44 (by intro h; change b1 = r at h; omega)
 replace H40 := H40.keep K44 (by intro h; change mb29 = r at h; omega)
 replace hE := Ents.keep hE K44 (fun i hi hs => by have hs : i = r := hs; have := hrT i hi; omega)
 replace hM := LogE.keep hM K44 (fun i hi hs => by have hs : i = r := hs; have := hrT i hi; omega)
 clear K44
 refine od ?_
 refine qs ?_
 refine qs ?_
 refine qg ?_
 refine Ops.go (v := (ptr r)) (by kernel_rfl) (Runs.load (t := 29) (a := ⟨b1, 0, none⟩) (by kernel_rfl) (H4.loads (by kernel_rfl))) (d := (some 43)) (by kernel_rfl) rfl ?_
 refine Ops.call (by kernel_rfl) (d := (some 44)) (by kernel_rfl) (majority_calls _ r g (term + 1) 0 1 (-1) commit group 0 10 (Value.map (some mb29)) pv H46) ?_
 rintro _ w48 ⟨rfl, K47⟩
 refine ⟨_, _, rfl, rfl, ?_⟩
 replace K0 := K0.trans K47 (U := (fun i => i = r ∨ i = g ∨ ((Value.slice A l.length c)).ownBlock = some i)) (fun i h1 h2 => h2) (fun i h1 h2 => by exact h2.elim)
 replace H0 := H0.keep K47 (fun h => h)
 replace H46 := H46.keep K47 (fun h => h)
 replace H4 := H4.keep K47 (fun h => h)
 replace H40 := H40.keep K47 (fun h => h)
 replace hE := Ents.keep0 hE K47
 replace hM := LogE.keep0 hM K47
 clear K47
 refine od ?_
 refine q_then (o := .tmp 44) (by kernel_rfl) rfl ?_
 refine qs ?_
 refine qg ?_
 refine Ops.go (v := (ptr r)) (by kernel_rfl) (Runs.load (t := 29) (a := ⟨b1, 0, none⟩) (by kernel_rfl) (H4.loads (by kernel_rfl))) (d := (some 45)) (by kernel_rfl) rfl ?_
 have hz00 := K0.size
 refine Ops.call (by kernel_rfl) (d := (some 46)) (by kernel_rfl) (lead_calls _ r g (term + 1) 0 1 (-1) commit group 0 10 (Value.map (some mb29)) pv T bs base old A c l H46 H0 hM hT (by omega) (by omega) (by omega) hrT (Nat.le_trans hbs K0.size) hBig hq (by omega)) ?_
 rintro _ w53 ⟨l49, A50, c51, T52, PA61, pc62, rfl, K54, H55, H56, hM57, hK59, hT60⟩
 have hE58 := hM57.ents
 have ot63 : ∀ i, T52 i → i ≠ g := fun i hi => (hT60 i hi).1
 have ot64 : ∀ i, ((Value.slice A50 l49.length c51)).ownBlock = some i → i ≠ g := fun i hi => ot63 i (hM57.ownT i hi)
 have ot65 : ∀ i, T52 i → i ≠ r := fun i hi => (hT60 i hi).2.1
 have ot66 : ∀ i, ((Value.slice A50 l49.length c51)).ownBlock = some i → i ≠ r := fun i hi => ot65 i (hM57.ownT i hi)
 have ot67 : ∀ i, T52 i → i ≠ b1 := fun i hi => by rcases (hT60 i hi).2.2 with h | h; (exact ot7 i h); (have := H4.lt; omega)
 have ot68 : ∀ i, ((Value.slice A50 l49.length c51)).ownBlock = some i → i ≠ b1 := fun i hi => ot67 i (hM57.ownT i hi)
 have ot69 : ∀ i, T52 i → i ≠ mb29 := fun i hi => by rcases (hT60 i hi).2.2 with h | h; (exact ot35 i h); (have := H40.lt; omega)
 have ot70 : ∀ i, ((Value.slice A50 l49.length c51)).ownBlock = some i → i ≠ mb29 := fun i hi => ot69 i (hM57.ownT i hi)
 have hn71 : l49.length = l.length + 1 := by have q := congrArg List.length hK59; simpa using q
 refine ⟨_, _, rfl, rfl, ?_⟩
 replace K0 := K0.trans K54 (U := (fun i => i = r ∨ i = g ∨ ((Value.slice A l.length c)).ownBlock = some i)) (fun i h1 h2 => h2) (fun i h1 h2 => by have h2 : i = r ∨ i = g ∨ ((Value.slice A l.length c)).ownBlock = some i := h2; rcases h2 with h2 | h2 | h2; (exact .inl h2); (exact .inr (.inl h2)); (exact .inr (.inr (h2))))
 replace H4 := H4.keep K54 (by intro h; change b1 = r ∨ b1 = g ∨ ((Value.slice A l.length c)).ownBlock = some b1 at h; rcases h with h | h | h; (omega); (omega); (have := ot8 b1 h; omega))
 replace H40 := H40.keep K54 (by intro h; change mb29 = r ∨ mb29 = g ∨ ((Value.slice A l.length c)).ownBlock = some mb29 at h; rcases h with h | h | h; (omega); (omega); (have := ot36 mb29 h; omega))
 clear hE
 clear hM
 clear K54
 have hbigl49 : BigK (l49.map EntP.key) := by rw [hK59]; exact BigK.app hBig (fun y hy => by rw [List.mem_singleton] at hy; subst hy; exact Nat.zero_le _)
 refine od ?_
 refine q_ret (by kernel_rfl) ?_
 refine ⟨(Value.tuple #[]), retv_none rfl, ?_⟩
 exact ⟨l49, A50, c51, T52, PA61, pc62, mb29, rfl, K0, H55, H56, hM57, hK59, fun i hi => ⟨ot63 i hi, ot65 i hi, by rcases (hT60 i hi).2.2 with h | h; (exact .inl h); (exact .inr (by have := hz00; omega))⟩⟩
end Go.Proofs.Ytnmpepjikfbpdaa
namespace Go.Proofs.Ytnmpepjikfbpdaa
open Go.Q Go.RowKit

theorem Tick_wait (w : World) (r g : Nat) (term voted role leader commit group elapsed timeout : Int) (vv pv : Value) (Hr : Has w r (rowL [(i64 term), (i64 voted), (i64 role), (i64 leader), (i64 commit), (i64 group), (i64 0), (i64 1), (ptr g), (i64 elapsed), (i64 timeout), (Value.slice none 0 0), vv, pv, (Value.pointer none), (Value.pointer none), (Value.bool false), (Value.slice none 0 0)] 84)) (hrole : role ≠ 2) (hel : 0 ≤ elapsed ∧ elapsed ≤ 1000) (he : elapsed + 1 < timeout) : Calls Try.prog 13 ⟨[(ptr r)]⟩ w (fun e w' => e = .returned (.slice none 0 0) ∧ Keeps (fun i => i = r) w w' ∧ Has w' r (rowL [(i64 term), (i64 voted), (i64 role), (i64 leader), (i64 commit), (i64 group), (i64 0), (i64 1), (ptr g), (i64 (elapsed + 1)), (i64 timeout), (Value.slice none 0 0), vv, pv, (Value.pointer none), (Value.pointer none), (Value.bool false), (Value.slice none 0 0)] 84)) := by
 have Hrl := Hr.lt
 have K0 : Keeps (fun i => i = r) w w := (Keeps.refl w).mono (fun _ _ h => h.elim)
 refine q_calls Try.func13 (by kernel_rfl) (by kernel_rfl) ?_
 refine qs ?_
 refine qg ?_
 refine og 1 [(0, (ptr r)), (2, (Value.slice none 0 0))] 1 ?_
 refine od ?_
 refine qs ?_
 refine qs ?_
 refine qg ?_
 refine og 2 [(0, (ptr r)), (2, (Value.slice none 0 0)), (4, (Value.bool false))] 2 ?_
 refine od ?_
 refine q_else (o := .tmp 4) (by kernel_rfl) rfl ?_
 refine q_skip (by kernel_rfl) ?_
 refine qs ?_
 refine qs ?_
 refine qg ?_
 refine og 4 [(0, (ptr r)), (2, (Value.slice none 0 0)), (8, (Value.pointer (some ⟨r, 2, none⟩)))] 4 ?_
 refine Ops.go (v := (i64 role)) (by kernel_rfl) (Runs.load (t := 3) (a := ⟨r, 2, none⟩) (by kernel_rfl) (Hr.loads (by kernel_rfl))) (d := (some 9)) (by kernel_rfl) rfl ?_
 refine og 1 [(0, (ptr r)), (2, (Value.slice none 0 0)), (10, (Value.bool (role == 2)))] 6 ?_
 refine od ?_
 have h1 : (role == 2) = false := beq_eq_false_iff_ne.2 hrole
 rw [h1]
 refine q_else (o := .tmp 10) (by kernel_rfl) rfl ?_
 refine q_skip (by kernel_rfl) ?_
 refine qs ?_
 refine qs ?_
 refine qg ?_
 refine og 3 [(0, (ptr r)), (2, (Value.slice none 0 0)), (17, (ptr r)), (19, (Value.pointer (some ⟨r, 9, none⟩)))] 3 ?_
 refine Ops.go (v := (i64 elapsed)) (by kernel_rfl) (Runs.load (t := 3) (a := ⟨r, 9, none⟩) (by kernel_rfl) (Hr.loads (by kernel_rfl))) (d := (some 20)) (by kernel_rfl) rfl ?_
 refine og 1 [(0, (ptr r)), (2, (Value.slice none 0 0)), (17, (ptr r)), (21, (i64 (IntKind.i64.wrap (elapsed + 1))))] 5 ?_
 have e2 : IntKind.i64.wrap (elapsed + 1) = elapsed + 1 := wrap_i64 (by omega) (by omega)
 rw [e2]
 refine og 2 [(0, (ptr r)), (2, (Value.slice none 0 0)), (21, (i64 (elapsed + 1))), (23, (Value.pointer (some ⟨r, 9, none⟩)))] 7 ?_
 refine Ops.put (t := 3) (b := r) (off := 9) (v := (i64 (elapsed + 1))) (ys := [(i64 term), (i64 voted), (i64 role), (i64 leader), (i64 commit), (i64 group), (i64 0), (i64 1), (ptr g), (i64 (elapsed + 1)), (i64 timeout), (Value.slice none 0 0), vv, pv, (Value.pointer none), (Value.pointer none), (Value.bool false), (Value.slice none 0 0)]) (by kernel_rfl) (by kernel_rfl) Hr (by kernel_rfl) (d := none) (by kernel_rfl) rfl (fun w3 H4 K5 => ?_)
 clear Hr
 replace K0 := K0.trans K5 (U := (fun i => i = r)) (fun i h1 h2 => h2) (fun i h1 h2 => by have h2 : i = r := h2; show i = r; omega)
 clear K5
 refine od ?_
 refine qs ?_
 refine q_draw (fun wz => Keeps none_ w3 wz) 17 (by kernel_rfl) (by kernel_rfl) (by kernel_rfl) (fun w6 K7 _ _ => ⟨K7, ?_⟩)
 replace K0 := K0.trans K7 (U := (fun i => i = r)) (fun i h1 h2 => h2) (fun i h1 h2 => by exact h2.elim)
 replace H4 := H4.keep K7 (fun h => h)
 refine Dr.strong (S' := (fun wz => Keeps none_ w6 wz)) (Keeps.refl w6) (fun wz hx => K7.trans hx (fun i _ h => h) (fun _ _ h => h)) ?_
 clear K7
 refine Dr.takes (fuel' := 14) (is' := [2, 1, 0]) [0, 1, 2] [(0, (ptr r)), (2, (Value.slice none 0 0)), (26, (Value.pointer (some ⟨r, 9, none⟩)))] (by kernel_rfl) rfl (by kernel_rfl) ?_
 refine Dr.take (i := 3) (v := (i64 (elapsed + 1))) (by kernel_rfl) (by kernel_rfl) (fun wz hS => Runs.load (t := 3) (a := ⟨r, 9, none⟩) (by kernel_rfl) ((H4.keep hS (fun h => h)).loads (by kernel_rfl))) (d := (some 27)) (by kernel_rfl) rfl ?_
 refine Dr.takes (fuel' := 10) (is' := [6, 5, 4, 3, 2, 1, 0]) [4, 5, 6] [(0, (ptr r)), (2, (Value.slice none 0 0)), (27, (i64 (elapsed + 1))), (30, (Value.pointer (some ⟨r, 10, none⟩)))] (by kernel_rfl) rfl (by kernel_rfl) ?_
 refine Dr.take (i := 7) (v := (i64 timeout)) (by kernel_rfl) (by kernel_rfl) (fun wz hS => Runs.load (t := 3) (a := ⟨r, 10, none⟩) (by kernel_rfl) ((H4.keep hS (fun h => h)).loads (by kernel_rfl))) (d := (some 31)) (by kernel_rfl) rfl ?_
 refine Dr.takes (fuel' := 7) (is' := [9, 8, 7, 6, 5, 4, 3, 2, 1, 0]) [8, 9] [(0, (ptr r)), (2, (Value.slice none 0 0)), (33, (Value.bool (decide (elapsed + 1 ≥ timeout))))] (by kernel_rfl) rfl (by kernel_rfl) ?_
 have h8 : (decide (elapsed + 1 ≥ timeout)) = false := decide_eq_false (by omega)
 rw [h8]
 refine Dr.takes (fuel' := 0) (is' := [16, 15, 14, 13, 12, 11, 10, 9, 8, 7, 6, 5, 4, 3, 2, 1, 0]) [10, 11, 12, 13, 14, 15, 16] [(0, (ptr r)), (2, (Value.slice none 0 0)), (40, (Value.bool false))] (by kernel_rfl) rfl (by kernel_rfl) ?_
 refine Dr.done (by kernel_rfl) ?_
 refine q_else (o := .tmp 40) (by kernel_rfl) rfl ?_
 refine q_skip (by kernel_rfl) ?_
 refine qs ?_
 refine qg ?_
 refine og 1 [(2, (Value.slice none 0 0)), (43, (ptr r))] 1 ?_
 refine Ops.call (by kernel_rfl) (d := (some 44)) (by kernel_rfl) (flush_calls _ r g term voted role leader commit group (elapsed + 1) timeout vv pv H4) ?_
 rintro _ w10 ⟨rfl, K9, H11⟩
 refine ⟨_, _, rfl, rfl, ?_⟩
 replace K0 := K0.trans K9 (U := (fun i => i = r)) (fun i h1 h2 => h2) (fun i h1 h2 => by have h2 : i = r := h2; show i = r; omega)
 clear K9
 refine og 1 [(2, (Value.slice none 0 0))] 3 ?_
 refine od ?_
 refine q_ret (by kernel_rfl) ?_
 refine ⟨(Value.slice none 0 0), retv_tmp rfl rfl, ?_⟩
 exact ⟨rfl, K0, H11⟩

set_option maxHeartbeats 2000000 in
theorem Tick_lead (w : World) (r g : Nat) (term voted role leader commit group elapsed timeout : Int) (vv pv : Value) (T : Nat → Prop) (bs : Nat) (base old : Int) (A : Option Addr) (c : Nat) (l : List EntP) (Hr : Has w r (rowL [(i64 term), (i64 voted), (i64 role), (i64 leader), (i64 commit), (i64 group), (i64 0), (i64 1), (ptr g), (i64 elapsed), (i64 timeout), (Value.slice none 0 0), vv, pv, (Value.pointer none), (Value.pointer none), (Value.bool false), (Value.slice none 0 0)] 84)) (H0 : Has w g (rowL [i64 base, i64 old, .slice A l.length c] 78)) (hM : LogE w bs 43 T (.slice A l.length c) l) (hT : ∀ i, T i → i ≠ g) (hB : 0 ≤ base ∧ base ≤ 2305843009213693952) (hL : l.length ≤ 4096) (hrg : r ≠ g) (hrT : ∀ i, T i → i ≠ r) (hbs : bs ≤ w.heap.size) (hBig : BigK (l.map EntP.key)) (hrole : role ≠ 2) (hel : 0 ≤ elapsed ∧ elapsed ≤ 1000) (he : timeout ≤ elapsed + 1) (hq : appE base old (l.map EntP.key) [(term + 1, [])] = 0) (hl1 : l.length + 1 ≤ 4096) (ht : 0 ≤ term ∧ term < 1152921504606846976) : Calls Try.prog 13 ⟨[(ptr r)]⟩ w (fun e w' => ∃ l' A' c' T' PA pc mb, e = .returned (.slice none 0 0) ∧ Keeps (fun i => i = r ∨ i = g ∨ ((Value.slice A l.length c)).ownBlock = some i) w w' ∧ Has w' r (rowL [(i64 (term + 1)), (i64 0), (i64 2), (i64 0), (i64 (agC base old (term + 1) commit ((l.map EntP.key) ++ [(term + 1, [])]))), (i64 group), (i64 0), (i64 1), (ptr g), (i64 0), (i64 10), (Value.slice none 0 0), (Value.map (some mb)), (Value.slice PA 1 pc), (Value.pointer none), (Value.pointer none), (Value.bool false), (Value.slice none 0 0)] 84) ∧ Has w' g (rowL [i64 base, i64 old, .slice A' l'.length c'] 78) ∧ LogE w' bs 43 T' (.slice A' l'.length c') l' ∧ l'.map EntP.key = ((l.map EntP.key) ++ [(term + 1, [])]) ∧ ∀ i, T' i → i ≠ g ∧ i ≠ r ∧ (T i ∨ w.heap.size ≤ i)) := by
 have hE := hM.ents
 have hvr : ∀ i, ((Value.slice A l.length c)).ownBlock = some i → i ≠ r := fun i hi => hrT i (hM.ownT i hi)
 have hvg : ∀ i, ((Value.slice A l.length c)).ownBlock = some i → i ≠ g := fun i hi => hT i (hM.ownT i hi)
 have hcap := Ents.len hE
 have Hg := H0.lt
 have Hrl := Hr.lt
 have K0 : Keeps (fun i => i = r ∨ i = g ∨ ((Value.slice A l.length c)).ownBlock = some i) w w := (Keeps.refl w).mono (fun _ _ h => h.elim)
 refine q_calls Try.func13 (by kernel_rfl) (by kernel_rfl) ?_
 refine qs ?_
 refine qg ?_
 refine og 1 [(0, (ptr r)), (2, (Value.slice none 0 0))] 1 ?_
 refine od ?_
 refine qs ?_
 refine qs ?_
 refine qg ?_
 refine og 2 [(0, (ptr r)), (2, (Value.slice none 0 0)), (4, (Value.bool false))] 2 ?_
 refine od ?_
 refine q_else (o := .tmp 4) (by kernel_rfl) rfl ?_
 refine q_skip (by kernel_rfl) ?_
 refine qs ?_
 refine qs ?_
 refine qg ?_
 refine og 4 [(0, (ptr r)), (2, (Value.slice none 0 0)), (8, (Value.pointer (some ⟨r, 2, none⟩)))] 4 ?_
 refine Ops.go (v := (i64 role)) (by kernel_rfl) (Runs.load (t := 3) (a := ⟨r, 2, none⟩) (by kernel_rfl) (Hr.loads (by kernel_rfl))) (d := (some 9)) (by kernel_rfl) rfl ?_
 refine og 1 [(0, (ptr r)), (2, (Value.slice none 0 0)), (10, (Value.bool (role == 2)))] 6 ?_
 refine od ?_
 have h1 : (role == 2) = false := beq_eq_false_iff_ne.2 hrole
 rw [h1]
 refine q_else (o := .tmp 10) (by kernel_rfl) rfl ?_
 refine q_skip (by kernel_rfl) ?_
 refine qs ?_
 refine qs ?_
 refine qg ?_
 refine og 3 [(0, (ptr r)), (2, (Value.slice none 0 0)), (17, (ptr r)), (19, (Value.pointer (some ⟨r, 9, none⟩)))] 3 ?_
 refine Ops.go (v := (i64 elapsed)) (by kernel_rfl) (Runs.load (t := 3) (a := ⟨r, 9, none⟩) (by kernel_rfl) (Hr.loads (by kernel_rfl))) (d := (some 20)) (by kernel_rfl) rfl ?_
 refine og 1 [(0, (ptr r)), (2, (Value.slice none 0 0)), (17, (ptr r)), (21, (i64 (IntKind.i64.wrap (elapsed + 1))))] 5 ?_
 have e2 : IntKind.i64.wrap (elapsed + 1) = elapsed + 1 := wrap_i64 (by omega) (by omega)
 rw [e2]
 refine og 2 [(0, (ptr r)), (2, (Value.slice none 0 0)), (21, (i64 (elapsed + 1))), (23, (Value.pointer (some ⟨r, 9, none⟩)))] 7 ?_
 refine Ops.put (t := 3) (b := r) (off := 9) (v := (i64 (elapsed + 1))) (ys := [(i64 term), (i64 voted), (i64 role), (i64 leader), (i64 commit), (i64 group), (i64 0), (i64 1), (ptr g), (i64 (elapsed + 1)), (i64 timeout), (Value.slice none 0 0), vv, pv, (Value.pointer none), (Value.pointer none), (Value.bool false), (Value.slice none 0 0)]) (by kernel_rfl) (by kernel_rfl) Hr (by kernel_rfl) (d := none) (by kernel_rfl) rfl (fun w3 H4 K5 => ?_)
 clear Hr
 replace K0 := K0.trans K5 (U := (fun i => i = r ∨ i = g ∨ ((Value.slice A l.length c)).ownBlock = some i)) (fun i h1 h2 => h2) (fun i h1 h2 => by have h2 : i = r := h2; exact .inl h2)
 replace H0 := H0.keep K5 (by intro h; change g = r at h; omega)
 replace hE := Ents.keep hE K5 (fun i hi hs => by have hs : i = r := hs; have := hrT i hi; omega)
 replace hM := LogE.keep hM K5 (fun i hi hs => by have hs : i = r := hs; have := hrT i hi; omega)
 clear K5
 refine od ?_
 refine qs ?_
 refine q_draw (fun wz => Keeps none_ w3 wz) 17 (by kernel_rfl) (by kernel_rfl) (by kernel_rfl) (fun w6 K7 _ _ => ⟨K7, ?_⟩)
 replace K0 := K0.trans K7 (U := (fun i => i = r ∨ i = g ∨ ((Value.slice A l.length c)).ownBlock = some i)) (fun i h1 h2 => h2) (fun i h1 h2 => by exact h2.elim)
 replace H0 := H0.keep K7 (fun h => h)
 replace H4 := H4.keep K7 (fun h => h)
 replace hE := Ents.keep0 hE K7
 replace hM := LogE.keep0 hM K7
 refine Dr.strong (S' := (fun wz => Keeps none_ w6 wz)) (Keeps.refl w6) (fun wz hx => K7.trans hx (fun i _ h => h) (fun _ _ h => h)) ?_
 clear K7
 refine Dr.takes (fuel' := 14) (is' := [2, 1, 0]) [0, 1, 2] [(0, (ptr r)), (2, (Value.slice none 0 0)), (26, (Value.pointer (some ⟨r, 9, none⟩)))] (by kernel_rfl) rfl (by kernel_rfl) ?_
 refine Dr.take (i := 3) (v := (i64 (elapsed + 1))) (by kernel_rfl) (by kernel_rfl) (fun wz hS => Runs.load (t := 3) (a := ⟨r, 9, none⟩) (by kernel_rfl) ((H4.keep hS (fun h => h)).loads (by kernel_rfl))) (d := (some 27)) (by kernel_rfl) rfl ?_
 refine Dr.takes (fuel' := 10) (is' := [6, 5, 4, 3, 2, 1, 0]) [4, 5, 6] [(0, (ptr r)), (2, (Value.slice none 0 0)), (27, (i64 (elapsed + 1))), (30, (Value.pointer (some ⟨r, 10, none⟩)))] (by kernel_rfl) rfl (by kernel_rfl) ?_
 refine Dr.take (i := 7) (v := (i64 timeout)) (by kernel_rfl) (by kernel_rfl) (fun wz hS => Runs.load (t := 3) (a := ⟨r, 10, none⟩) (by kernel_rfl) ((H4.keep hS (fun h => h)).loads (by kernel_rfl))) (d := (some 31)) (by kernel_rfl) rfl ?_
 refine Dr.takes (fuel' := 7) (is' := [9, 8, 7, 6, 5, 4, 3, 2, 1, 0]) [8, 9] [(0, (ptr r)), (2, (Value.slice none 0 0)), (33, (Value.bool (decide (elapsed + 1 ≥ timeout))))] (by kernel_rfl) rfl (by kernel_rfl) ?_
 have h8 : (decide (elapsed + 1 ≥ timeout)) = true := decide_eq_true (by omega)
 rw [h8]
 refine Dr.takes (fuel' := 3) (is' := [13, 12, 11, 10, 9, 8, 7, 6, 5, 4, 3, 2, 1, 0]) [10, 11, 12, 13] [(0, (ptr r)), (2, (Value.slice none 0 0)), (33, (Value.bool true)), (37, (ptr r))] (by kernel_rfl) rfl (by kernel_rfl) ?_
 refine Dr.take (i := 14) (v := (i64 term)) (by kernel_rfl) (by kernel_rfl) (fun wz hS => Runs.load (t := 2) (a := ⟨r, 0, none⟩) (by kernel_rfl) ((H4.keep hS (fun h => h)).loads (by kernel_rfl))) (d := (some 38)) (by kernel_rfl) rfl ?_
 refine Dr.takes (fuel' := 0) (is' := [16, 15, 14, 13, 12, 11, 10, 9, 8, 7, 6, 5, 4, 3, 2, 1, 0]) [15, 16] [(0, (ptr r)), (2, (Value.slice none 0 0)), (40, (Value.bool (decide (term < 1152921504606846976))))] (by kernel_rfl) rfl (by kernel_rfl) ?_
 refine Dr.done (by kernel_rfl) ?_
 have h9 : (decide (term < 1152921504606846976)) = true := decide_eq_true (by omega)
 rw [h9]
 refine q_then (o := .tmp 40) (by kernel_rfl) rfl ?_
 refine qg ?_
 refine og 1 [(0, (ptr r)), (2, (Value.slice none 0 0)), (41, (ptr r))] 1 ?_
 have hz00 := K0.size
 refine Ops.call (by kernel_rfl) (d := (some 42)) (by kernel_rfl) (elect_calls _ r g term voted role leader commit group (elapsed + 1) timeout vv pv T bs base old A c l H4 H0 hM hT (by omega) (by omega) (by omega) hrT (Nat.le_trans hbs K0.size) hBig hq (by omega) (by omega)) ?_
 rintro _ w14 ⟨l10, A11, c12, T13, PA22, pc23, mb24, rfl, K15, H16, H17, hM18, hK20, hT21⟩
 have hE19 := hM18.ents
 have ot25 : ∀ i, T13 i → i ≠ g := fun i hi => (hT21 i hi).1
 have ot26 : ∀ i, ((Value.slice A11 l10.length c12)).ownBlock = some i → i ≠ g := fun i hi => ot25 i (hM18.ownT i hi)
 have ot27 : ∀ i, T13 i → i ≠ r := fun i hi => (hT21 i hi).2.1
 have ot28 : ∀ i, ((Value.slice A11 l10.length c12)).ownBlock = some i → i ≠ r := fun i hi => ot27 i (hM18.ownT i hi)
 have hn29 : l10.length = l.length + 1 := by have q := congrArg List.length hK20; simpa using q
 refine ⟨_, _, rfl, rfl, ?_⟩
 replace K0 := K0.trans K15 (U := (fun i => i = r ∨ i = g ∨ ((Value.slice A l.length c)).ownBlock = some i)) (fun i h1 h2 => h2) (fun i h1 h2 => by have h2 : i = r ∨ i = g ∨ ((Value.slice A l.length c)).ownBlock = some i := h2; rcases h2 with h2 | h2 | h2; (exact .inl h2); (exact .inr (.inl h2)); (exact .inr (.inr (h2))))
 clear hE
 clear hM
 clear K15
 have hbigl10 : BigK (l10.map EntP.key) := by rw [hK20]; exact BigK.app hBig (fun y hy => by rw [List.mem_singleton] at hy; subst hy; exact Nat.zero_le _)
 refine od ?_
 refine qs ?_
 refine qg ?_
 refine og 1 [(2, (Value.slice none 0 0)), (43, (ptr r))] 1 ?_
 refine Ops.call (by kernel_rfl) (d := (some 44)) (by kernel_rfl) (flush_calls _ r g (term + 1) 0 2 0 (agC base old (term + 1) commit ((l.map EntP.key) ++ [((term + 1), [])])) group 0 10 (Value.map (some mb24)) (Value.slice PA22 1 pc23) H16) ?_
 rintro _ w31 ⟨rfl, K30, H32⟩
 refine ⟨_, _, rfl, rfl, ?_⟩
 replace K0 := K0.trans K30 (U := (fun i => i = r ∨ i = g ∨ ((Value.slice A l.length c)).ownBlock = some i)) (fun i h1 h2 => h2) (fun i h1 h2 => by have h2 : i = r := h2; exact .inl h2)
 replace H17 := H17.keep K30 (by intro h; change g = r at h; omega)
 replace hE19 := Ents.keep hE19 K30 (fun i hi hs => by have hs : i = r := hs; have := ot27 i hi; omega)
 replace hM18 := LogE.keep hM18 K30 (fun i hi hs => by have hs : i = r := hs; have := ot27 i hi; omega)
 clear K30
 refine og 1 [(2, (Value.slice none 0 0))] 3 ?_
 refine od ?_
 refine q_ret (by kernel_rfl) ?_
 refine ⟨(Value.slice none 0 0), retv_tmp rfl rfl, ?_⟩
 exact ⟨l10, A11, c12, T13, PA22, pc23, mb24, rfl, K0, H32, H17, hM18, hK20, fun i hi => ⟨ot25 i hi, ot27 i hi, by rcases (hT21 i hi).2.2 with h | h; (exact .inl h); (exact .inr (by have := hz00; omega))⟩⟩
end Go.Proofs.Ytnmpepjikfbpdaa
namespace Go.Proofs.Ytnmpepjikfbpdaa
open Go.Q Go.RowKit

set_option maxHeartbeats 2000000 in
theorem Propose_calls (w : World) (r g : Nat) (term voted role leader commit group elapsed timeout : Int) (vv pv : Value) (T : Nat → Prop) (bs : Nat) (base old : Int) (A : Option Addr) (c : Nat) (l : List EntP) (CA : Option Addr) (cc : Nat) (cmd : List UInt8) (Hr : Has w r (rowL [(i64 term), (i64 voted), (i64 role), (i64 leader), (i64 commit), (i64 group), (i64 0), (i64 1), (ptr g), (i64 elapsed), (i64 timeout), (Value.slice none 0 0), vv, pv, (Value.pointer none), (Value.pointer none), (Value.bool false), (Value.slice none 0 0)] 84)) (H0 : Has w g (rowL [i64 base, i64 old, .slice A l.length c] 78)) (hM : LogE w bs 43 T (.slice A l.length c) l) (hT : ∀ i, T i → i ≠ g) (hB : 0 ≤ base ∧ base ≤ 2305843009213693952) (hL : l.length ≤ 4096) (hrg : r ≠ g) (hrT : ∀ i, T i → i ≠ r) (hbs : bs ≤ w.heap.size) (hBig : BigK (l.map EntP.key)) (hrole : role = 2) (hC : RdB w (.slice CA cmd.length cc) cmd) (hcl : cmd.length ≤ 1900) (hCl : cmd ≠ [] → ∀ i, ((Value.slice CA cmd.length cc)).ownBlock = some i → i < w.heap.size) (hCg : cmd ≠ [] → ∀ i, ((Value.slice CA cmd.length cc)).ownBlock = some i → i ≠ g) (hCr : cmd ≠ [] → ∀ i, ((Value.slice CA cmd.length cc)).ownBlock = some i → i ≠ r) (hCo : cmd ≠ [] → ∀ i, ((Value.slice CA cmd.length cc)).ownBlock = some i → ((Value.slice A l.length c)).ownBlock = some i → False) (hq : appE base old (l.map EntP.key) [(term, cmd)] = 0) (hl1 : l.length + 1 ≤ 4096) : Calls Try.prog 15 ⟨[(ptr r), (Value.slice CA cmd.length cc)]⟩ w (fun e w' => ∃ l' A' c' T', e = .returned (.tuple #[i64 (base + ((l'.length : Nat) : Int)), .slice none 0 0, i64 0]) ∧ Keeps (fun i => i = r ∨ i = g ∨ ((Value.slice A l.length c)).ownBlock = some i) w w' ∧ Has w' r (rowL [(i64 term), (i64 voted), (i64 role), (i64 leader), (i64 (agC base old term commit ((l.map EntP.key) ++ [(term, cmd)]))), (i64 group), (i64 0), (i64 1), (ptr g), (i64 elapsed), (i64 timeout), (Value.slice none 0 0), vv, pv, (Value.pointer none), (Value.pointer none), (Value.bool false), (Value.slice none 0 0)] 84) ∧ Has w' g (rowL [i64 base, i64 old, .slice A' l'.length c'] 78) ∧ LogE w' bs 43 T' (.slice A' l'.length c') l' ∧ l'.map EntP.key = ((l.map EntP.key) ++ [(term, cmd)]) ∧ ∀ i, T' i → i ≠ g ∧ i ≠ r ∧ (T i ∨ w.heap.size ≤ i)) := by
 have hE := hM.ents
 have hvr : ∀ i, ((Value.slice A l.length c)).ownBlock = some i → i ≠ r := fun i hi => hrT i (hM.ownT i hi)
 have hvg : ∀ i, ((Value.slice A l.length c)).ownBlock = some i → i ≠ g := fun i hi => hT i (hM.ownT i hi)
 have hcap := Ents.len hE
 have Hg := H0.lt
 have Hrl := Hr.lt
 have K0 : Keeps (fun i => i = r ∨ i = g ∨ ((Value.slice A l.length c)).ownBlock = some i) w w := (Keeps.refl w).mono (fun _ _ h => h.elim)
 refine q_calls Try.func15 (by kernel_rfl) (by kernel_rfl) ?_
 refine qs ?_
 refine qg ?_
 refine og 3 [(0, (ptr r)), (1, (Value.slice CA cmd.length cc)), (4, (i64 0)), (5, (Value.slice none 0 0)), (6, (i64 0))] 3 ?_
 refine od ?_
 refine qs ?_
 refine q_block (id := 0) (by kernel_rfl) ?_
 refine qs ?_
 refine qg ?_
 refine og 3 [(0, (ptr r)), (1, (Value.slice CA cmd.length cc)), (4, (i64 0)), (5, (Value.slice none 0 0)), (6, (i64 0)), (10, (Value.bool false))] 3 ?_
 refine od ?_
 refine q_else (o := .tmp 10) (by kernel_rfl) rfl ?_
 refine qs ?_
 refine qg ?_
 refine og 4 [(0, (ptr r)), (1, (Value.slice CA cmd.length cc)), (4, (i64 0)), (5, (Value.slice none 0 0)), (6, (i64 0)), (17, (Value.pointer (some ⟨r, 2, none⟩)))] 4 ?_
 refine Ops.go (v := (i64 role)) (by kernel_rfl) (Runs.load (t := 3) (a := ⟨r, 2, none⟩) (by kernel_rfl) (Hr.loads (by kernel_rfl))) (d := (some 18)) (by kernel_rfl) rfl ?_
 refine og 2 [(0, (ptr r)), (1, (Value.slice CA cmd.length cc)), (4, (i64 0)), (5, (Value.slice none 0 0)), (6, (i64 0)), (13, (Value.bool (role != 2)))] 7 ?_
 refine od ?_
 have h1 : (role != 2) = false := bne_f hrole
 rw [h1]
 refine q_else (o := .tmp 13) (by kernel_rfl) rfl ?_
 refine qs ?_
 refine qg ?_
 refine og 4 [(0, (ptr r)), (1, (Value.slice CA cmd.length cc)), (4, (i64 0)), (5, (Value.slice none 0 0)), (6, (i64 0)), (20, (Value.bool (decide (((cmd.length : Nat) : Int) > 1900))))] 4 ?_
 refine od ?_
 have h2 : (decide (((cmd.length : Nat) : Int) > 1900)) = false := decide_eq_false (by omega)
 rw [h2]
 refine q_else (o := .tmp 20) (by kernel_rfl) rfl ?_
 refine q_skip (by kernel_rfl) ?_
 refine qs ?_
 refine qs ?_
 refine q_draw (fun wz => Keeps (fun i => ((Value.slice A l.length c)).ownBlock = some i ∨ i = g) w wz) 14 (by kernel_rfl) (by kernel_rfl) (by kernel_rfl) (fun w3 K4 _ _ => ⟨(K4.mono (fun _ _ h => h.elim)), ?_⟩)
 replace K0 := K0.trans K4 (U := (fun i => i = r ∨ i = g ∨ ((Value.slice A l.length c)).ownBlock = some i)) (fun i h1 h2 => h2) (fun i h1 h2 => by exact h2.elim)
 replace H0 := H0.keep K4 (fun h => h)
 replace Hr := Hr.keep K4 (fun h => h)
 replace hE := Ents.keep0 hE K4
 replace hM := LogE.keep0 hM K4
 refine Dr.strong (S' := (fun wz => Keeps (fun i => ((Value.slice A l.length c)).ownBlock = some i ∨ i = g) w3 wz)) ((Keeps.refl w3).mono (fun _ _ h => h.elim)) (fun wz hx => K4.trans hx (fun i _ h => h.elim) (fun _ _ h => h)) ?_
 clear K4
 refine Dr.takes (fuel' := 11) (is' := [2, 1, 0]) [0, 1, 2] [(0, (ptr r)), (1, (Value.slice CA cmd.length cc)), (4, (i64 0)), (5, (Value.slice none 0 0)), (6, (i64 0)), (26, (Value.pointer (some ⟨r, 8, none⟩)))] (by kernel_rfl) rfl (by kernel_rfl) ?_
 refine Dr.take (i := 3) (v := (ptr g)) (by kernel_rfl) (by kernel_rfl) (fun wz hS => Runs.load (t := 24) (a := ⟨r, 8, none⟩) (by kernel_rfl) ((Hr.keep hS (by intro h; change ((Value.slice A l.length c)).ownBlock = some r ∨ r = g at h; rcases h with h | h; (have := hvr r h; omega); (omega))).loads (by kernel_rfl))) (d := (some 27)) (by kernel_rfl) rfl ?_
 refine Dr.takes (fuel' := 6) (is' := [7, 6, 5, 4, 3, 2, 1, 0]) [4, 5, 6, 7] [(0, (ptr r)), (1, (Value.slice CA cmd.length cc)), (4, (i64 0)), (5, (Value.slice none 0 0)), (6, (i64 0)), (27, (ptr g)), (31, (ptr r))] (by kernel_rfl) rfl (by kernel_rfl) ?_
 refine Dr.take (i := 8) (v := (i64 term)) (by kernel_rfl) (by kernel_rfl) (fun wz hS => Runs.load (t := 2) (a := ⟨r, 0, none⟩) (by kernel_rfl) ((Hr.keep hS (by intro h; change ((Value.slice A l.length c)).ownBlock = some r ∨ r = g at h; rcases h with h | h; (have := hvr r h; omega); (omega))).loads (by kernel_rfl))) (d := (some 32)) (by kernel_rfl) rfl ?_
 refine Dr.takes (fuel' := 3) (is' := [10, 9, 8, 7, 6, 5, 4, 3, 2, 1, 0]) [9, 10] [(0, (ptr r)), (4, (i64 0)), (5, (Value.slice none 0 0)), (6, (i64 0)), (27, (ptr g)), (34, (agg [(i64 term), (Value.slice CA cmd.length cc)]))] (by kernel_rfl) rfl (by kernel_rfl) ?_
 refine Dr.new (i := 11) (o := rowL [(i64 term), (Value.slice CA cmd.length cc)] 43) (V := fun b => (Value.slice (some ⟨b, 0, none⟩) 1 1)) (by kernel_rfl) (by kernel_rfl) (d := (some 35)) (by kernel_rfl) (fun b => rfl) (fun b5 w6 hb7 H8 K9 hs10 => ?_)
 have lb5g : g < b5 := by have := H0.lt; omega
 have lb5r : r < b5 := by have := Hr.lt; omega
 have nb5 : w.heap.size ≤ b5 := by have := K0.size; omega
 have ot11 : ∀ i, T i → i ≠ b5 := fun i hi => by have := Ents.lt hE i hi; omega
 have ot12 : ∀ i, ((Value.slice A l.length c)).ownBlock = some i → i ≠ b5 := fun i hi => ot11 i (hM.ownT i hi)
 replace K0 := K0.trans K9 (U := (fun i => i = r ∨ i = g ∨ ((Value.slice A l.length c)).ownBlock = some i)) (fun i h1 h2 => h2) (fun i h1 h2 => by exact h2.elim)
 replace H0 := H0.keep K9 (fun h => h)
 replace Hr := Hr.keep K9 (fun h => h)
 replace hE := Ents.keep0 hE K9
 replace hM := LogE.keep0 hM K9
 refine ⟨(K9.mono (fun _ _ h => h.elim)), ?_⟩
 refine Dr.strong (S' := (fun wz => Keeps (fun i => ((Value.slice A l.length c)).ownBlock = some i ∨ i = g ∨ i = b5) w6 wz)) ((Keeps.refl w6).mono (fun _ _ h => h.elim)) (fun wz hx => K9.trans hx (U := (fun i => ((Value.slice A l.length c)).ownBlock = some i ∨ i = g)) (fun i _ h => h.elim) (fun i hi h => by have h : ((Value.slice A l.length c)).ownBlock = some i ∨ i = g ∨ i = b5 := h; show ((Value.slice A l.length c)).ownBlock = some i ∨ i = g; rcases h with h | h | h; (exact (.inl h)); (exact (.inr h)); (exfalso; omega))) ?_
 clear K9 hs10
 have hz00 := K0.size
 have hY13 : Ents w6 (fun i => i = b5 ∨ ((cmd : List UInt8) ≠ [] ∧ ((Value.slice CA cmd.length cc)).ownBlock = some i)) (Value.slice (some ⟨b5, 0, none⟩) 1 1) [(⟨term, CA, cc, cmd⟩ : EntP)] := Ents.lit H8 (RdB.keepg hC K0 (fun hb i hi h => by rcases h with h | h | h; (exact hCr hb i hi h); (exact hCg hb i hi h); (exact hCo hb i hi h))) (fun hb i hi => (fun hb i hi => Nat.lt_of_lt_of_le (hCl hb i hi) hz00) hb i hi)
 have hU14 : ∀ i, (fun i => i = b5 ∨ ((cmd : List UInt8) ≠ [] ∧ ((Value.slice CA cmd.length cc)).ownBlock = some i)) i → i ≠ g := fun i hi => by rcases hi with h | ⟨hb, h⟩; (omega); (have := (hCg hb) i h; omega)
 refine Dr.call (i := 12) (by kernel_rfl) (by kernel_rfl) (d := (some 36)) (by kernel_rfl) (fun _ => Append_grow _ T g bs base old A c l (fun i => i = b5 ∨ ((cmd : List UInt8) ≠ [] ∧ ((Value.slice CA cmd.length cc)).ownBlock = some i)) (some ⟨b5, 0, none⟩) 1 [(⟨term, CA, cc, cmd⟩ : EntP)] H0 hM hT (by omega) (by first | omega | decide) (Nat.le_trans hbs K0.size) hY13 hU14 hBig (fun y hy => by rw [List.map_singleton, List.mem_singleton] at hy; subst hy; (show cmd.length ≤ _; omega)) (by show 1 * 32 ≤ _; decide) hq) ?_
 rintro _ w19 ⟨l15, A16, c17, T18, rfl, K20, H21, hM22, hK24, hT25⟩
 have hE23 := hM22.ents
 have ot26 : ∀ i, T18 i → i ≠ g := fun i hi => (hT25 i hi).1
 have ot27 : ∀ i, ((Value.slice A16 l15.length c17)).ownBlock = some i → i ≠ g := fun i hi => ot26 i (hM22.ownT i hi)
 have ot28 : ∀ i, T18 i → i ≠ r := fun i hi => by rcases (hT25 i hi).2 with h | h; (exact hrT i h); (have := Hr.lt; omega)
 have ot29 : ∀ i, ((Value.slice A16 l15.length c17)).ownBlock = some i → i ≠ r := fun i hi => ot28 i (hM22.ownT i hi)
 have ot30 : ∀ i, T18 i → i ≠ b5 := fun i hi => by rcases (hT25 i hi).2 with h | h; (exact ot11 i h); (have := H8.lt; omega)
 have ot31 : ∀ i, ((Value.slice A16 l15.length c17)).ownBlock = some i → i ≠ b5 := fun i hi => ot30 i (hM22.ownT i hi)
 have hn32 := keys_len2 hK24
 have hz33 := K0.size
 have hn34 : l15.length = l.length + 1 := by have q := congrArg List.length hK24; simpa using q
 replace K0 := K0.trans K20 (U := (fun i => i = r ∨ i = g ∨ ((Value.slice A l.length c)).ownBlock = some i)) (fun i h1 h2 => h2) (fun i h1 h2 => by have h2 : i = g ∨ ((Value.slice A l.length c)).ownBlock = some i := h2; rcases h2 with h2 | h2; (exact .inr (.inl h2)); (exact .inr (.inr (h2))))
 replace Hr := Hr.keep K20 (by intro h; change r = g ∨ ((Value.slice A l.length c)).ownBlock = some r at h; rcases h with h | h; (omega); (have := hvr r h; omega))
 replace H8 := H8.keep K20 (by intro h; change b5 = g ∨ ((Value.slice A l.length c)).ownBlock = some b5 at h; rcases h with h | h; (omega); (have := ot12 b5 h; omega))
 clear hE
 clear hM
 refine ⟨_, _, rfl, rfl, (K20.mono (fun i _ h => by have h : i = g ∨ ((Value.slice A l.length c)).ownBlock = some i := h; show ((Value.slice A l.length c)).ownBlock = some i ∨ i = g ∨ i = b5; rcases h with h | h; (exact (.inr (.inl h))); (exact (.inl h)))), ?_⟩
 refine Dr.strong (S' := (fun wz => Keeps (fun i => ((Value.slice A l.length c)).ownBlock = some i ∨ i = g ∨ i = b5) w19 wz)) ((Keeps.refl w19).mono (fun _ _ h => h.elim)) (fun wz hx => K20.trans hx (fun i _ h => by have h : i = g ∨ ((Value.slice A l.length c)).ownBlock = some i := h; show ((Value.slice A l.length c)).ownBlock = some i ∨ i = g ∨ i = b5; rcases h with h | h; (exact (.inr (.inl h))); (exact (.inl h))) (fun _ _ h => h)) ?_
 clear K20
 have hbigl15 : BigK (l15.map EntP.key) := by rw [hK24]; exact BigK.app hBig (fun y hy => by rw [List.map_singleton, List.mem_singleton] at hy; subst hy; (show cmd.length ≤ _; omega))
 refine Dr.takes (fuel' := 0) (is' := [13, 12, 11, 10, 9, 8, 7, 6, 5, 4, 3, 2, 1, 0]) [13] [(0, (ptr r)), (4, (i64 0)), (5, (Value.slice none 0 0)), (6, (i64 0)), (7, (i64 0))] (by kernel_rfl) rfl (by kernel_rfl) ?_
 refine Dr.done (by kernel_rfl) ?_
 refine qs ?_
 refine qg ?_
 refine og 2 [(0, (ptr r)), (4, (i64 0)), (5, (Value.slice none 0 0)), (6, (i64 0)), (7, (i64 0)), (38, (Value.bool false))] 2 ?_
 refine od ?_
 refine q_else (o := .tmp 38) (by kernel_rfl) rfl ?_
 refine q_skip (by kernel_rfl) ?_
 refine qs ?_
 refine qg ?_
 refine og 3 [(0, (ptr r)), (4, (i64 0)), (5, (Value.slice none 0 0)), (6, (i64 0)), (43, (Value.pointer (some ⟨r, 8, none⟩)))] 3 ?_
 refine Ops.go (v := (ptr g)) (by kernel_rfl) (Runs.load (t := 24) (a := ⟨r, 8, none⟩) (by kernel_rfl) (Hr.loads (by kernel_rfl))) (d := (some 44)) (by kernel_rfl) rfl ?_
 refine Ops.call (by kernel_rfl) (d := (some 45)) (by kernel_rfl) (Last_calls _ T18 g base old A16 c17 l15 H21 hE23 ot26 (by omega) (by omega)) ?_
 rintro _ w36 ⟨rfl, K35⟩
 refine ⟨_, _, rfl, rfl, ?_⟩
 replace K0 := K0.trans K35 (U := (fun i => i = r ∨ i = g ∨ ((Value.slice A l.length c)).ownBlock = some i)) (fun i h1 h2 => h2) (fun i h1 h2 => by exact h2.elim)
 replace H21 := H21.keep K35 (fun h => h)
 replace Hr := Hr.keep K35 (fun h => h)
 replace H8 := H8.keep K35 (fun h => h)
 replace hE23 := Ents.keep0 hE23 K35
 replace hM22 := LogE.keep0 hM22 K35
 clear K35
 refine og 5 [(0, (ptr r)), (4, (i64 0)), (5, (Value.slice none 0 0)), (6, (i64 0)), (8, (i64 (base + ((l15.length : Nat) : Int))))] 10 ?_
 refine od ?_
 refine qs ?_
 refine qg ?_
 refine og 1 [(0, (ptr r)), (4, (i64 0)), (5, (Value.slice none 0 0)), (6, (i64 0)), (8, (i64 (base + ((l15.length : Nat) : Int)))), (48, (ptr r))] 1 ?_
 refine Ops.call (by kernel_rfl) (d := (some 49)) (by kernel_rfl) (agree_calls _ r g term voted role leader commit group elapsed timeout vv pv T18 base old A16 c17 l15 Hr H21 hE23 ot26 (by omega) (by omega) (by omega) ot28) ?_
 rintro _ w38 ⟨rfl, K37, H39⟩
 refine ⟨_, _, rfl, rfl, ?_⟩
 replace K0 := K0.trans K37 (U := (fun i => i = r ∨ i = g ∨ ((Value.slice A l.length c)).ownBlock = some i)) (fun i h1 h2 => h2) (fun i h1 h2 => by have h2 : i = r := h2; exact .inl h2)
 replace H21 := H21.keep K37 (by intro h; change g = r at h; omega)
 replace H8 := H8.keep K37 (by intro h; change b5 = r at h; omega)
 replace hE23 := Ents.keep hE23 K37 (fun i hi hs => by have hs : i = r := hs; have := ot28 i hi; omega)
 replace hM22 := LogE.keep hM22 K37 (fun i hi hs => by have hs : i = r := hs; have := ot28 i hi; omega)
 clear K37
 refine od ?_
 refine qs ?_
 refine qg ?_
 refine og 3 [(0, (ptr r)), (4, (i64 0)), (5, (Value.slice none 0 0)), (6, (i64 0)), (8, (i64 (base + ((l15.length : Nat) : Int)))), (50, (ptr r)), (52, (Value.func (Fn.func 38) ⟨[(ptr r)]⟩ ⟨[]⟩))] 3 ?_
 refine Ops.call (by kernel_rfl) (d := (some 53)) (by kernel_rfl) (others_calls _ r g term voted role leader (agC base old term commit (l15.map EntP.key)) group elapsed timeout vv pv (Value.func (Fn.func 38) ⟨[(ptr r)]⟩ ⟨[]⟩) H39) ?_
 rintro _ w41 ⟨rfl, K40⟩
 refine ⟨_, _, rfl, rfl, ?_⟩
 replace K0 := K0.trans K40 (U := (fun i => i = r ∨ i = g ∨ ((Value.slice A l.length c)).ownBlock = some i)) (fun i h1 h2 => h2) (fun i h1 h2 => by exact h2.elim)
 replace H21 := H21.keep K40 (fun h => h)
 replace H39 := H39.keep K40 (fun h => h)
 replace H8 := H8.keep K40 (fun h => h)
 replace hE23 := Ents.keep0 hE23 K40
 replace hM22 := LogE.keep0 hM22 K40
 clear K40
 refine od ?_
 refine qs ?_
 refine qg ?_
 refine og 2 [(4, (i64 0)), (5, (Value.slice none 0 0)), (6, (i64 0)), (54, (i64 (base + ((l15.length : Nat) : Int)))), (55, (ptr r))] 2 ?_
 refine Ops.call (by kernel_rfl) (d := (some 56)) (by kernel_rfl) (flush_calls _ r g term voted role leader (agC base old term commit (l15.map EntP.key)) group elapsed timeout vv pv H39) ?_
 rintro _ w43 ⟨rfl, K42, H44⟩
 refine ⟨_, _, rfl, rfl, ?_⟩
 replace K0 := K0.trans K42 (U := (fun i => i = r ∨ i = g ∨ ((Value.slice A l.length c)).ownBlock = some i)) (fun i h1 h2 => h2) (fun i h1 h2 => by have h2 : i = r := h2; exact .inl h2)
 replace H21 := H21.keep K42 (by intro h; change g = r at h; omega)
 replace H8 := H8.keep K42 (by intro h; change b5 = r at h; omega)
 replace hE23 := Ents.keep hE23 K42 (fun i hi hs => by have hs : i = r := hs; have := ot28 i hi; omega)
 replace hM22 := LogE.keep hM22 K42 (fun i hi hs => by have hs : i = r := hs; have := ot28 i hi; omega)
 clear K42
 refine og 3 [(4, (i64 (base + ((l15.length : Nat) : Int)))), (5, (Value.slice none 0 0)), (6, (i64 0))] 6 ?_
 refine od ?_
 refine q_ret (by kernel_rfl) ?_
 refine ⟨(Value.tuple #[(i64 (base + ((l15.length : Nat) : Int))), (Value.slice none 0 0), (i64 0)]), retv_tmp3 rfl rfl rfl rfl, ?_⟩
 rw [hK24] at H44
 exact ⟨l15, A16, c17, T18, rfl, K0, H44, H21, hM22, hK24, fun i hi => ⟨ot26 i hi, ot28 i hi, by rcases (hT25 i hi).2 with h | h; (exact .inl h); (exact .inr (by have := hz00; omega))⟩⟩
end Go.Proofs.Ytnmpepjikfbpdaa
namespace Go.Proofs.Ytnmpepjikfbpdaa
open Go.Q Go.RowKit

theorem Copy_calls (w : World) (T : Nat → Prop) (g0 : Nat) (base old : Int) (A : Option Addr) (c : Nat) (l : List EntP) (H0 : Has w g0 (rowL [i64 base, i64 old, .slice A l.length c] 78)) (hE : Ents w T (.slice A l.length c) l) (hT : ∀ i, T i → i ≠ g0) (hB : 0 ≤ base ∧ base ≤ 2305843009213693952) (hL : l.length ≤ 4096) (hBig : BigK (l.map EntP.key)) : Calls Try.prog 35 ⟨[(ptr g0)]⟩ w (fun e w' => ∃ g l' A' c', e = .returned (ptr g) ∧ w.heap.size ≤ g ∧ Keeps none_ w w' ∧ Has w' g (rowL [i64 base, i64 old, .slice A' l'.length c'] 78) ∧ Ents w' (fun i => (w.heap.size ≤ i ∧ i < w'.heap.size) ∧ i ≠ g) (.slice A' l'.length c') l' ∧ l'.map EntP.key = (l.map EntP.key)) := by
 have hcap := Ents.len hE
 have Hg := H0.lt
 have hcm := hcap.2.2
 unfold maxLen at hcm
 have K0 : Keeps none_ w w := Keeps.refl w
 refine q_calls Try.func35 (by kernel_rfl) (by kernel_rfl) ?_
 refine qs ?_
 refine qg ?_
 refine og 1 [(0, (ptr g0)), (2, (Value.pointer none))] 1 ?_
 refine od ?_
 refine qs ?_
 refine qs ?_
 refine qg ?_
 refine og 2 [(0, (ptr g0)), (2, (Value.pointer none)), (4, (Value.bool false))] 2 ?_
 refine od ?_
 refine q_else (o := .tmp 4) (by kernel_rfl) rfl ?_
 refine q_skip (by kernel_rfl) ?_
 refine qs ?_
 refine q_draw (fun wz => Keeps none_ w wz) 16 (by kernel_rfl) (by kernel_rfl) (by kernel_rfl) (fun w1 K2 _ _ => ⟨K2, ?_⟩)
 replace K0 := K0.t0 K2
 replace H0 := H0.keep K2 (fun h => h)
 replace hE := Ents.keep0 hE K2
 refine Dr.strong (S' := (fun wz => Keeps none_ w1 wz)) (Keeps.refl w1) (fun wz hx => K2.trans hx (fun i _ h => h) (fun _ _ h => h)) ?_
 clear K2
 refine Dr.takes (fuel' := 13) (is' := [2, 1, 0]) [0, 1, 2] [(0, (ptr g0)), (2, (Value.pointer none)), (7, (ptr g0))] (by kernel_rfl) rfl (by kernel_rfl) ?_
 refine Dr.take (i := 3) (v := (i64 base)) (by kernel_rfl) (by kernel_rfl) (fun wz hS => Runs.load (t := 2) (a := ⟨g0, 0, none⟩) (by kernel_rfl) ((H0.keep hS (fun h => h)).loads (by kernel_rfl))) (d := (some 8)) (by kernel_rfl) rfl ?_
 refine Dr.takes (fuel' := 9) (is' := [6, 5, 4, 3, 2, 1, 0]) [4, 5, 6] [(0, (ptr g0)), (2, (Value.pointer none)), (8, (i64 base)), (11, (Value.pointer (some ⟨g0, 1, none⟩)))] (by kernel_rfl) rfl (by kernel_rfl) ?_
 refine Dr.take (i := 7) (v := (i64 old)) (by kernel_rfl) (by kernel_rfl) (fun wz hS => Runs.load (t := 2) (a := ⟨g0, 1, none⟩) (by kernel_rfl) ((H0.keep hS (fun h => h)).loads (by kernel_rfl))) (d := (some 12)) (by kernel_rfl) rfl ?_
 refine Dr.takes (fuel' := 5) (is' := [10, 9, 8, 7, 6, 5, 4, 3, 2, 1, 0]) [8, 9, 10] [(2, (Value.pointer none)), (8, (i64 base)), (12, (i64 old)), (15, (Value.pointer (some ⟨g0, 2, none⟩)))] (by kernel_rfl) rfl (by kernel_rfl) ?_
 refine Dr.take (i := 11) (v := (Value.slice A l.length c)) (by kernel_rfl) (by kernel_rfl) (fun wz hS => Runs.load (t := 22) (a := ⟨g0, 2, none⟩) (by kernel_rfl) ((H0.keep hS (fun h => h)).loads (by kernel_rfl))) (d := (some 16)) (by kernel_rfl) rfl ?_
 refine Dr.call (i := 12) (by kernel_rfl) (by kernel_rfl) (d := (some 17)) (by kernel_rfl) (fun _ => own_calls _ T A c l hE (BigK.l hBig) (by omega)) ?_
 rintro _ w6 ⟨l3, A4, c5, rfl, K7, hE8, hK9⟩
 have ot10 : ∀ i, (fun i => w1.heap.size ≤ i ∧ i < w6.heap.size) i → i ≠ g0 := fun i hi => by have := hi.1; have := H0.lt; omega
 have hz11 := K0.size
 have hn12 := keys_len2 hK9
 try rw [List.length_drop] at hn12
 try rw [List.length_append] at hn12
 try rw [List.length_map] at hn12
 try rw [List.length_map] at hn12
 replace K0 := K0.t0 K7
 replace H0 := H0.keep K7 (fun h => h)
 replace hE := Ents.keep0 hE K7
 refine ⟨_, _, rfl, rfl, K7, ?_⟩
 refine Dr.strong (S' := (fun wz => Keeps none_ w6 wz)) (Keeps.refl w6) (fun wz hx => K7.trans hx (fun i _ h => h) (fun _ _ h => h)) ?_
 clear K7
 refine Dr.takes (fuel' := 2) (is' := [13, 12, 11, 10, 9, 8, 7, 6, 5, 4, 3, 2, 1, 0]) [13] [(2, (Value.pointer none)), (18, (agg [(i64 base), (i64 old), (Value.slice A4 l3.length c5)]))] (by kernel_rfl) rfl (by kernel_rfl) ?_
 refine Dr.new (i := 14) (o := rowL [(i64 base), (i64 old), (Value.slice A4 l3.length c5)] 78) (V := fun b => (ptr b)) (by kernel_rfl) (by kernel_rfl) (d := (some 19)) (by kernel_rfl) (fun b => rfl) (fun b13 w14 hb15 H16 K17 hs18 => ?_)
 have lb13g0 : g0 < b13 := by have := H0.lt; omega
 have nb13 : w.heap.size ≤ b13 := by have := K0.size; omega
 have ot19 : ∀ i, T i → i ≠ b13 := fun i hi => by have := Ents.lt hE i hi; omega
 have ot20 : ∀ i, (fun i => w1.heap.size ≤ i ∧ i < w6.heap.size) i → i ≠ b13 := fun i hi => by have := Ents.lt hE8 i hi; omega
 replace K0 := K0.t0 K17
 replace H0 := H0.keep K17 (fun h => h)
 replace hE := Ents.keep0 hE K17
 replace hE8 := Ents.keep0 hE8 K17
 refine ⟨K17, ?_⟩
 refine Dr.strong (S' := (fun wz => Keeps none_ w14 wz)) (Keeps.refl w14) (fun wz hx => K17.trans hx (fun i _ h => h) (fun _ _ h => h)) ?_
 clear K17 hs18
 refine Dr.takes (fuel' := 0) (is' := [15, 14, 13, 12, 11, 10, 9, 8, 7, 6, 5, 4, 3, 2, 1, 0]) [15] [(2, (ptr b13))] (by kernel_rfl) rfl (by kernel_rfl) ?_
 refine Dr.done (by kernel_rfl) ?_
 refine q_ret (by kernel_rfl) ?_
 refine ⟨(ptr b13), retv_tmp rfl rfl, ?_⟩
 exact ⟨b13, l3, A4, c5, rfl, nb13, K0, H16, (hE8).mono (fun i hi => ⟨⟨by have := hi.1; omega, Ents.lt hE8 i hi⟩, ot20 i hi⟩) (fun i hi => hi.1.2), hK9⟩

theorem New_ok (w : World) (T : Nat → Prop) (base t0 : Int) (A : Option Addr) (c : Nat) (l : List EntP) (hE : Ents w T (.slice A l.length c) l) (hBig : BigK (l.map EntP.key)) (hq : newE base t0 (l.map EntP.key) = 0) : Calls Try.prog 10 ⟨[(i64 base), (i64 t0), (Value.slice A l.length c)]⟩ w (fun e w' => ∃ g l' A' c', e = .returned (.tuple #[ptr g, i64 0]) ∧ w.heap.size ≤ g ∧ Keeps none_ w w' ∧ Has w' g (rowL [i64 base, i64 t0, .slice A' l'.length c'] 78) ∧ Ents w' (fun i => (w.heap.size ≤ i ∧ i < w'.heap.size) ∧ i ≠ g) (.slice A' l'.length c') l' ∧ l'.map EntP.key = (l.map EntP.key)) := by
 have hcap := Ents.len hE
 have K0 : Keeps none_ w w := Keeps.refl w
 refine q_calls Try.func10 (by kernel_rfl) (by kernel_rfl) ?_
 refine qs ?_
 refine qg ?_
 refine og 2 [(0, (i64 base)), (1, (i64 t0)), (2, (Value.slice A l.length c)), (6, (Value.pointer none)), (7, (i64 0))] 2 ?_
 refine od ?_
 refine qs ?_
 refine qs ?_
 refine qg ?_
 refine og 3 [(0, (i64 base)), (1, (i64 t0)), (2, (Value.slice A l.length c)), (6, (Value.pointer none)), (7, (i64 0)), (10, (Value.bool (decide (((l.length : Nat) : Int) > 4096))))] 3 ?_
 refine od ?_
 refine q_cond (o := .tmp 10) (b := (decide (((l.length : Nat) : Int) > 4096))) (by kernel_rfl) rfl (fun h1 => ?_) (fun h1 => ?_)
 ·rw [h1]
  have p2 : ((l.length : Nat) : Int) > 4096 := of_decide_eq_true h1
  refine qs ?_
  refine qg ?_
  refine og 2 [(0, (i64 base)), (1, (i64 t0)), (2, (Value.slice A l.length c)), (6, (Value.pointer none)), (7, (i64 4))] 2 ?_
  refine od ?_
  refine q_ret (by kernel_rfl) ?_
  refine ⟨(Value.tuple #[(Value.pointer none), (i64 4)]), retv_tmp2 rfl rfl rfl, ?_⟩
  exfalso; have hq := newE_ok hq; rw [List.length_map] at hq; omega
 ·rw [h1]
  have p3 : ¬ (((l.length : Nat) : Int) > 4096) := of_decide_eq_false h1
  refine q_skip (by kernel_rfl) ?_
  refine qs ?_
  refine qs ?_
  refine qg ?_
  refine og 3 [(0, (i64 base)), (1, (i64 t0)), (2, (Value.slice A l.length c)), (6, (Value.pointer none)), (7, (i64 0)), (13, (Value.bool (decide (base < 0))))] 3 ?_
  refine Ops.split (decide (base < 0)) (fun h4 => ?_) (fun h4 => ?_)
  ·rw [h4]
   have p5 : base < 0 := of_decide_eq_true h4
   refine og 25 [(0, (i64 base)), (1, (i64 t0)), (2, (Value.slice A l.length c)), (6, (Value.pointer none)), (7, (i64 0)), (38, (Value.bool true))] 28 ?_
   refine od ?_
   refine q_then (o := .tmp 38) (by kernel_rfl) rfl ?_
   refine qs ?_
   refine qg ?_
   refine og 2 [(0, (i64 base)), (1, (i64 t0)), (2, (Value.slice A l.length c)), (6, (Value.pointer none)), (7, (i64 1))] 2 ?_
   refine od ?_
   refine q_ret (by kernel_rfl) ?_
   refine ⟨(Value.tuple #[(Value.pointer none), (i64 1)]), retv_tmp2 rfl rfl rfl, ?_⟩
   exfalso; have hq := newE_ok hq; rw [List.length_map] at hq; omega
  ·rw [h4]
   have p6 : ¬ (base < 0) := of_decide_eq_false h4
   refine og 4 [(0, (i64 base)), (1, (i64 t0)), (2, (Value.slice A l.length c)), (6, (Value.pointer none)), (7, (i64 0)), (17, (Value.bool (decide (base > 1152921504606846976))))] 7 ?_
   refine Ops.split (decide (base > 1152921504606846976)) (fun h7 => ?_) (fun h7 => ?_)
   ·rw [h7]
    have p8 : base > 1152921504606846976 := of_decide_eq_true h7
    refine og 21 [(0, (i64 base)), (1, (i64 t0)), (2, (Value.slice A l.length c)), (6, (Value.pointer none)), (7, (i64 0)), (38, (Value.bool true))] 28 ?_
    refine od ?_
    refine q_then (o := .tmp 38) (by kernel_rfl) rfl ?_
    refine qs ?_
    refine qg ?_
    refine og 2 [(0, (i64 base)), (1, (i64 t0)), (2, (Value.slice A l.length c)), (6, (Value.pointer none)), (7, (i64 1))] 2 ?_
    refine od ?_
    refine q_ret (by kernel_rfl) ?_
    refine ⟨(Value.tuple #[(Value.pointer none), (i64 1)]), retv_tmp2 rfl rfl rfl, ?_⟩
    exfalso; have hq := newE_ok hq; rw [List.length_map] at hq; omega
   ·rw [h7]
    have p9 : ¬ (base > 1152921504606846976) := of_decide_eq_false h7
    refine og 4 [(0, (i64 base)), (1, (i64 t0)), (2, (Value.slice A l.length c)), (6, (Value.pointer none)), (7, (i64 0)), (21, (Value.bool (decide (t0 < 0))))] 11 ?_
    refine Ops.split (decide (t0 < 0)) (fun h10 => ?_) (fun h10 => ?_)
    ·rw [h10]
     have p11 : t0 < 0 := of_decide_eq_true h10
     refine og 17 [(0, (i64 base)), (1, (i64 t0)), (2, (Value.slice A l.length c)), (6, (Value.pointer none)), (7, (i64 0)), (38, (Value.bool true))] 28 ?_
     refine od ?_
     refine q_then (o := .tmp 38) (by kernel_rfl) rfl ?_
     refine qs ?_
     refine qg ?_
     refine og 2 [(0, (i64 base)), (1, (i64 t0)), (2, (Value.slice A l.length c)), (6, (Value.pointer none)), (7, (i64 1))] 2 ?_
     refine od ?_
     refine q_ret (by kernel_rfl) ?_
     refine ⟨(Value.tuple #[(Value.pointer none), (i64 1)]), retv_tmp2 rfl rfl rfl, ?_⟩
     exfalso; have hq := newE_ok hq; rw [List.length_map] at hq; omega
    ·rw [h10]
     have p12 : ¬ (t0 < 0) := of_decide_eq_false h10
     refine og 4 [(0, (i64 base)), (1, (i64 t0)), (2, (Value.slice A l.length c)), (6, (Value.pointer none)), (7, (i64 0)), (25, (Value.bool (decide (t0 > 1152921504606846976))))] 15 ?_
     refine Ops.split (decide (t0 > 1152921504606846976)) (fun h13 => ?_) (fun h13 => ?_)
     ·rw [h13]
      have p14 : t0 > 1152921504606846976 := of_decide_eq_true h13
      refine og 13 [(0, (i64 base)), (1, (i64 t0)), (2, (Value.slice A l.length c)), (6, (Value.pointer none)), (7, (i64 0)), (38, (Value.bool true))] 28 ?_
      refine od ?_
      refine q_then (o := .tmp 38) (by kernel_rfl) rfl ?_
      refine qs ?_
      refine qg ?_
      refine og 2 [(0, (i64 base)), (1, (i64 t0)), (2, (Value.slice A l.length c)), (6, (Value.pointer none)), (7, (i64 1))] 2 ?_
      refine od ?_
      refine q_ret (by kernel_rfl) ?_
      refine ⟨(Value.tuple #[(Value.pointer none), (i64 1)]), retv_tmp2 rfl rfl rfl, ?_⟩
      exfalso; have hq := newE_ok hq; rw [List.length_map] at hq; omega
     ·rw [h13]
      have p15 : ¬ (t0 > 1152921504606846976) := of_decide_eq_false h13
      refine og 3 [(0, (i64 base)), (1, (i64 t0)), (2, (Value.slice A l.length c)), (6, (Value.pointer none)), (7, (i64 0)), (25, (Value.bool false)), (28, (Value.bool (base == 0)))] 18 ?_
      refine Ops.split (base == 0) (fun h16 => ?_) (fun h16 => ?_)
      ·rw [h16]
       have p17 : base = 0 := of_beq_t h16
       refine og 5 [(0, (i64 base)), (1, (i64 t0)), (2, (Value.slice A l.length c)), (6, (Value.pointer none)), (7, (i64 0)), (33, (Value.bool (decide (t0 > 0))))] 23 ?_
       refine Ops.split (decide (t0 > 0)) (fun h18 => ?_) (fun h18 => ?_)
       ·rw [h18]
        have p19 : t0 > 0 := of_decide_eq_true h18
        refine og 5 [(0, (i64 base)), (1, (i64 t0)), (2, (Value.slice A l.length c)), (6, (Value.pointer none)), (7, (i64 0)), (38, (Value.bool true))] 28 ?_
        refine od ?_
        refine q_then (o := .tmp 38) (by kernel_rfl) rfl ?_
        refine qs ?_
        refine qg ?_
        refine og 2 [(0, (i64 base)), (1, (i64 t0)), (2, (Value.slice A l.length c)), (6, (Value.pointer none)), (7, (i64 1))] 2 ?_
        refine od ?_
        refine q_ret (by kernel_rfl) ?_
        refine ⟨(Value.tuple #[(Value.pointer none), (i64 1)]), retv_tmp2 rfl rfl rfl, ?_⟩
        exfalso; have hq := newE_ok hq; rw [List.length_map] at hq; omega
       ·rw [h18]
        have p20 : ¬ (t0 > 0) := of_decide_eq_false h18
        refine og 2 [(0, (i64 base)), (1, (i64 t0)), (2, (Value.slice A l.length c)), (6, (Value.pointer none)), (7, (i64 0)), (33, (Value.bool false)), (34, (i64 t0)), (35, (Value.slice A l.length c))] 25 ?_
        refine Ops.call (by kernel_rfl) (d := (some 36)) (by kernel_rfl) (rising_calls _ T t0 A c l hE) ?_
        rintro _ w22 ⟨rfl, K21⟩
        refine ⟨_, _, rfl, rfl, ?_⟩
        replace K0 := K0.t0 K21
        replace hE := Ents.keep0 hE K21
        clear K21
        refine og 2 [(0, (i64 base)), (1, (i64 t0)), (2, (Value.slice A l.length c)), (6, (Value.pointer none)), (7, (i64 0)), (38, (Value.bool (!(risingK t0 (l.map EntP.key)))))] 28 ?_
        refine od ?_
        refine q_cond (o := .tmp 38) (b := (!(risingK t0 (l.map EntP.key)))) (by kernel_rfl) rfl (fun h23 => ?_) (fun h23 => ?_)
        ·rw [h23]
         have p24 : (risingK t0 (l.map EntP.key)) = false := (bnot_true h23)
         refine qs ?_
         refine qg ?_
         refine og 2 [(0, (i64 base)), (1, (i64 t0)), (2, (Value.slice A l.length c)), (6, (Value.pointer none)), (7, (i64 1))] 2 ?_
         refine od ?_
         refine q_ret (by kernel_rfl) ?_
         refine ⟨(Value.tuple #[(Value.pointer none), (i64 1)]), retv_tmp2 rfl rfl rfl, ?_⟩
         exfalso; have hq := newE_ok hq; rw [List.length_map] at hq; have hq2 := hq.2.2; rw [(bnot_true h23)] at hq2; cases hq2
        ·rw [h23]
         have p25 : (risingK t0 (l.map EntP.key)) = true := (bnot_false h23)
         refine q_skip (by kernel_rfl) ?_
         refine qs ?_
         refine qg ?_
         refine og 3 [(6, (Value.pointer none)), (7, (i64 0)), (39, (i64 base)), (40, (i64 t0)), (41, (Value.slice A l.length c))] 3 ?_
         refine Ops.call (by kernel_rfl) (d := (some 42)) (by kernel_rfl) (own_calls _ T A c l hE (BigK.l hBig) (by omega)) ?_
         rintro _ w29 ⟨l26, A27, c28, rfl, K30, hE31, hK32⟩
         have hz33 := K0.size
         have hn34 := keys_len2 hK32
         try rw [List.length_drop] at hn34
         try rw [List.length_append] at hn34
         try rw [List.length_map] at hn34
         try rw [List.length_map] at hn34
         refine ⟨_, _, rfl, rfl, ?_⟩
         replace K0 := K0.t0 K30
         replace hE := Ents.keep0 hE K30
         clear K30
         refine og 1 [(6, (Value.pointer none)), (7, (i64 0)), (43, (agg [(i64 base), (i64 t0), (Value.slice A27 l26.length c28)]))] 5 ?_
         refine Ops.new (o := rowL [(i64 base), (i64 t0), (Value.slice A27 l26.length c28)] 78) (V := fun b => (ptr b)) (by kernel_rfl) (d := (some 44)) (by kernel_rfl) (fun b => rfl) (fun b35 w36 hb37 H38 K39 hs40 => ?_)
         have nb35 : w.heap.size ≤ b35 := by have := K0.size; omega
         have ot41 : ∀ i, T i → i ≠ b35 := fun i hi => by have := Ents.lt hE i hi; omega
         have ot42 : ∀ i, (fun i => w22.heap.size ≤ i ∧ i < w29.heap.size) i → i ≠ b35 := fun i hi => by have := Ents.lt hE31 i hi; omega
         replace K0 := K0.t0 K39
         replace hE := Ents.keep0 hE K39
         replace hE31 := Ents.keep0 hE31 K39
         clear K39 hs40
         refine og 2 [(6, (ptr b35)), (7, (i64 0))] 8 ?_
         refine od ?_
         refine q_ret (by kernel_rfl) ?_
         refine ⟨(Value.tuple #[(ptr b35), (i64 0)]), retv_tmp2 rfl rfl rfl, ?_⟩
         exact ⟨b35, l26, A27, c28, rfl, nb35, K0, H38, (hE31).mono (fun i hi => ⟨⟨by have := hi.1; omega, Ents.lt hE31 i hi⟩, ot42 i hi⟩) (fun i hi => hi.1.2), hK32⟩
      ·rw [h16]
       have p43 : ¬ (base = 0) := of_beq_f h16
       refine og 7 [(0, (i64 base)), (1, (i64 t0)), (2, (Value.slice A l.length c)), (6, (Value.pointer none)), (7, (i64 0)), (33, (Value.bool false)), (34, (i64 t0)), (35, (Value.slice A l.length c))] 25 ?_
       refine Ops.call (by kernel_rfl) (d := (some 36)) (by kernel_rfl) (rising_calls _ T t0 A c l hE) ?_
       rintro _ w45 ⟨rfl, K44⟩
       refine ⟨_, _, rfl, rfl, ?_⟩
       replace K0 := K0.t0 K44
       replace hE := Ents.keep0 hE K44
       clear K44
       refine og 2 [(0, (i64 base)), (1, (i64 t0)), (2, (Value.slice A l.length c)), (6, (Value.pointer none)), (7, (i64 0)), (38, (Value.bool (!(risingK t0 (l.map EntP.key)))))] 28 ?_
       refine od ?_
       refine q_cond (o := .tmp 38) (b := (!(risingK t0 (l.map EntP.key)))) (by kernel_rfl) rfl (fun h46 => ?_) (fun h46 => ?_)
       ·rw [h46]
        have p47 : (risingK t0 (l.map EntP.key)) = false := (bnot_true h46)
        refine qs ?_
        refine qg ?_
        refine og 2 [(0, (i64 base)), (1, (i64 t0)), (2, (Value.slice A l.length c)), (6, (Value.pointer none)), (7, (i64 1))] 2 ?_
        refine od ?_
        refine q_ret (by kernel_rfl) ?_
        refine ⟨(Value.tuple #[(Value.pointer none), (i64 1)]), retv_tmp2 rfl rfl rfl, ?_⟩
        exfalso; have hq := newE_ok hq; rw [List.length_map] at hq; have hq2 := hq.2.2; rw [(bnot_true h46)] at hq2; cases hq2
       ·rw [h46]
        have p48 : (risingK t0 (l.map EntP.key)) = true := (bnot_false h46)
        refine q_skip (by kernel_rfl) ?_
        refine qs ?_
        refine qg ?_
        refine og 3 [(6, (Value.pointer none)), (7, (i64 0)), (39, (i64 base)), (40, (i64 t0)), (41, (Value.slice A l.length c))] 3 ?_
        refine Ops.call (by kernel_rfl) (d := (some 42)) (by kernel_rfl) (own_calls _ T A c l hE (BigK.l hBig) (by omega)) ?_
        rintro _ w52 ⟨l49, A50, c51, rfl, K53, hE54, hK55⟩
        have hz56 := K0.size
        have hn57 := keys_len2 hK55
        try rw [List.length_drop] at hn57
        try rw [List.length_append] at hn57
        try rw [List.length_map] at hn57
        try rw [List.length_map] at hn57
        refine ⟨_, _, rfl, rfl, ?_⟩
        replace K0 := K0.t0 K53
        replace hE := Ents.keep0 hE K53
        clear K53
        refine og 1 [(6, (Value.pointer none)), (7, (i64 0)), (43, (agg [(i64 base), (i64 t0), (Value.slice A50 l49.length c51)]))] 5 ?_
        refine Ops.new (o := rowL [(i64 base), (i64 t0), (Value.slice A50 l49.length c51)] 78) (V := fun b => (ptr b)) (by kernel_rfl) (d := (some 44)) (by kernel_rfl) (fun b => rfl) (fun b58 w59 hb60 H61 K62 hs63 => ?_)
        have nb58 : w.heap.size ≤ b58 := by have := K0.size; omega
        have ot64 : ∀ i, T i → i ≠ b58 := fun i hi => by have := Ents.lt hE i hi; omega
        have ot65 : ∀ i, (fun i => w45.heap.size ≤ i ∧ i < w52.heap.size) i → i ≠ b58 := fun i hi => by have := Ents.lt hE54 i hi; omega
        replace K0 := K0.t0 K62
        replace hE := Ents.keep0 hE K62
        replace hE54 := Ents.keep0 hE54 K62
        clear K62 hs63
        refine og 2 [(6, (ptr b58)), (7, (i64 0))] 8 ?_
        refine od ?_
        refine q_ret (by kernel_rfl) ?_
        refine ⟨(Value.tuple #[(ptr b58), (i64 0)]), retv_tmp2 rfl rfl rfl, ?_⟩
        exact ⟨b58, l49, A50, c51, rfl, nb58, K0, H61, (hE54).mono (fun i hi => ⟨⟨by have := hi.1; omega, Ents.lt hE54 i hi⟩, ot65 i hi⟩) (fun i hi => hi.1.2), hK55⟩

theorem New_bad (w : World) (T : Nat → Prop) (base t0 : Int) (A : Option Addr) (c : Nat) (l : List EntP) (hE : Ents w T (.slice A l.length c) l) (hBig : BigK (l.map EntP.key)) (hq : newE base t0 (l.map EntP.key) ≠ 0) : Calls Try.prog 10 ⟨[(i64 base), (i64 t0), (Value.slice A l.length c)]⟩ w (fun e w' => e = .returned (.tuple #[.pointer none, i64 (newE base t0 (l.map EntP.key))]) ∧ Keeps none_ w w') := by
 have hcap := Ents.len hE
 have K0 : Keeps none_ w w := Keeps.refl w
 refine q_calls Try.func10 (by kernel_rfl) (by kernel_rfl) ?_
 refine qs ?_
 refine qg ?_
 refine og 2 [(0, (i64 base)), (1, (i64 t0)), (2, (Value.slice A l.length c)), (6, (Value.pointer none)), (7, (i64 0))] 2 ?_
 refine od ?_
 refine qs ?_
 refine qs ?_
 refine qg ?_
 refine og 3 [(0, (i64 base)), (1, (i64 t0)), (2, (Value.slice A l.length c)), (6, (Value.pointer none)), (7, (i64 0)), (10, (Value.bool (decide (((l.length : Nat) : Int) > 4096))))] 3 ?_
 refine od ?_
 refine q_cond (o := .tmp 10) (b := (decide (((l.length : Nat) : Int) > 4096))) (by kernel_rfl) rfl (fun h1 => ?_) (fun h1 => ?_)
 ·rw [h1]
  have p2 : ((l.length : Nat) : Int) > 4096 := of_decide_eq_true h1
  refine qs ?_
  refine qg ?_
  refine og 2 [(0, (i64 base)), (1, (i64 t0)), (2, (Value.slice A l.length c)), (6, (Value.pointer none)), (7, (i64 4))] 2 ?_
  refine od ?_
  refine q_ret (by kernel_rfl) ?_
  refine ⟨(Value.tuple #[(Value.pointer none), (i64 4)]), retv_tmp2 rfl rfl rfl, ?_⟩
  have e : newE base t0 (l.map EntP.key) = 4 := by unfold newE; rw [List.length_map]; rw [if_pos (by omega)]
  exact ⟨by rw [e], K0⟩
 ·rw [h1]
  have p3 : ¬ (((l.length : Nat) : Int) > 4096) := of_decide_eq_false h1
  refine q_skip (by kernel_rfl) ?_
  refine qs ?_
  refine qs ?_
  refine qg ?_
  refine og 3 [(0, (i64 base)), (1, (i64 t0)), (2, (Value.slice A l.length c)), (6, (Value.pointer none)), (7, (i64 0)), (13, (Value.bool (decide (base < 0))))] 3 ?_
  refine Ops.split (decide (base < 0)) (fun h4 => ?_) (fun h4 => ?_)
  ·rw [h4]
   have p5 : base < 0 := of_decide_eq_true h4
   refine og 25 [(0, (i64 base)), (1, (i64 t0)), (2, (Value.slice A l.length c)), (6, (Value.pointer none)), (7, (i64 0)), (38, (Value.bool true))] 28 ?_
   refine od ?_
   refine q_then (o := .tmp 38) (by kernel_rfl) rfl ?_
   refine qs ?_
   refine qg ?_
   refine og 2 [(0, (i64 base)), (1, (i64 t0)), (2, (Value.slice A l.length c)), (6, (Value.pointer none)), (7, (i64 1))] 2 ?_
   refine od ?_
   refine q_ret (by kernel_rfl) ?_
   refine ⟨(Value.tuple #[(Value.pointer none), (i64 1)]), retv_tmp2 rfl rfl rfl, ?_⟩
   have e : newE base t0 (l.map EntP.key) = 1 := by unfold newE; rw [List.length_map]; rw [if_neg (by omega), if_pos (by omega)]
   exact ⟨by rw [e], K0⟩
  ·rw [h4]
   have p6 : ¬ (base < 0) := of_decide_eq_false h4
   refine og 4 [(0, (i64 base)), (1, (i64 t0)), (2, (Value.slice A l.length c)), (6, (Value.pointer none)), (7, (i64 0)), (17, (Value.bool (decide (base > 1152921504606846976))))] 7 ?_
   refine Ops.split (decide (base > 1152921504606846976)) (fun h7 => ?_) (fun h7 => ?_)
   ·rw [h7]
    have p8 : base > 1152921504606846976 := of_decide_eq_true h7
    refine og 21 [(0, (i64 base)), (1, (i64 t0)), (2, (Value.slice A l.length c)), (6, (Value.pointer none)), (7, (i64 0)), (38, (Value.bool true))] 28 ?_
    refine od ?_
    refine q_then (o := .tmp 38) (by kernel_rfl) rfl ?_
    refine qs ?_
    refine qg ?_
    refine og 2 [(0, (i64 base)), (1, (i64 t0)), (2, (Value.slice A l.length c)), (6, (Value.pointer none)), (7, (i64 1))] 2 ?_
    refine od ?_
    refine q_ret (by kernel_rfl) ?_
    refine ⟨(Value.tuple #[(Value.pointer none), (i64 1)]), retv_tmp2 rfl rfl rfl, ?_⟩
    have e : newE base t0 (l.map EntP.key) = 1 := by unfold newE; rw [List.length_map]; rw [if_neg (by omega), if_pos (by omega)]
    exact ⟨by rw [e], K0⟩
   ·rw [h7]
    have p9 : ¬ (base > 1152921504606846976) := of_decide_eq_false h7
    refine og 4 [(0, (i64 base)), (1, (i64 t0)), (2, (Value.slice A l.length c)), (6, (Value.pointer none)), (7, (i64 0)), (21, (Value.bool (decide (t0 < 0))))] 11 ?_
    refine Ops.split (decide (t0 < 0)) (fun h10 => ?_) (fun h10 => ?_)
    ·rw [h10]
     have p11 : t0 < 0 := of_decide_eq_true h10
     refine og 17 [(0, (i64 base)), (1, (i64 t0)), (2, (Value.slice A l.length c)), (6, (Value.pointer none)), (7, (i64 0)), (38, (Value.bool true))] 28 ?_
     refine od ?_
     refine q_then (o := .tmp 38) (by kernel_rfl) rfl ?_
     refine qs ?_
     refine qg ?_
     refine og 2 [(0, (i64 base)), (1, (i64 t0)), (2, (Value.slice A l.length c)), (6, (Value.pointer none)), (7, (i64 1))] 2 ?_
     refine od ?_
     refine q_ret (by kernel_rfl) ?_
     refine ⟨(Value.tuple #[(Value.pointer none), (i64 1)]), retv_tmp2 rfl rfl rfl, ?_⟩
     have e : newE base t0 (l.map EntP.key) = 1 := by unfold newE; rw [List.length_map]; rw [if_neg (by omega), if_pos (by omega)]
     exact ⟨by rw [e], K0⟩
    ·rw [h10]
     have p12 : ¬ (t0 < 0) := of_decide_eq_false h10
     refine og 4 [(0, (i64 base)), (1, (i64 t0)), (2, (Value.slice A l.length c)), (6, (Value.pointer none)), (7, (i64 0)), (25, (Value.bool (decide (t0 > 1152921504606846976))))] 15 ?_
     refine Ops.split (decide (t0 > 1152921504606846976)) (fun h13 => ?_) (fun h13 => ?_)
     ·rw [h13]
      have p14 : t0 > 1152921504606846976 := of_decide_eq_true h13
      refine og 13 [(0, (i64 base)), (1, (i64 t0)), (2, (Value.slice A l.length c)), (6, (Value.pointer none)), (7, (i64 0)), (38, (Value.bool true))] 28 ?_
      refine od ?_
      refine q_then (o := .tmp 38) (by kernel_rfl) rfl ?_
      refine qs ?_
      refine qg ?_
      refine og 2 [(0, (i64 base)), (1, (i64 t0)), (2, (Value.slice A l.length c)), (6, (Value.pointer none)), (7, (i64 1))] 2 ?_
      refine od ?_
      refine q_ret (by kernel_rfl) ?_
      refine ⟨(Value.tuple #[(Value.pointer none), (i64 1)]), retv_tmp2 rfl rfl rfl, ?_⟩
      have e : newE base t0 (l.map EntP.key) = 1 := by unfold newE; rw [List.length_map]; rw [if_neg (by omega), if_pos (by omega)]
      exact ⟨by rw [e], K0⟩
     ·rw [h13]
      have p15 : ¬ (t0 > 1152921504606846976) := of_decide_eq_false h13
      refine og 3 [(0, (i64 base)), (1, (i64 t0)), (2, (Value.slice A l.length c)), (6, (Value.pointer none)), (7, (i64 0)), (25, (Value.bool false)), (28, (Value.bool (base == 0)))] 18 ?_
      refine Ops.split (base == 0) (fun h16 => ?_) (fun h16 => ?_)
      ·rw [h16]
       have p17 : base = 0 := of_beq_t h16
       refine og 5 [(0, (i64 base)), (1, (i64 t0)), (2, (Value.slice A l.length c)), (6, (Value.pointer none)), (7, (i64 0)), (33, (Value.bool (decide (t0 > 0))))] 23 ?_
       refine Ops.split (decide (t0 > 0)) (fun h18 => ?_) (fun h18 => ?_)
       ·rw [h18]
        have p19 : t0 > 0 := of_decide_eq_true h18
        refine og 5 [(0, (i64 base)), (1, (i64 t0)), (2, (Value.slice A l.length c)), (6, (Value.pointer none)), (7, (i64 0)), (38, (Value.bool true))] 28 ?_
        refine od ?_
        refine q_then (o := .tmp 38) (by kernel_rfl) rfl ?_
        refine qs ?_
        refine qg ?_
        refine og 2 [(0, (i64 base)), (1, (i64 t0)), (2, (Value.slice A l.length c)), (6, (Value.pointer none)), (7, (i64 1))] 2 ?_
        refine od ?_
        refine q_ret (by kernel_rfl) ?_
        refine ⟨(Value.tuple #[(Value.pointer none), (i64 1)]), retv_tmp2 rfl rfl rfl, ?_⟩
        have e : newE base t0 (l.map EntP.key) = 1 := by unfold newE; rw [List.length_map]; rw [if_neg (by omega), if_pos (by omega)]
        exact ⟨by rw [e], K0⟩
       ·rw [h18]
        have p20 : ¬ (t0 > 0) := of_decide_eq_false h18
        refine og 2 [(0, (i64 base)), (1, (i64 t0)), (2, (Value.slice A l.length c)), (6, (Value.pointer none)), (7, (i64 0)), (33, (Value.bool false)), (34, (i64 t0)), (35, (Value.slice A l.length c))] 25 ?_
        refine Ops.call (by kernel_rfl) (d := (some 36)) (by kernel_rfl) (rising_calls _ T t0 A c l hE) ?_
        rintro _ w22 ⟨rfl, K21⟩
        refine ⟨_, _, rfl, rfl, ?_⟩
        replace K0 := K0.t0 K21
        replace hE := Ents.keep0 hE K21
        clear K21
        refine og 2 [(0, (i64 base)), (1, (i64 t0)), (2, (Value.slice A l.length c)), (6, (Value.pointer none)), (7, (i64 0)), (38, (Value.bool (!(risingK t0 (l.map EntP.key)))))] 28 ?_
        refine od ?_
        refine q_cond (o := .tmp 38) (b := (!(risingK t0 (l.map EntP.key)))) (by kernel_rfl) rfl (fun h23 => ?_) (fun h23 => ?_)
        ·rw [h23]
         have p24 : (risingK t0 (l.map EntP.key)) = false := (bnot_true h23)
         refine qs ?_
         refine qg ?_
         refine og 2 [(0, (i64 base)), (1, (i64 t0)), (2, (Value.slice A l.length c)), (6, (Value.pointer none)), (7, (i64 1))] 2 ?_
         refine od ?_
         refine q_ret (by kernel_rfl) ?_
         refine ⟨(Value.tuple #[(Value.pointer none), (i64 1)]), retv_tmp2 rfl rfl rfl, ?_⟩
         have e : newE base t0 (l.map EntP.key) = 1 := by unfold newE; rw [List.length_map]; rw [if_neg (by omega), if_neg (by omega), if_neg (by rw [(bnot_true h23)]; decide)]
         exact ⟨by rw [e], K0⟩
        ·rw [h23]
         have p25 : (risingK t0 (l.map EntP.key)) = true := (bnot_false h23)
         refine q_skip (by kernel_rfl) ?_
         refine qs ?_
         refine qg ?_
         refine og 3 [(6, (Value.pointer none)), (7, (i64 0)), (39, (i64 base)), (40, (i64 t0)), (41, (Value.slice A l.length c))] 3 ?_
         refine Ops.call (by kernel_rfl) (d := (some 42)) (by kernel_rfl) (own_calls _ T A c l hE (BigK.l hBig) (by omega)) ?_
         rintro _ w29 ⟨l26, A27, c28, rfl, K30, hE31, hK32⟩
         have hz33 := K0.size
         have hn34 := keys_len2 hK32
         try rw [List.length_drop] at hn34
         try rw [List.length_append] at hn34
         try rw [List.length_map] at hn34
         try rw [List.length_map] at hn34
         refine ⟨_, _, rfl, rfl, ?_⟩
         replace K0 := K0.t0 K30
         replace hE := Ents.keep0 hE K30
         clear K30
         refine og 1 [(6, (Value.pointer none)), (7, (i64 0)), (43, (agg [(i64 base), (i64 t0), (Value.slice A27 l26.length c28)]))] 5 ?_
         refine Ops.new (o := rowL [(i64 base), (i64 t0), (Value.slice A27 l26.length c28)] 78) (V := fun b => (ptr b)) (by kernel_rfl) (d := (some 44)) (by kernel_rfl) (fun b => rfl) (fun b35 w36 hb37 H38 K39 hs40 => ?_)
         have nb35 : w.heap.size ≤ b35 := by have := K0.size; omega
         have ot41 : ∀ i, T i → i ≠ b35 := fun i hi => by have := Ents.lt hE i hi; omega
         have ot42 : ∀ i, (fun i => w22.heap.size ≤ i ∧ i < w29.heap.size) i → i ≠ b35 := fun i hi => by have := Ents.lt hE31 i hi; omega
         replace K0 := K0.t0 K39
         replace hE := Ents.keep0 hE K39
         replace hE31 := Ents.keep0 hE31 K39
         clear K39 hs40
         refine og 2 [(6, (ptr b35)), (7, (i64 0))] 8 ?_
         refine od ?_
         refine q_ret (by kernel_rfl) ?_
         refine ⟨(Value.tuple #[(ptr b35), (i64 0)]), retv_tmp2 rfl rfl rfl, ?_⟩
         exact absurd (by unfold newE; rw [List.length_map, if_neg (by omega), if_neg (by omega), if_pos (bnot_false h23)]) hq
      ·rw [h16]
       have p43 : ¬ (base = 0) := of_beq_f h16
       refine og 7 [(0, (i64 base)), (1, (i64 t0)), (2, (Value.slice A l.length c)), (6, (Value.pointer none)), (7, (i64 0)), (33, (Value.bool false)), (34, (i64 t0)), (35, (Value.slice A l.length c))] 25 ?_
       refine Ops.call (by kernel_rfl) (d := (some 36)) (by kernel_rfl) (rising_calls _ T t0 A c l hE) ?_
       rintro _ w45 ⟨rfl, K44⟩
       refine ⟨_, _, rfl, rfl, ?_⟩
       replace K0 := K0.t0 K44
       replace hE := Ents.keep0 hE K44
       clear K44
       refine og 2 [(0, (i64 base)), (1, (i64 t0)), (2, (Value.slice A l.length c)), (6, (Value.pointer none)), (7, (i64 0)), (38, (Value.bool (!(risingK t0 (l.map EntP.key)))))] 28 ?_
       refine od ?_
       refine q_cond (o := .tmp 38) (b := (!(risingK t0 (l.map EntP.key)))) (by kernel_rfl) rfl (fun h46 => ?_) (fun h46 => ?_)
       ·rw [h46]
        have p47 : (risingK t0 (l.map EntP.key)) = false := (bnot_true h46)
        refine qs ?_
        refine qg ?_
        refine og 2 [(0, (i64 base)), (1, (i64 t0)), (2, (Value.slice A l.length c)), (6, (Value.pointer none)), (7, (i64 1))] 2 ?_
        refine od ?_
        refine q_ret (by kernel_rfl) ?_
        refine ⟨(Value.tuple #[(Value.pointer none), (i64 1)]), retv_tmp2 rfl rfl rfl, ?_⟩
        have e : newE base t0 (l.map EntP.key) = 1 := by unfold newE; rw [List.length_map]; rw [if_neg (by omega), if_neg (by omega), if_neg (by rw [(bnot_true h46)]; decide)]
        exact ⟨by rw [e], K0⟩
       ·rw [h46]
        have p48 : (risingK t0 (l.map EntP.key)) = true := (bnot_false h46)
        refine q_skip (by kernel_rfl) ?_
        refine qs ?_
        refine qg ?_
        refine og 3 [(6, (Value.pointer none)), (7, (i64 0)), (39, (i64 base)), (40, (i64 t0)), (41, (Value.slice A l.length c))] 3 ?_
        refine Ops.call (by kernel_rfl) (d := (some 42)) (by kernel_rfl) (own_calls _ T A c l hE (BigK.l hBig) (by omega)) ?_
        rintro _ w52 ⟨l49, A50, c51, rfl, K53, hE54, hK55⟩
        have hz56 := K0.size
        have hn57 := keys_len2 hK55
        try rw [List.length_drop] at hn57
        try rw [List.length_append] at hn57
        try rw [List.length_map] at hn57
        try rw [List.length_map] at hn57
        refine ⟨_, _, rfl, rfl, ?_⟩
        replace K0 := K0.t0 K53
        replace hE := Ents.keep0 hE K53
        clear K53
        refine og 1 [(6, (Value.pointer none)), (7, (i64 0)), (43, (agg [(i64 base), (i64 t0), (Value.slice A50 l49.length c51)]))] 5 ?_
        refine Ops.new (o := rowL [(i64 base), (i64 t0), (Value.slice A50 l49.length c51)] 78) (V := fun b => (ptr b)) (by kernel_rfl) (d := (some 44)) (by kernel_rfl) (fun b => rfl) (fun b58 w59 hb60 H61 K62 hs63 => ?_)
        have nb58 : w.heap.size ≤ b58 := by have := K0.size; omega
        have ot64 : ∀ i, T i → i ≠ b58 := fun i hi => by have := Ents.lt hE i hi; omega
        have ot65 : ∀ i, (fun i => w45.heap.size ≤ i ∧ i < w52.heap.size) i → i ≠ b58 := fun i hi => by have := Ents.lt hE54 i hi; omega
        replace K0 := K0.t0 K62
        replace hE := Ents.keep0 hE K62
        replace hE54 := Ents.keep0 hE54 K62
        clear K62 hs63
        refine og 2 [(6, (ptr b58)), (7, (i64 0))] 8 ?_
        refine od ?_
        refine q_ret (by kernel_rfl) ?_
        refine ⟨(Value.tuple #[(ptr b58), (i64 0)]), retv_tmp2 rfl rfl rfl, ?_⟩
        exact absurd (by unfold newE; rw [List.length_map, if_neg (by omega), if_neg (by omega), if_pos (bnot_false h46)]) hq
end Go.Proofs.Ytnmpepjikfbpdaa
namespace Go.Proofs.Ytnmpepjikfbpdaa
open Go.Q Go.RowKit

theorem ownM_calls (w : World) (T : Nat → Prop) (A : Option Addr) (c : Nat) (l0 : List EntP) (hE : Ents w T (.slice A l0.length c) l0) (hBig : ∀ x ∈ l0, x.cmd.length ≤ 140737488351232) (hl : l0.length * 32 ≤ 140737488351232) : Calls Try.prog 33 ⟨[(Value.slice A l0.length c)]⟩ w (fun e w' => ∃ l' A' c', e = .returned (.slice A' l'.length c') ∧ Keeps none_ w w' ∧ LogE w' w.heap.size 43 (fun i => w.heap.size ≤ i ∧ i < w'.heap.size) (.slice A' l'.length c') l' ∧ l'.map EntP.key = l0.map EntP.key) := by
 have hE0 := hE
 have K0 : Keeps none_ w w := Keeps.refl w
 refine q_calls Try.func33 (by kernel_rfl) (by kernel_rfl) ?_
 refine qs ?_
 refine qg ?_
 refine og 1 [(0, (Value.slice A l0.length c)), (2, (Value.slice none 0 0))] 1 ?_
 refine od ?_
 refine qs ?_
 refine qg ?_
 refine og 1 [(0, (Value.slice A l0.length c)), (2, (Value.slice none 0 0)), (4, (Value.slice A l0.length c))] 1 ?_
 refine Ops.call (by kernel_rfl) (d := (some 5)) (by kernel_rfl) (CloneE_calls _ (Value.slice A l0.length c) l0 (Ents.rd hE) (by omega)) ?_
 rintro _ w2 ⟨v1, rfl, K3, (⟨rfl, hl12⟩ | ⟨G4, cap5, rest6, rfl, hG7, H8, hc9, hc10, hc11⟩)⟩
 ·refine ⟨_, _, rfl, rfl, ?_⟩
  replace K0 := K0.t0 K3
  replace hE := Ents.keep0 hE K3
  clear K3
  refine og 1 [(0, (Value.slice none 0 0)), (2, (Value.slice none 0 0))] 3 ?_
  refine od ?_
  refine qs ?_
  refine qs ?_
  refine qg ?_
  refine og 3 [(0, (Value.slice none 0 0)), (2, (Value.slice none 0 0)), (7, (i64 0)), (8, (i64 0))] 3 ?_
  refine od ?_
  refine q_block (id := 0) (by kernel_rfl) ?_
  refine q_keep (R := [(0, (Value.slice none 0 0)), (2, (Value.slice none 0 0)), (7, (i64 0)), (8, (i64 0))]) (by kernel_rfl) ?_
  refine q_loop (fun (i : Nat) L (wx : World) => L = [(0, (Value.slice none 0 0)), (2, (Value.slice none 0 0)), (7, (i64 ((0 : Nat) : Int))), (8, (i64 ((i : Nat) : Int)))] ∧ i = 0 ∧ Keeps none_ w wx) (fun (i : Nat) => 0 - i) 0 (by kernel_rfl) ⟨rfl, rfl, K0⟩ ?_
  clear hE K0
  rintro i _ w13 ⟨rfl, hi, K14⟩
  refine qs ?_
  refine qg ?_
  refine og 1 [(0, (Value.slice none 0 0)), (2, (Value.slice none 0 0)), (7, (i64 ((0 : Nat) : Int))), (8, (i64 ((i : Nat) : Int))), (9, (Value.bool (decide (((i : Nat) : Int) < ((0 : Nat) : Int)))))] 1 ?_
  refine od ?_
  refine qs ?_
  have h15 : (decide (((i : Nat) : Int) < ((0 : Nat) : Int))) = false := decide_eq_false (by omega)
  rw [h15]
  refine q_else (o := .tmp 9) (by kernel_rfl) rfl ?_
  refine q_exit (id := 0) (by kernel_rfl) ?_
  refine qs ?_
  refine qg ?_
  refine og 2 [(2, (Value.slice none 0 0))] 2 ?_
  refine od ?_
  refine q_ret (by kernel_rfl) ?_
  refine ⟨(Value.slice none 0 0), retv_tmp rfl rfl, ?_⟩
  exact ⟨[], none, 0, rfl, K14, (LogE.nil _ _ _).mono (fun _ h => h.elim) (fun _ h => h.2), by rw [hl12]⟩
 ·refine ⟨_, _, rfl, rfl, ?_⟩
  have nG4 : w.heap.size ≤ G4 := by have := K0.size; omega
  replace K0 := K0.t0 K3
  replace hE := Ents.keep0 hE K3
  clear K3
  refine og 1 [(0, (Value.slice (some ⟨G4, 0, none⟩) l0.length cap5)), (2, (Value.slice none 0 0))] 3 ?_
  refine od ?_
  refine qs ?_
  refine qs ?_
  refine qg ?_
  refine og 3 [(0, (Value.slice (some ⟨G4, 0, none⟩) l0.length cap5)), (2, (Value.slice none 0 0)), (7, (i64 ((l0.length : Nat) : Int))), (8, (i64 0))] 3 ?_
  refine od ?_
  refine q_block (id := 0) (by kernel_rfl) ?_
  refine q_keep (R := [(0, (Value.slice (some ⟨G4, 0, none⟩) l0.length cap5)), (2, (Value.slice none 0 0)), (7, (i64 ((l0.length : Nat) : Int))), (8, (i64 0))]) (by kernel_rfl) ?_
  refine q_loop (fun (gs : Nat × (List EntP)) L (wx : World) => match gs with | (i, l) => L = [(0, (Value.slice (some ⟨G4, 0, none⟩) l0.length cap5)), (2, (Value.slice none 0 0)), (7, (i64 ((l0.length : Nat) : Int))), (8, (i64 ((i : Nat) : Int)))] ∧ l.length = l0.length ∧ l.map EntP.key = l0.map EntP.key ∧ (l.flatMap EntP.cells ++ rest6).length = cap5 * 2 ∧ EntsMine 5 wx w.heap.size (.slice (some ⟨G4, 0, none⟩) l0.length cap5) (l.take i) ∧ l.drop i = l0.drop i ∧ i ≤ l0.length ∧ Keeps none_ w wx ∧ Has wx G4 (rowL (l.flatMap EntP.cells ++ rest6) 43)) (fun (gs : Nat × (List EntP)) => match gs with | (i, l) => l0.length - i) (0, l0) (by kernel_rfl) ⟨rfl, rfl, rfl, hc11, (EntsMine.nil _ _ _), rfl, Nat.zero_le _, K0, H8⟩ ?_
  clear H8 hE K0
  rintro ⟨i, l⟩ _ w16 ⟨rfl, hln, hK, hR, hM, hD, hi, K17, H18⟩
  refine qs ?_
  refine qg ?_
  refine og 1 [(0, (Value.slice (some ⟨G4, 0, none⟩) l0.length cap5)), (2, (Value.slice none 0 0)), (7, (i64 ((l0.length : Nat) : Int))), (8, (i64 ((i : Nat) : Int))), (9, (Value.bool (decide (((i : Nat) : Int) < ((l0.length : Nat) : Int)))))] 1 ?_
  refine od ?_
  refine qs ?_
  refine q_cond (o := .tmp 9) (b := (decide (((i : Nat) : Int) < ((l0.length : Nat) : Int)))) (by kernel_rfl) rfl (fun h19 => ?_) (fun h19 => ?_)
  ·rw [h19]
   have p20 : ((i : Nat) : Int) < ((l0.length : Nat) : Int) := of_decide_eq_true h19
   refine q_skip (by kernel_rfl) ?_
   refine qs ?_
   refine q_block (id := 1) (by kernel_rfl) ?_
   refine qs ?_
   refine qg ?_
   refine og 2 [(0, (Value.slice (some ⟨G4, 0, none⟩) l0.length cap5)), (2, (Value.slice none 0 0)), (3, (i64 ((i : Nat) : Int))), (7, (i64 ((l0.length : Nat) : Int))), (8, (i64 ((i : Nat) : Int))), (9, (Value.bool true))] 2 ?_
   refine od ?_
   refine qg ?_
   refine og 4 [(0, (Value.slice (some ⟨G4, 0, none⟩) l0.length cap5)), (2, (Value.slice none 0 0)), (3, (i64 ((i : Nat) : Int))), (7, (i64 ((l0.length : Nat) : Int))), (8, (i64 ((i : Nat) : Int))), (9, (Value.bool true)), (11, (Value.slice (some ⟨G4, 0, none⟩) l0.length cap5)), (12, (i64 ((i : Nat) : Int))), (13, (Value.slice (some ⟨G4, 0, none⟩) l0.length cap5)), (14, (i64 ((i : Nat) : Int)))] 4 ?_
   obtain ⟨x, hx⟩ : ∃ y, l[i]? = some y := ⟨_, List.getElem?_eq_getElem (by omega)⟩
   have hx0 : l0[i]? = some x := by have q := congrArg (fun z => z[0]?) hD; simp only [List.getElem?_drop, Nat.add_zero] at q; rw [← q]; exact hx
   have hxB := Ents.ins hE0 x (List.mem_of_getElem? hx0)
   have hxl := hxB.slice
   unfold maxLen at hxl
   have hxb := hBig x (List.mem_of_getElem? hx0)
   refine Ops.go (by kernel_rfl) (Runs.ixSlice (k := IntKind.i64) (t := 22) (b := G4) (off := 0) (len := l0.length) (cap := cap5) (s := 2) (off' := i * 2) (i := ((i : Nat) : Int)) (by kernel_rfl) (by kernel_rfl) (by omega) (by omega) (by omega)) (d := (some 15)) (by kernel_rfl) rfl ?_
   refine og 1 [(0, (Value.slice (some ⟨G4, 0, none⟩) l0.length cap5)), (2, (Value.slice none 0 0)), (3, (i64 ((i : Nat) : Int))), (7, (i64 ((l0.length : Nat) : Int))), (8, (i64 ((i : Nat) : Int))), (9, (Value.bool true)), (11, (Value.slice (some ⟨G4, 0, none⟩) l0.length cap5)), (12, (i64 ((i : Nat) : Int))), (16, (Value.pointer (some ⟨G4, i * 2 + 1, none⟩)))] 6 ?_
   refine Ops.go (v := (Value.slice x.A x.cmd.length x.c)) (by kernel_rfl) (Runs.load (t := 37) (a := ⟨G4, i * 2 + 1, none⟩) (by kernel_rfl) (H18.loads (loadC1 (by kernel_rfl) (flat_at2 hx).2))) (d := (some 17)) (by kernel_rfl) rfl ?_
   refine Ops.call (by kernel_rfl) (d := (some 18)) (by kernel_rfl) (CloneS_calls _ (Value.slice x.A x.cmd.length x.c) x.cmd (hxB.keep0 (by omega) K17) (by omega)) ?_
   rintro _ w23 ⟨A21, c22, rfl, K24, hO25⟩
   have ob27 : ∀ i, ((Value.slice A21 x.cmd.length c22)).ownBlock = some i → i ≠ G4 := fun i hi => by have := (World.ownsRow.lt hO25 i hi).1; have := H18.lt; omega
   have O26 := own_base hO25 K17.size
   refine ⟨_, _, rfl, rfl, ?_⟩
   replace K17 := K17.trans K24 (U := none_) (fun i h1 h2 => h2) (fun i h1 h2 => by exact h2)
   replace H18 := H18.keep K24 (fun h => h)
   replace hM := EntsMine.keep hM K24 (fun _ _ _ h => h)
   clear K24
   refine Ops.go (by kernel_rfl) (Runs.ixSlice (k := IntKind.i64) (t := 22) (b := G4) (off := 0) (len := l0.length) (cap := cap5) (s := 2) (off' := i * 2) (i := ((i : Nat) : Int)) (by kernel_rfl) (by kernel_rfl) (by omega) (by omega) (by omega)) (d := (some 19)) (by kernel_rfl) rfl ?_
   refine og 1 [(0, (Value.slice (some ⟨G4, 0, none⟩) l0.length cap5)), (2, (Value.slice none 0 0)), (3, (i64 ((i : Nat) : Int))), (7, (i64 ((l0.length : Nat) : Int))), (8, (i64 ((i : Nat) : Int))), (9, (Value.bool true)), (18, (Value.slice A21 x.cmd.length c22)), (20, (Value.pointer (some ⟨G4, i * 2 + 1, none⟩)))] 10 ?_
   refine Ops.put (t := 37) (b := G4) (off := i * 2 + 1) (v := (Value.slice A21 x.cmd.length c22)) (ys := ((l.set i ⟨x.term, A21, c22, x.cmd⟩).flatMap EntP.cells ++ rest6)) (by kernel_rfl) (by kernel_rfl) H18 (storeC1 (by kernel_rfl) rfl (by have := (List.getElem?_eq_some_iff.1 (flat_at2 (rest := rest6) hx).2).1; exact this) (flat_set2 A21 c22 hx)) (d := none) (by kernel_rfl) rfl (fun w28 H29 K30 => ?_)
   clear H18
   replace K17 := K17.trans K30 (U := none_) (fun i h1 h2 => h2) (fun i h1 h2 => by have h2 : i = G4 := h2; exfalso; omega)
   replace hM := EntsMine.keep hM K30 (fun i h1 h2 hs => h2 (by have hs : i = G4 := hs; subst hs; rfl))
   replace O26 := own_keep O26 K30 (fun i hi hs => by have hs : i = G4 := hs; have := ob27 i hi; omega)
   clear K30
   refine od ?_
   refine qg ?_
   refine og 1 [(0, (Value.slice (some ⟨G4, 0, none⟩) l0.length cap5)), (2, (Value.slice none 0 0)), (3, (i64 ((i : Nat) : Int))), (7, (i64 ((l0.length : Nat) : Int))), (8, (i64 ((i : Nat) : Int))), (9, (Value.bool true)), (21, (i64 (IntKind.i64.wrap (((i : Nat) : Int) + 1))))] 1 ?_
   have e31 : IntKind.i64.wrap (((i : Nat) : Int) + 1) = ((i + 1 : Nat) : Int) := by rw [wrap_i64 (by omega) (by omega)]; omega
   rw [e31]
   clear e31
   refine og 1 [(0, (Value.slice (some ⟨G4, 0, none⟩) l0.length cap5)), (2, (Value.slice none 0 0)), (3, (i64 ((i : Nat) : Int))), (7, (i64 ((l0.length : Nat) : Int))), (8, (i64 ((i + 1 : Nat) : Int))), (9, (Value.bool true))] 2 ?_
   refine Ops.keep (R := [(0, (Value.slice (some ⟨G4, 0, none⟩) l0.length cap5)), (2, (Value.slice none 0 0)), (7, (i64 ((l0.length : Nat) : Int))), (8, (i64 ((i + 1 : Nat) : Int)))]) (by kernel_rfl) ?_
   refine od ?_
   exact ⟨(i + 1, (l.set i ⟨x.term, A21, c22, x.cmd⟩)), ⟨rfl, (by rw [List.length_set]; exact hln), (by rw [key_set A21 c22 hx]; exact hK), (by rw [List.length_append, flat_len EntP.two, List.length_set, hln]; rw [List.length_append, flat_len EntP.two] at hc11; exact hc11), (by rw [take_set_succ hx]; exact EntsMine.snoc hM O26 fun gg o s hA => by have hA : A21 = some ⟨gg, o, s⟩ := hA; have := World.ownsRow.lt O26 gg (by rw [hA]; rfl); exact ⟨this.1, this.2, fun q => by have := ob27 gg (by rw [hA]; rfl); simp [Value.ownBlock] at q; omega⟩), (by rw [drop_set_succ]; have q := congrArg (List.drop 1) hD; simpa [List.drop_drop] using q), (by omega), K17, H29⟩, (show l0.length - (i + 1) < l0.length - i from by omega)⟩
  ·rw [h19]
   have p32 : ¬ (((i : Nat) : Int) < ((l0.length : Nat) : Int)) := of_decide_eq_false h19
   refine q_exit (id := 0) (by kernel_rfl) ?_
   refine qs ?_
   refine qg ?_
   refine og 2 [(2, (Value.slice (some ⟨G4, 0, none⟩) l0.length cap5))] 2 ?_
   refine od ?_
   refine q_ret (by kernel_rfl) ?_
   refine ⟨(Value.slice (some ⟨G4, 0, none⟩) l0.length cap5), retv_tmp rfl rfl, ?_⟩
   have hMl : EntsMine 5 w16 w.heap.size (.slice (some ⟨G4, 0, none⟩) l.length cap5) l := by rw [List.take_of_length_le (by omega)] at hM; rw [hln]; exact hM
   exact ⟨l, some ⟨G4, 0, none⟩, cap5, by rw [hln], K17, LogE.mine nG4 H18 (by omega) hc10 hR hMl, hK⟩

theorem CopyM_calls (w : World) (T : Nat → Prop) (g0 : Nat) (base old : Int) (A : Option Addr) (c : Nat) (l : List EntP) (H0 : Has w g0 (rowL [i64 base, i64 old, .slice A l.length c] 78)) (hE : Ents w T (.slice A l.length c) l) (hT : ∀ i, T i → i ≠ g0) (hB : 0 ≤ base ∧ base ≤ 2305843009213693952) (hL : l.length ≤ 4096) (hBig : BigK (l.map EntP.key)) : Calls Try.prog 35 ⟨[(ptr g0)]⟩ w (fun e w' => ∃ g l' A' c', e = .returned (ptr g) ∧ w.heap.size ≤ g ∧ Keeps none_ w w' ∧ Has w' g (rowL [i64 base, i64 old, .slice A' l'.length c'] 78) ∧ LogE w' w.heap.size 43 (fun i => (w.heap.size ≤ i ∧ i < w'.heap.size) ∧ i ≠ g) (.slice A' l'.length c') l' ∧ l'.map EntP.key = (l.map EntP.key)) := by
 have hcap := Ents.len hE
 have Hg := H0.lt
 have hcm := hcap.2.2
 unfold maxLen at hcm
 have K0 : Keeps none_ w w := Keeps.refl w
 refine q_calls Try.func35 (by kernel_rfl) (by kernel_rfl) ?_
 refine qs ?_
 refine qg ?_
 refine og 1 [(0, (ptr g0)), (2, (Value.pointer none))] 1 ?_
 refine od ?_
 refine qs ?_
 refine qs ?_
 refine qg ?_
 refine og 2 [(0, (ptr g0)), (2, (Value.pointer none)), (4, (Value.bool false))] 2 ?_
 refine od ?_
 refine q_else (o := .tmp 4) (by kernel_rfl) rfl ?_
 refine q_skip (by kernel_rfl) ?_
 refine qs ?_
 refine q_draw (fun wz => Keeps none_ w wz) 16 (by kernel_rfl) (by kernel_rfl) (by kernel_rfl) (fun w1 K2 _ _ => ⟨K2, ?_⟩)
 replace K0 := K0.t0 K2
 replace H0 := H0.keep K2 (fun h => h)
 replace hE := Ents.keep0 hE K2
 refine Dr.strong (S' := (fun wz => Keeps none_ w1 wz)) (Keeps.refl w1) (fun wz hx => K2.trans hx (fun i _ h => h) (fun _ _ h => h)) ?_
 clear K2
 refine Dr.takes (fuel' := 13) (is' := [2, 1, 0]) [0, 1, 2] [(0, (ptr g0)), (2, (Value.pointer none)), (7, (ptr g0))] (by kernel_rfl) rfl (by kernel_rfl) ?_
 refine Dr.take (i := 3) (v := (i64 base)) (by kernel_rfl) (by kernel_rfl) (fun wz hS => Runs.load (t := 2) (a := ⟨g0, 0, none⟩) (by kernel_rfl) ((H0.keep hS (fun h => h)).loads (by kernel_rfl))) (d := (some 8)) (by kernel_rfl) rfl ?_
 refine Dr.takes (fuel' := 9) (is' := [6, 5, 4, 3, 2, 1, 0]) [4, 5, 6] [(0, (ptr g0)), (2, (Value.pointer none)), (8, (i64 base)), (11, (Value.pointer (some ⟨g0, 1, none⟩)))] (by kernel_rfl) rfl (by kernel_rfl) ?_
 refine Dr.take (i := 7) (v := (i64 old)) (by kernel_rfl) (by kernel_rfl) (fun wz hS => Runs.load (t := 2) (a := ⟨g0, 1, none⟩) (by kernel_rfl) ((H0.keep hS (fun h => h)).loads (by kernel_rfl))) (d := (some 12)) (by kernel_rfl) rfl ?_
 refine Dr.takes (fuel' := 5) (is' := [10, 9, 8, 7, 6, 5, 4, 3, 2, 1, 0]) [8, 9, 10] [(2, (Value.pointer none)), (8, (i64 base)), (12, (i64 old)), (15, (Value.pointer (some ⟨g0, 2, none⟩)))] (by kernel_rfl) rfl (by kernel_rfl) ?_
 refine Dr.take (i := 11) (v := (Value.slice A l.length c)) (by kernel_rfl) (by kernel_rfl) (fun wz hS => Runs.load (t := 22) (a := ⟨g0, 2, none⟩) (by kernel_rfl) ((H0.keep hS (fun h => h)).loads (by kernel_rfl))) (d := (some 16)) (by kernel_rfl) rfl ?_
 refine Dr.call (i := 12) (by kernel_rfl) (by kernel_rfl) (d := (some 17)) (by kernel_rfl) (fun _ => ownM_calls _ T A c l hE (BigK.l hBig) (by omega)) ?_
 rintro _ w6 ⟨l3, A4, c5, rfl, K7, hM13, hK9⟩
 have hE8 := hM13.ents
 have ot10 : ∀ i, (fun i => w1.heap.size ≤ i ∧ i < w6.heap.size) i → i ≠ g0 := fun i hi => by have := hi.1; have := H0.lt; omega
 have hz11 := K0.size
 have hn12 := keys_len2 hK9
 try rw [List.length_drop] at hn12
 try rw [List.length_append] at hn12
 try rw [List.length_map] at hn12
 try rw [List.length_map] at hn12
 replace K0 := K0.t0 K7
 replace H0 := H0.keep K7 (fun h => h)
 replace hE := Ents.keep0 hE K7
 refine ⟨_, _, rfl, rfl, K7, ?_⟩
 refine Dr.strong (S' := (fun wz => Keeps none_ w6 wz)) (Keeps.refl w6) (fun wz hx => K7.trans hx (fun i _ h => h) (fun _ _ h => h)) ?_
 clear K7
 refine Dr.takes (fuel' := 2) (is' := [13, 12, 11, 10, 9, 8, 7, 6, 5, 4, 3, 2, 1, 0]) [13] [(2, (Value.pointer none)), (18, (agg [(i64 base), (i64 old), (Value.slice A4 l3.length c5)]))] (by kernel_rfl) rfl (by kernel_rfl) ?_
 refine Dr.new (i := 14) (o := rowL [(i64 base), (i64 old), (Value.slice A4 l3.length c5)] 78) (V := fun b => (ptr b)) (by kernel_rfl) (by kernel_rfl) (d := (some 19)) (by kernel_rfl) (fun b => rfl) (fun b14 w15 hb16 H17 K18 hs19 => ?_)
 have lb14g0 : g0 < b14 := by have := H0.lt; omega
 have nb14 : w.heap.size ≤ b14 := by have := K0.size; omega
 have ot20 : ∀ i, T i → i ≠ b14 := fun i hi => by have := Ents.lt hE i hi; omega
 have ot21 : ∀ i, (fun i => w1.heap.size ≤ i ∧ i < w6.heap.size) i → i ≠ b14 := fun i hi => by have := Ents.lt hE8 i hi; omega
 replace K0 := K0.t0 K18
 replace H0 := H0.keep K18 (fun h => h)
 replace hE := Ents.keep0 hE K18
 replace hE8 := Ents.keep0 hE8 K18
 replace hM13 := LogE.keep0 hM13 K18
 refine ⟨K18, ?_⟩
 refine Dr.strong (S' := (fun wz => Keeps none_ w15 wz)) (Keeps.refl w15) (fun wz hx => K18.trans hx (fun i _ h => h) (fun _ _ h => h)) ?_
 clear K18 hs19
 refine Dr.takes (fuel' := 0) (is' := [15, 14, 13, 12, 11, 10, 9, 8, 7, 6, 5, 4, 3, 2, 1, 0]) [15] [(2, (ptr b14))] (by kernel_rfl) rfl (by kernel_rfl) ?_
 refine Dr.done (by kernel_rfl) ?_
 refine q_ret (by kernel_rfl) ?_
 refine ⟨(ptr b14), retv_tmp rfl rfl, ?_⟩
 exact ⟨b14, l3, A4, c5, rfl, nb14, K0, H17, ⟨(hM13).ents.mono (fun i hi => ⟨⟨by have := hi.1; omega, Ents.lt hE8 i hi⟩, ot21 i hi⟩) (fun i hi => hi.1.2), own_base hM13.own (by first | omega | exact Nat.le_refl _ | exact hz0), hM13.apart, fun i hi => ⟨⟨by have := (hM13.ownT i hi).1; omega, Ents.lt hE8 i (hM13.ownT i hi)⟩, ot21 i (hM13.ownT i hi)⟩⟩, hK9⟩
end Go.Proofs.Ytnmpepjikfbpdaa
namespace Go.Proofs.Ytnmpepjikfbpdaa
open Go.Q Go.RowKit

theorem within_calls (w : World) (n lo hi : Int)  : Calls Try.prog 34 ⟨[(i64 n), (i64 lo), (i64 hi)]⟩ w (fun e w' => ∃ t, e = .returned (.bool t) ∧ (t = true ↔ lo ≤ n ∧ n ≤ hi) ∧ Keeps none_ w w') := by
 have K0 : Keeps none_ w w := Keeps.refl w
 refine q_calls Try.func34 (by kernel_rfl) (by kernel_rfl) ?_
 refine qs ?_
 refine qg ?_
 refine og 1 [(0, (i64 n)), (1, (i64 lo)), (2, (i64 hi)), (6, (Value.bool false))] 1 ?_
 refine od ?_
 refine qs ?_
 refine qg ?_
 refine og 4 [(0, (i64 n)), (2, (i64 hi)), (6, (Value.bool false)), (10, (Value.bool (decide (n ≥ lo))))] 4 ?_
 refine Ops.split (decide (n ≥ lo)) (fun h1 => ?_) (fun h1 => ?_)
 ·rw [h1]
  have p2 : n ≥ lo := of_decide_eq_true h1
  refine og 5 [(6, (Value.bool (decide (n ≤ hi))))] 9 ?_
  refine od ?_
  refine q_ret (by kernel_rfl) ?_
  refine ⟨(Value.bool (decide (n ≤ hi))), retv_tmp rfl rfl, ?_⟩
  exact ⟨_, rfl, by first | (simp only [decide_eq_true_eq, Bool.false_eq_true, false_iff, true_iff]; omega) | (simp; omega), K0⟩
 ·rw [h1]
  have p3 : ¬ (n ≥ lo) := of_decide_eq_false h1
  refine og 5 [(6, (Value.bool false))] 9 ?_
  refine od ?_
  refine q_ret (by kernel_rfl) ?_
  refine ⟨(Value.bool false), retv_tmp rfl rfl, ?_⟩
  exact ⟨_, rfl, by first | (simp only [decide_eq_true_eq, Bool.false_eq_true, false_iff, true_iff]; omega) | (simp; omega), K0⟩

set_option maxHeartbeats 1000000 in
theorem RNew_calls (w : World) (group term voted commit : Int) (T : Nat → Prop) (g : Nat) (base old : Int) (A : Option Addr) (c : Nat) (l : List EntP) (H0 : Has w g (rowL [i64 base, i64 old, .slice A l.length c] 78)) (hE : Ents w T (.slice A l.length c) l) (hT : ∀ i, T i → i ≠ g) (hB : 0 ≤ base ∧ base ≤ 2305843009213693952) (hL : l.length ≤ 4096) (hBig : BigK (l.map EntP.key)) (hgr : 0 ≤ group ∧ group ≤ 3) (ht : lastK base old (l.map EntP.key) ≤ term ∧ term ≤ 1152921504606846976) (hv : -1 ≤ voted ∧ voted < 1) (hc : base ≤ commit ∧ commit ≤ base + (l.length : Int)) : Calls Try.prog 12 ⟨[(i64 group), (i64 0), (i64 1), (i64 term), (i64 voted), (ptr g), (i64 commit)]⟩ w (fun e w' => ∃ r g2 l' A' c' T', e = .returned (.tuple #[ptr r, i64 0]) ∧ Keeps none_ w w' ∧ w.heap.size ≤ r ∧ w.heap.size ≤ g2 ∧ r ≠ g2 ∧ Has w' r (rowL [(i64 term), (i64 voted), (i64 0), (i64 (-1)), (i64 commit), (i64 group), (i64 0), (i64 1), (ptr g2), (i64 0), (i64 10), (Value.slice none 0 0), (Value.map none), (Value.slice none 0 0), (Value.pointer none), (Value.pointer none), (Value.bool false), (Value.slice none 0 0)] 84) ∧ Has w' g2 (rowL [i64 base, i64 old, .slice A' l'.length c'] 78) ∧ LogE w' w.heap.size 43 T' (.slice A' l'.length c') l' ∧ l'.map EntP.key = (l.map EntP.key) ∧ ∀ i, T' i → i ≠ g2 ∧ i ≠ r ∧ w.heap.size ≤ i) := by
 have hcap := Ents.len hE
 have Hg := H0.lt
 have K0 : Keeps none_ w w := Keeps.refl w
 refine q_calls Try.func12 (by kernel_rfl) (by kernel_rfl) ?_
 refine qs ?_
 refine qg ?_
 refine og 2 [(0, (i64 group)), (1, (i64 0)), (2, (i64 1)), (3, (i64 term)), (4, (i64 voted)), (5, (ptr g)), (6, (i64 commit)), (14, (Value.pointer none)), (15, (i64 0))] 2 ?_
 refine od ?_
 refine qs ?_
 refine qs ?_
 refine qg ?_
 refine og 2 [(0, (i64 group)), (1, (i64 0)), (2, (i64 1)), (3, (i64 term)), (4, (i64 voted)), (5, (ptr g)), (6, (i64 commit)), (14, (Value.pointer none)), (15, (i64 0)), (22, (Value.bool false))] 2 ?_
 refine od ?_
 refine q_else (o := .tmp 22) (by kernel_rfl) rfl ?_
 refine q_skip (by kernel_rfl) ?_
 refine qs ?_
 refine qg ?_
 refine og 1 [(0, (i64 group)), (1, (i64 0)), (2, (i64 1)), (3, (i64 term)), (4, (i64 voted)), (5, (ptr g)), (6, (i64 commit)), (14, (Value.pointer none)), (15, (i64 0)), (24, (ptr g))] 1 ?_
 refine Ops.call (by kernel_rfl) (d := (some 25)) (by kernel_rfl) (Base_calls _ T g base old A c l H0 hE hT (by omega) (by omega)) ?_
 rintro _ w2 ⟨rfl, K1⟩
 refine ⟨_, _, rfl, rfl, ?_⟩
 replace K0 := K0.t0 K1
 replace H0 := H0.keep K1 (fun h => h)
 replace hE := Ents.keep0 hE K1
 clear K1
 refine og 5 [(0, (i64 group)), (1, (i64 0)), (2, (i64 1)), (3, (i64 term)), (4, (i64 voted)), (5, (ptr g)), (6, (i64 commit)), (14, (Value.pointer none)), (15, (i64 0)), (16, (i64 base))] 7 ?_
 refine od ?_
 refine qs ?_
 refine qg ?_
 refine og 1 [(0, (i64 group)), (1, (i64 0)), (2, (i64 1)), (3, (i64 term)), (4, (i64 voted)), (5, (ptr g)), (6, (i64 commit)), (14, (Value.pointer none)), (15, (i64 0)), (16, (i64 base)), (29, (ptr g))] 1 ?_
 refine Ops.call (by kernel_rfl) (d := (some 30)) (by kernel_rfl) (Last_calls _ T g base old A c l H0 hE hT (by omega) (by omega)) ?_
 rintro _ w4 ⟨rfl, K3⟩
 refine ⟨_, _, rfl, rfl, ?_⟩
 replace K0 := K0.t0 K3
 replace H0 := H0.keep K3 (fun h => h)
 replace hE := Ents.keep0 hE K3
 clear K3
 refine og 5 [(0, (i64 group)), (1, (i64 0)), (2, (i64 1)), (3, (i64 term)), (4, (i64 voted)), (5, (ptr g)), (6, (i64 commit)), (14, (Value.pointer none)), (15, (i64 0)), (16, (i64 base)), (18, (i64 (base + ((l.length : Nat) : Int)))), (19, (i64 (lastK base old (l.map EntP.key))))] 7 ?_
 refine od ?_
 refine qs ?_
 refine qs ?_
 refine qg ?_
 refine og 3 [(0, (i64 group)), (1, (i64 0)), (2, (i64 1)), (3, (i64 term)), (4, (i64 voted)), (5, (ptr g)), (6, (i64 commit)), (14, (Value.pointer none)), (15, (i64 0)), (16, (i64 base)), (18, (i64 (base + ((l.length : Nat) : Int)))), (19, (i64 (lastK base old (l.map EntP.key)))), (35, (Value.bool (decide (group < 0))))] 3 ?_
 have h5 : (decide (group < 0)) = false := decide_eq_false (by omega)
 rw [h5]
 refine og 4 [(0, (i64 group)), (1, (i64 0)), (2, (i64 1)), (3, (i64 term)), (4, (i64 voted)), (5, (ptr g)), (6, (i64 commit)), (14, (Value.pointer none)), (15, (i64 0)), (16, (i64 base)), (18, (i64 (base + ((l.length : Nat) : Int)))), (19, (i64 (lastK base old (l.map EntP.key)))), (39, (Value.bool (decide (group > 3))))] 7 ?_
 have h6 : (decide (group > 3)) = false := decide_eq_false (by omega)
 rw [h6]
 refine og 19 [(0, (i64 group)), (1, (i64 0)), (2, (i64 1)), (3, (i64 term)), (4, (i64 voted)), (5, (ptr g)), (6, (i64 commit)), (14, (Value.pointer none)), (15, (i64 0)), (16, (i64 base)), (18, (i64 (base + ((l.length : Nat) : Int)))), (56, (Value.bool false)), (57, (i64 term)), (58, (i64 (lastK base old (l.map EntP.key))))] 26 ?_
 refine Ops.call (by kernel_rfl) (d := (some 59)) (by kernel_rfl) (within_calls _ term (lastK base old (l.map EntP.key)) 1152921504606846976) ?_
 rintro _ w10 ⟨t7, rfl, ht8, K9⟩
 refine ⟨_, _, rfl, rfl, ?_⟩
 replace K0 := K0.t0 K9
 replace H0 := H0.keep K9 (fun h => h)
 replace hE := Ents.keep0 hE K9
 clear K9
 refine og 3 [(0, (i64 group)), (1, (i64 0)), (2, (i64 1)), (3, (i64 term)), (4, (i64 voted)), (5, (ptr g)), (6, (i64 commit)), (14, (Value.pointer none)), (15, (i64 0)), (16, (i64 base)), (18, (i64 (base + ((l.length : Nat) : Int)))), (62, (Value.bool (!t7)))] 30 ?_
 have h11 : (!t7) = false := by rw [show t7 = true from ht8.2 ⟨by omega, by omega⟩]; rfl
 rw [h11]
 refine og 4 [(0, (i64 group)), (1, (i64 0)), (2, (i64 1)), (3, (i64 term)), (4, (i64 voted)), (5, (ptr g)), (6, (i64 commit)), (14, (Value.pointer none)), (15, (i64 0)), (16, (i64 base)), (18, (i64 (base + ((l.length : Nat) : Int)))), (66, (Value.bool (decide (voted < (-1)))))] 34 ?_
 have h12 : (decide (voted < (-1))) = false := decide_eq_false (by omega)
 rw [h12]
 refine og 5 [(0, (i64 group)), (1, (i64 0)), (2, (i64 1)), (3, (i64 term)), (4, (i64 voted)), (5, (ptr g)), (6, (i64 commit)), (14, (Value.pointer none)), (15, (i64 0)), (16, (i64 base)), (18, (i64 (base + ((l.length : Nat) : Int)))), (71, (Value.bool (decide (voted ≥ 1))))] 39 ?_
 have h13 : (decide (voted ≥ 1)) = false := decide_eq_false (by omega)
 rw [h13]
 refine og 3 [(0, (i64 group)), (1, (i64 0)), (2, (i64 1)), (3, (i64 term)), (4, (i64 voted)), (5, (ptr g)), (6, (i64 commit)), (14, (Value.pointer none)), (15, (i64 0)), (71, (Value.bool false)), (72, (i64 commit)), (73, (i64 base)), (74, (i64 (base + ((l.length : Nat) : Int))))] 42 ?_
 refine Ops.call (by kernel_rfl) (d := (some 75)) (by kernel_rfl) (within_calls _ commit base (base + ((l.length : Nat) : Int))) ?_
 rintro _ w17 ⟨t14, rfl, ht15, K16⟩
 refine ⟨_, _, rfl, rfl, ?_⟩
 replace K0 := K0.t0 K16
 replace H0 := H0.keep K16 (fun h => h)
 replace hE := Ents.keep0 hE K16
 clear K16
 refine og 2 [(0, (i64 group)), (1, (i64 0)), (2, (i64 1)), (3, (i64 term)), (4, (i64 voted)), (5, (ptr g)), (6, (i64 commit)), (14, (Value.pointer none)), (15, (i64 0)), (77, (Value.bool (!t14)))] 45 ?_
 refine od ?_
 have h18 : (!t14) = false := by rw [show t14 = true from ht15.2 ⟨by omega, by omega⟩]; rfl
 rw [h18]
 refine q_else (o := .tmp 77) (by kernel_rfl) rfl ?_
 refine q_skip (by kernel_rfl) ?_
 refine qs ?_
 refine qg ?_
 refine og 8 [(14, (Value.pointer none)), (15, (i64 0)), (81, (agg [(i64 term), (i64 voted), (i64 0), (i64 (-1)), (i64 commit)])), (82, (i64 group)), (83, (i64 0)), (84, (i64 1)), (85, (ptr g))] 8 ?_
 refine Ops.call (by kernel_rfl) (d := (some 86)) (by kernel_rfl) (CopyM_calls _ T g base old A c l H0 hE hT (by omega) (by omega) hBig) ?_
 rintro _ w23 ⟨g19, l20, A21, c22, rfl, hg28, K24, H25, hM33, hK27⟩
 have hE26 := hM33.ents
 have hz34 := K0.size
 replace hM33 := hM33.base (bs' := w.heap.size) hz34
 have ot29 : ∀ i, (fun i => (w17.heap.size ≤ i ∧ i < w23.heap.size) ∧ i ≠ g19) i → i ≠ g := fun i hi => by have := hi.1.1; have := H0.lt; omega
 have lg19g : g < g19 := by have := H0.lt; omega
 have ot30 : ∀ i, T i → i ≠ g19 := fun i hi => by have := Ents.lt hE i hi; omega
 have ot31 : ∀ i, (fun i => (w17.heap.size ≤ i ∧ i < w23.heap.size) ∧ i ≠ g19) i → i ≠ g19 := fun i hi => hi.2
 have ng19 : w.heap.size ≤ g19 := by have := K0.size; omega
 have hn32 := keys_len2 hK27
 try rw [List.length_drop] at hn32
 try rw [List.length_append] at hn32
 try rw [List.length_map] at hn32
 try rw [List.length_map] at hn32
 have ot35 : ∀ i, ((Value.slice A21 l20.length c22)).ownBlock = some i → i ≠ g := fun i hi => ot29 i (hM33.ownT i hi)
 have ot36 : ∀ i, ((Value.slice A21 l20.length c22)).ownBlock = some i → i ≠ g19 := fun i hi => ot31 i (hM33.ownT i hi)
 refine ⟨_, _, rfl, rfl, ?_⟩
 replace K0 := K0.t0 K24
 replace H0 := H0.keep K24 (fun h => h)
 replace hE := Ents.keep0 hE K24
 clear K24
 refine og 1 [(14, (Value.pointer none)), (15, (i64 0)), (87, (agg [(i64 term), (i64 voted), (i64 0), (i64 (-1)), (i64 commit), (i64 group), (i64 0), (i64 1), (ptr g19), (i64 0), (i64 0), (Value.slice none 0 0), (Value.map none), (Value.slice none 0 0), (Value.pointer none), (Value.pointer none), (Value.bool false), (Value.slice none 0 0)]))] 10 ?_
 refine Ops.new (o := rowL [(i64 term), (i64 voted), (i64 0), (i64 (-1)), (i64 commit), (i64 group), (i64 0), (i64 1), (ptr g19), (i64 0), (i64 0), (Value.slice none 0 0), (Value.map none), (Value.slice none 0 0), (Value.pointer none), (Value.pointer none), (Value.bool false), (Value.slice none 0 0)] 84) (V := fun b => (ptr b)) (by kernel_rfl) (d := (some 88)) (by kernel_rfl) (fun b => rfl) (fun b37 w38 hb39 H40 K41 hs42 => ?_)
 have lb37g : g < b37 := by have := H0.lt; omega
 have lb37g19 : g19 < b37 := by have := H25.lt; omega
 have nb37 : w.heap.size ≤ b37 := by have := K0.size; omega
 have ot43 : ∀ i, T i → i ≠ b37 := fun i hi => by have := Ents.lt hE i hi; omega
 have ot44 : ∀ i, (fun i => (w17.heap.size ≤ i ∧ i < w23.heap.size) ∧ i ≠ g19) i → i ≠ b37 := fun i hi => by have := Ents.lt hE26 i hi; omega
 have ot45 : ∀ i, ((Value.slice A21 l20.length c22)).ownBlock = some i → i ≠ b37 := fun i hi => ot44 i (hM33.ownT i hi)
 replace K0 := K0.t0 K41
 replace H0 := H0.keep K41 (fun h => h)
 replace H25 := H25.keep K41 (fun h => h)
 replace hE := Ents.keep0 hE K41
 replace hE26 := Ents.keep0 hE26 K41
 replace hM33 := LogE.keep0 hM33 K41
 clear K41 hs42
 refine og 1 [(14, (Value.pointer none)), (15, (i64 0)), (20, (ptr b37))] 12 ?_
 refine od ?_
 refine qs ?_
 refine qg ?_
 refine og 1 [(14, (Value.pointer none)), (15, (i64 0)), (20, (ptr b37)), (89, (ptr b37))] 1 ?_
 refine Ops.call (by kernel_rfl) (d := (some 90)) (by kernel_rfl) (wait_calls _ b37 g19 term voted 0 (-1) commit group 0 0 (Value.map none) (Value.slice none 0 0) H40) ?_
 rintro _ w47 ⟨rfl, K46, H48⟩
 refine ⟨_, _, rfl, rfl, ?_⟩
 replace K0 := K0.trans K46 (U := none_) (fun i h1 h2 => h2) (fun i h1 h2 => by have h2 : i = b37 := h2; exfalso; omega)
 replace H0 := H0.keep K46 (by intro h; change g = b37 at h; omega)
 replace H25 := H25.keep K46 (by intro h; change g19 = b37 at h; omega)
 replace hE := Ents.keep hE K46 (fun i hi hs => by have hs : i = b37 := hs; have := ot43 i hi; omega)
 replace hE26 := Ents.keep hE26 K46 (fun i hi hs => by have hs : i = b37 := hs; have := ot44 i hi; omega)
 replace hM33 := LogE.keep hM33 K46 (fun i hi hs => by have hs : i = b37 := hs; have := ot44 i hi; omega)
 clear K46
 refine od ?_
 refine qs ?_
 refine qg ?_
 refine og 3 [(14, (ptr b37)), (15, (i64 0))] 3 ?_
 refine od ?_
 refine q_ret (by kernel_rfl) ?_
 refine ⟨(Value.tuple #[(ptr b37), (i64 0)]), retv_tmp2 rfl rfl rfl, ?_⟩
 exact ⟨b37, g19, l20, A21, c22, _, rfl, K0, nb37, ng19, by omega, H48, H25, hM33, hK27, fun i hi => ⟨ot31 i hi, ot44 i hi, by have := hi.1.1; omega⟩⟩
end Go.Proofs.Ytnmpepjikfbpdaa
namespace Go.Proofs.Ytnmpepjikfbpdaa
open Go.Q Go.RowKit

set_option maxHeartbeats 1000000 in
theorem empty_calls (w : World)   : Calls Try.prog 19 ⟨[(i64 0), (i64 1)]⟩ w (fun e w' => ∃ r g2 l' A' c' T', e = .returned (ptr r) ∧ Keeps none_ w w' ∧ w.heap.size ≤ r ∧ w.heap.size ≤ g2 ∧ r ≠ g2 ∧ Has w' r (rowL [(i64 0), (i64 (-1)), (i64 0), (i64 (-1)), (i64 0), (i64 1), (i64 0), (i64 1), (ptr g2), (i64 0), (i64 10), (Value.slice none 0 0), (Value.map none), (Value.slice none 0 0), (Value.pointer none), (Value.pointer none), (Value.bool false), (Value.slice none 0 0)] 84) ∧ Has w' g2 (rowL [i64 0, i64 0, .slice A' l'.length c'] 78) ∧ LogE w' w.heap.size 43 T' (.slice A' l'.length c') l' ∧ l'.map EntP.key = [] ∧ ∀ i, T' i → i ≠ g2 ∧ i ≠ r ∧ w.heap.size ≤ i) := by
 have K0 : Keeps none_ w w := Keeps.refl w
 refine q_calls Try.func19 (by kernel_rfl) (by kernel_rfl) ?_
 refine qs ?_
 refine qg ?_
 refine og 1 [(0, (i64 0)), (1, (i64 1)), (4, (Value.pointer none))] 1 ?_
 refine od ?_
 refine qs ?_
 refine qg ?_
 have hq1 : newE 0 0 [] = 0 := by decide
 refine Ops.call (by kernel_rfl) (d := (some 10)) (by kernel_rfl) (New_ok _ none_ 0 0 none 0 [] (Ents.nil _) BigK.nil hq1) ?_
 rintro _ w6 ⟨g2, l3, A4, c5, rfl, hg11, K7, H8, hE9, hK10⟩
 have ot12 : ∀ i, (fun i => (w.heap.size ≤ i ∧ i < w6.heap.size) ∧ i ≠ g2) i → i ≠ g2 := fun i hi => hi.2
 have ng2 : w.heap.size ≤ g2 := by have := K0.size; omega
 have hn13 := keys_len2 hK10
 try rw [List.length_drop] at hn13
 try rw [List.length_append] at hn13
 try rw [List.length_map] at hn13
 try rw [List.length_map] at hn13
 refine ⟨_, _, rfl, rfl, ?_⟩
 replace K0 := K0.t0 K7
 clear K7
 have hn0l3 : l3.length = 0 := by have q := congrArg List.length hK10; simpa using q
 refine og 5 [(0, (i64 0)), (1, (i64 1)), (4, (Value.pointer none)), (5, (ptr g2)), (6, (i64 0))] 6 ?_
 refine od ?_
 refine qs ?_
 refine qs ?_
 refine qg ?_
 refine og 6 [(0, (i64 0)), (1, (i64 1)), (4, (Value.pointer none)), (5, (ptr g2)), (18, (Value.bool false))] 6 ?_
 refine od ?_
 refine q_else (o := .tmp 18) (by kernel_rfl) rfl ?_
 refine q_skip (by kernel_rfl) ?_
 refine qs ?_
 refine qg ?_
 refine og 3 [(4, (Value.pointer none)), (20, (i64 0)), (21, (i64 1)), (22, (ptr g2))] 3 ?_
 refine Ops.call (by kernel_rfl) (d := (some 23)) (by kernel_rfl) (RNew_calls _ 1 0 (-1) 0 (fun i => (w.heap.size ≤ i ∧ i < w6.heap.size) ∧ i ≠ g2) g2 0 0 A4 c5 l3 H8 hE9 ot12 (by omega) (by omega) (BigK.keys hK10 BigK.nil) (by omega) ⟨by (try simp only [hK10]); first | decide | rfl, by decide⟩ (by omega) (by omega)) ?_
 rintro _ w20 ⟨b14, g15, l16, A17, c18, T19, rfl, K21, hn28, hn29, hn30, H22, H23, hM24, hK26, hT27⟩
 have hE25 := hM24.ents
 have hw31 := K0.size
 replace hM24 := hM24.base (bs' := w.heap.size) hw31
 have nb14 : w.heap.size ≤ b14 := by omega
 have ng15 : w.heap.size ≤ g15 := by omega
 have ot32 : ∀ i, T19 i → i ≠ g2 := fun i hi => by have := (hT27 i hi).2.2; have := H8.lt; omega
 have ot33 : ∀ i, ((Value.slice A17 l16.length c18)).ownBlock = some i → i ≠ g2 := fun i hi => ot32 i (hM24.ownT i hi)
 have lb14g2 : g2 < b14 := by have := H8.lt; omega
 have lg15g2 : g2 < g15 := by have := H8.lt; omega
 have ot34 : ∀ i, T19 i → i ≠ b14 := fun i hi => (hT27 i hi).2.1
 have ot35 : ∀ i, ((Value.slice A17 l16.length c18)).ownBlock = some i → i ≠ b14 := fun i hi => ot34 i (hM24.ownT i hi)
 have ot36 : ∀ i, T19 i → i ≠ g15 := fun i hi => (hT27 i hi).1
 have ot37 : ∀ i, ((Value.slice A17 l16.length c18)).ownBlock = some i → i ≠ g15 := fun i hi => ot36 i (hM24.ownT i hi)
 have hl38 : l16.length = l3.length := by have q := congrArg List.length hK26; simpa using q
 refine ⟨_, _, rfl, rfl, ?_⟩
 replace K0 := K0.t0 K21
 replace H8 := H8.keep K21 (fun h => h)
 replace hE9 := Ents.keep0 hE9 K21
 clear K21
 have hbigl16 : BigK (l16.map EntP.key) := by rw [hK26]; exact (BigK.keys hK10 BigK.nil)
 refine og 5 [(4, (Value.pointer none)), (7, (ptr b14)), (8, (i64 0))] 9 ?_
 refine od ?_
 refine qs ?_
 refine qs ?_
 refine qg ?_
 refine og 2 [(4, (Value.pointer none)), (7, (ptr b14)), (27, (Value.bool false))] 2 ?_
 refine od ?_
 refine q_else (o := .tmp 27) (by kernel_rfl) rfl ?_
 refine q_skip (by kernel_rfl) ?_
 refine qs ?_
 refine qg ?_
 refine og 2 [(4, (ptr b14))] 2 ?_
 refine od ?_
 refine q_ret (by kernel_rfl) ?_
 refine ⟨(ptr b14), retv_tmp rfl rfl, ?_⟩
 have hz9 : ∀ i, T19 i → w.heap.size ≤ i := fun i hi => Nat.le_trans hw31 (hT27 i hi).2.2
 exact ⟨b14, g15, l16, A17, c18, T19, rfl, K0, nb14, ng15, by omega, H22, H23, hM24, by rw [hK26, hK10]; rfl, fun i hi => ⟨ot36 i hi, ot34 i hi, hz9 i hi⟩⟩

set_option maxHeartbeats 4000000 in
theorem known_calls (w : World)   : Calls Try.prog 11 ⟨[]⟩ w (fun e w' => e = .returned (.bool true) ∧ Keeps none_ w w') := by
 have K0 : Keeps none_ w w := Keeps.refl w
 refine q_calls Try.func11 (by kernel_rfl) (by kernel_rfl) ?_
 refine qs ?_
 refine qg ?_
 refine og 1 [(0, (Value.bool false))] 1 ?_
 refine od ?_
 refine qs ?_
 refine qg ?_
 refine Ops.call (by kernel_rfl) (d := (some 8)) (by kernel_rfl) (empty_calls _) ?_
 rintro _ w7 ⟨b1, g2, l3, A4, c5, T6, rfl, K8, hn15, hn16, hn17, H9, H10, hM11, hK13, hT14⟩
 have hE12 := hM11.ents
 have hw18 := K0.size
 replace hM11 := hM11.base (bs' := w.heap.size) hw18
 have nb1 : w.heap.size ≤ b1 := by omega
 have ng2 : w.heap.size ≤ g2 := by omega
 have ot19 : ∀ i, T6 i → i ≠ b1 := fun i hi => (hT14 i hi).2.1
 have ot20 : ∀ i, ((Value.slice A4 l3.length c5)).ownBlock = some i → i ≠ b1 := fun i hi => ot19 i (hM11.ownT i hi)
 have ot21 : ∀ i, T6 i → i ≠ g2 := fun i hi => (hT14 i hi).1
 have ot22 : ∀ i, ((Value.slice A4 l3.length c5)).ownBlock = some i → i ≠ g2 := fun i hi => ot21 i (hM11.ownT i hi)
 have hl23 : l3.length = 0 := by have q := congrArg List.length hK13; simpa using q
 refine ⟨_, _, rfl, rfl, ?_⟩
 replace K0 := K0.t0 K8
 clear K8
 have hbigl3 : BigK (l3.map EntP.key) := by rw [hK13]; exact BigK.nil
 refine og 1 [(0, (Value.bool false)), (1, (ptr b1))] 2 ?_
 refine od ?_
 refine qs ?_
 refine qs ?_
 refine qg ?_
 refine og 2 [(0, (Value.bool false)), (1, (ptr b1)), (10, (Value.bool false))] 2 ?_
 refine od ?_
 refine q_else (o := .tmp 10) (by kernel_rfl) rfl ?_
 refine q_skip (by kernel_rfl) ?_
 refine qs ?_
 refine qs ?_
 refine qg ?_
 refine og 1 [(0, (Value.bool false)), (1, (ptr b1)), (2, (i64 0))] 1 ?_
 refine od ?_
 refine q_block (id := 0) (by kernel_rfl) ?_
 refine q_roll 11 (by kernel_rfl) ?_
 refine roll_step ?_
 refine qs ?_
 refine qs ?_
 refine qg ?_
 refine og 2 [(0, (Value.bool false)), (1, (ptr b1)), (2, (i64 0)), (12, (Value.bool true))] 2 ?_
 refine od ?_
 refine q_then (o := .tmp 12) (by kernel_rfl) rfl ?_
 refine q_skip (by kernel_rfl) ?_
 refine qs ?_
 refine q_block (id := 1) (by kernel_rfl) ?_
 refine qg ?_
 refine og 1 [(0, (Value.bool false)), (1, (ptr b1)), (2, (i64 0)), (12, (Value.bool true)), (15, (ptr b1))] 1 ?_
 refine Ops.call (by kernel_rfl) (d := (some 16)) (by kernel_rfl) (Tick_wait _ b1 g2 0 (-1) 0 (-1) 0 1 0 10 (Value.map none) (Value.slice none 0 0) H9 (by first | omega | decide) (by first | omega | decide) (by first | omega | decide)) ?_
 rintro _ w25 ⟨rfl, K24, H26⟩
 refine ⟨_, _, rfl, rfl, ?_⟩
 replace K0 := K0.trans K24 (U := none_) (fun i h1 h2 => h2) (fun i h1 h2 => by have h2 : i = b1 := h2; exfalso; omega)
 replace H10 := H10.keep K24 (by intro h; change g2 = b1 at h; omega)
 replace hE12 := Ents.keep hE12 K24 (fun i hi hs => by have hs : i = b1 := hs; have := ot19 i hi; omega)
 replace hM11 := LogE.keep hM11 K24 (fun i hi hs => by have hs : i = b1 := hs; have := ot19 i hi; omega)
 clear K24
 refine od ?_
 refine qg ?_
 refine og 3 [(0, (Value.bool false)), (1, (ptr b1)), (2, (i64 1)), (12, (Value.bool true))] 3 ?_
 refine od ?_
 refine roll_step ?_
 refine qs ?_
 refine qs ?_
 refine qg ?_
 refine og 2 [(0, (Value.bool false)), (1, (ptr b1)), (2, (i64 1)), (12, (Value.bool true))] 2 ?_
 refine od ?_
 refine q_then (o := .tmp 12) (by kernel_rfl) rfl ?_
 refine q_skip (by kernel_rfl) ?_
 refine qs ?_
 refine q_block (id := 1) (by kernel_rfl) ?_
 refine qg ?_
 refine og 1 [(0, (Value.bool false)), (1, (ptr b1)), (2, (i64 1)), (12, (Value.bool true)), (15, (ptr b1))] 1 ?_
 refine Ops.call (by kernel_rfl) (d := (some 16)) (by kernel_rfl) (Tick_wait _ b1 g2 0 (-1) 0 (-1) 0 1 1 10 (Value.map none) (Value.slice none 0 0) H26 (by first | omega | decide) (by first | omega | decide) (by first | omega | decide)) ?_
 rintro _ w28 ⟨rfl, K27, H29⟩
 refine ⟨_, _, rfl, rfl, ?_⟩
 replace K0 := K0.trans K27 (U := none_) (fun i h1 h2 => h2) (fun i h1 h2 => by have h2 : i = b1 := h2; exfalso; omega)
 replace H10 := H10.keep K27 (by intro h; change g2 = b1 at h; omega)
 replace hE12 := Ents.keep hE12 K27 (fun i hi hs => by have hs : i = b1 := hs; have := ot19 i hi; omega)
 replace hM11 := LogE.keep hM11 K27 (fun i hi hs => by have hs : i = b1 := hs; have := ot19 i hi; omega)
 clear K27
 refine od ?_
 refine qg ?_
 refine og 3 [(0, (Value.bool false)), (1, (ptr b1)), (2, (i64 2)), (12, (Value.bool true))] 3 ?_
 refine od ?_
 refine roll_step ?_
 refine qs ?_
 refine qs ?_
 refine qg ?_
 refine og 2 [(0, (Value.bool false)), (1, (ptr b1)), (2, (i64 2)), (12, (Value.bool true))] 2 ?_
 refine od ?_
 refine q_then (o := .tmp 12) (by kernel_rfl) rfl ?_
 refine q_skip (by kernel_rfl) ?_
 refine qs ?_
 refine q_block (id := 1) (by kernel_rfl) ?_
 refine qg ?_
 refine og 1 [(0, (Value.bool false)), (1, (ptr b1)), (2, (i64 2)), (12, (Value.bool true)), (15, (ptr b1))] 1 ?_
 refine Ops.call (by kernel_rfl) (d := (some 16)) (by kernel_rfl) (Tick_wait _ b1 g2 0 (-1) 0 (-1) 0 1 2 10 (Value.map none) (Value.slice none 0 0) H29 (by first | omega | decide) (by first | omega | decide) (by first | omega | decide)) ?_
 rintro _ w31 ⟨rfl, K30, H32⟩
 refine ⟨_, _, rfl, rfl, ?_⟩
 replace K0 := K0.trans K30 (U := none_) (fun i h1 h2 => h2) (fun i h1 h2 => by have h2 : i = b1 := h2; exfalso; omega)
 replace H10 := H10.keep K30 (by intro h; change g2 = b1 at h; omega)
 replace hE12 := Ents.keep hE12 K30 (fun i hi hs => by have hs : i = b1 := hs; have := ot19 i hi; omega)
 replace hM11 := LogE.keep hM11 K30 (fun i hi hs => by have hs : i = b1 := hs; have := ot19 i hi; omega)
 clear K30
 refine od ?_
 refine qg ?_
 refine og 3 [(0, (Value.bool false)), (1, (ptr b1)), (2, (i64 3)), (12, (Value.bool true))] 3 ?_
 refine od ?_
 refine roll_step ?_
 refine qs ?_
 refine qs ?_
 refine qg ?_
 refine og 2 [(0, (Value.bool false)), (1, (ptr b1)), (2, (i64 3)), (12, (Value.bool true))] 2 ?_
 refine od ?_
 refine q_then (o := .tmp 12) (by kernel_rfl) rfl ?_
 refine q_skip (by kernel_rfl) ?_
 refine qs ?_
 refine q_block (id := 1) (by kernel_rfl) ?_
 refine qg ?_
 refine og 1 [(0, (Value.bool false)), (1, (ptr b1)), (2, (i64 3)), (12, (Value.bool true)), (15, (ptr b1))] 1 ?_
 refine Ops.call (by kernel_rfl) (d := (some 16)) (by kernel_rfl) (Tick_wait _ b1 g2 0 (-1) 0 (-1) 0 1 3 10 (Value.map none) (Value.slice none 0 0) H32 (by first | omega | decide) (by first | omega | decide) (by first | omega | decide)) ?_
 rintro _ w34 ⟨rfl, K33, H35⟩
 refine ⟨_, _, rfl, rfl, ?_⟩
 replace K0 := K0.trans K33 (U := none_) (fun i h1 h2 => h2) (fun i h1 h2 => by have h2 : i = b1 := h2; exfalso; omega)
 replace H10 := H10.keep K33 (by intro h; change g2 = b1 at h; omega)
 replace hE12 := Ents.keep hE12 K33 (fun i hi hs => by have hs : i = b1 := hs; have := ot19 i hi; omega)
 replace hM11 := LogE.keep hM11 K33 (fun i hi hs => by have hs : i = b1 := hs; have := ot19 i hi; omega)
 clear K33
 refine od ?_
 refine qg ?_
 refine og 3 [(0, (Value.bool false)), (1, (ptr b1)), (2, (i64 4)), (12, (Value.bool true))] 3 ?_
 refine od ?_
 refine roll_step ?_
 refine qs ?_
 refine qs ?_
 refine qg ?_
 refine og 2 [(0, (Value.bool false)), (1, (ptr b1)), (2, (i64 4)), (12, (Value.bool true))] 2 ?_
 refine od ?_
 refine q_then (o := .tmp 12) (by kernel_rfl) rfl ?_
 refine q_skip (by kernel_rfl) ?_
 refine qs ?_
 refine q_block (id := 1) (by kernel_rfl) ?_
 refine qg ?_
 refine og 1 [(0, (Value.bool false)), (1, (ptr b1)), (2, (i64 4)), (12, (Value.bool true)), (15, (ptr b1))] 1 ?_
 refine Ops.call (by kernel_rfl) (d := (some 16)) (by kernel_rfl) (Tick_wait _ b1 g2 0 (-1) 0 (-1) 0 1 4 10 (Value.map none) (Value.slice none 0 0) H35 (by first | omega | decide) (by first | omega | decide) (by first | omega | decide)) ?_
 rintro _ w37 ⟨rfl, K36, H38⟩
 refine ⟨_, _, rfl, rfl, ?_⟩
 replace K0 := K0.trans K36 (U := none_) (fun i h1 h2 => h2) (fun i h1 h2 => by have h2 : i = b1 := h2; exfalso; omega)
 replace H10 := H10.keep K36 (by intro h; change g2 = b1 at h; omega)
 replace hE12 := Ents.keep hE12 K36 (fun i hi hs => by have hs : i = b1 := hs; have := ot19 i hi; omega)
 replace hM11 := LogE.keep hM11 K36 (fun i hi hs => by have hs : i = b1 := hs; have := ot19 i hi; omega)
 clear K36
 refine od ?_
 refine qg ?_
 refine og 3 [(0, (Value.bool false)), (1, (ptr b1)), (2, (i64 5)), (12, (Value.bool true))] 3 ?_
 refine od ?_
 refine roll_step ?_
 refine qs ?_
 refine qs ?_
 refine qg ?_
 refine og 2 [(0, (Value.bool false)), (1, (ptr b1)), (2, (i64 5)), (12, (Value.bool true))] 2 ?_
 refine od ?_
 refine q_then (o := .tmp 12) (by kernel_rfl) rfl ?_
 refine q_skip (by kernel_rfl) ?_
 refine qs ?_
 refine q_block (id := 1) (by kernel_rfl) ?_
 refine qg ?_
 refine og 1 [(0, (Value.bool false)), (1, (ptr b1)), (2, (i64 5)), (12, (Value.bool true)), (15, (ptr b1))] 1 ?_
 refine Ops.call (by kernel_rfl) (d := (some 16)) (by kernel_rfl) (Tick_wait _ b1 g2 0 (-1) 0 (-1) 0 1 5 10 (Value.map none) (Value.slice none 0 0) H38 (by first | omega | decide) (by first | omega | decide) (by first | omega | decide)) ?_
 rintro _ w40 ⟨rfl, K39, H41⟩
 refine ⟨_, _, rfl, rfl, ?_⟩
 replace K0 := K0.trans K39 (U := none_) (fun i h1 h2 => h2) (fun i h1 h2 => by have h2 : i = b1 := h2; exfalso; omega)
 replace H10 := H10.keep K39 (by intro h; change g2 = b1 at h; omega)
 replace hE12 := Ents.keep hE12 K39 (fun i hi hs => by have hs : i = b1 := hs; have := ot19 i hi; omega)
 replace hM11 := LogE.keep hM11 K39 (fun i hi hs => by have hs : i = b1 := hs; have := ot19 i hi; omega)
 clear K39
 refine od ?_
 refine qg ?_
 refine og 3 [(0, (Value.bool false)), (1, (ptr b1)), (2, (i64 6)), (12, (Value.bool true))] 3 ?_
 refine od ?_
 refine roll_step ?_
 refine qs ?_
 refine qs ?_
 refine qg ?_
 refine og 2 [(0, (Value.bool false)), (1, (ptr b1)), (2, (i64 6)), (12, (Value.bool true))] 2 ?_
 refine od ?_
 refine q_then (o := .tmp 12) (by kernel_rfl) rfl ?_
 refine q_skip (by kernel_rfl) ?_
 refine qs ?_
 refine q_block (id := 1) (by kernel_rfl) ?_
 refine qg ?_
 refine og 1 [(0, (Value.bool false)), (1, (ptr b1)), (2, (i64 6)), (12, (Value.bool true)), (15, (ptr b1))] 1 ?_
 refine Ops.call (by kernel_rfl) (d := (some 16)) (by kernel_rfl) (Tick_wait _ b1 g2 0 (-1) 0 (-1) 0 1 6 10 (Value.map none) (Value.slice none 0 0) H41 (by first | omega | decide) (by first | omega | decide) (by first | omega | decide)) ?_
 rintro _ w43 ⟨rfl, K42, H44⟩
 refine ⟨_, _, rfl, rfl, ?_⟩
 replace K0 := K0.trans K42 (U := none_) (fun i h1 h2 => h2) (fun i h1 h2 => by have h2 : i = b1 := h2; exfalso; omega)
 replace H10 := H10.keep K42 (by intro h; change g2 = b1 at h; omega)
 replace hE12 := Ents.keep hE12 K42 (fun i hi hs => by have hs : i = b1 := hs; have := ot19 i hi; omega)
 replace hM11 := LogE.keep hM11 K42 (fun i hi hs => by have hs : i = b1 := hs; have := ot19 i hi; omega)
 clear K42
 refine od ?_
 refine qg ?_
 refine og 3 [(0, (Value.bool false)), (1, (ptr b1)), (2, (i64 7)), (12, (Value.bool true))] 3 ?_
 refine od ?_
 refine roll_step ?_
 refine qs ?_
 refine qs ?_
 refine qg ?_
 refine og 2 [(0, (Value.bool false)), (1, (ptr b1)), (2, (i64 7)), (12, (Value.bool true))] 2 ?_
 refine od ?_
 refine q_then (o := .tmp 12) (by kernel_rfl) rfl ?_
 refine q_skip (by kernel_rfl) ?_
 refine qs ?_
 refine q_block (id := 1) (by kernel_rfl) ?_
 refine qg ?_
 refine og 1 [(0, (Value.bool false)), (1, (ptr b1)), (2, (i64 7)), (12, (Value.bool true)), (15, (ptr b1))] 1 ?_
 refine Ops.call (by kernel_rfl) (d := (some 16)) (by kernel_rfl) (Tick_wait _ b1 g2 0 (-1) 0 (-1) 0 1 7 10 (Value.map none) (Value.slice none 0 0) H44 (by first | omega | decide) (by first | omega | decide) (by first | omega | decide)) ?_
 rintro _ w46 ⟨rfl, K45, H47⟩
 refine ⟨_, _, rfl, rfl, ?_⟩
 replace K0 := K0.trans K45 (U := none_) (fun i h1 h2 => h2) (fun i h1 h2 => by have h2 : i = b1 := h2; exfalso; omega)
 replace H10 := H10.keep K45 (by intro h; change g2 = b1 at h; omega)
 replace hE12 := Ents.keep hE12 K45 (fun i hi hs => by have hs : i = b1 := hs; have := ot19 i hi; omega)
 replace hM11 := LogE.keep hM11 K45 (fun i hi hs => by have hs : i = b1 := hs; have := ot19 i hi; omega)
 clear K45
 refine od ?_
 refine qg ?_
 refine og 3 [(0, (Value.bool false)), (1, (ptr b1)), (2, (i64 8)), (12, (Value.bool true))] 3 ?_
 refine od ?_
 refine roll_step ?_
 refine qs ?_
 refine qs ?_
 refine qg ?_
 refine og 2 [(0, (Value.bool false)), (1, (ptr b1)), (2, (i64 8)), (12, (Value.bool true))] 2 ?_
 refine od ?_
 refine q_then (o := .tmp 12) (by kernel_rfl) rfl ?_
 refine q_skip (by kernel_rfl) ?_
 refine qs ?_
 refine q_block (id := 1) (by kernel_rfl) ?_
 refine qg ?_
 refine og 1 [(0, (Value.bool false)), (1, (ptr b1)), (2, (i64 8)), (12, (Value.bool true)), (15, (ptr b1))] 1 ?_
 refine Ops.call (by kernel_rfl) (d := (some 16)) (by kernel_rfl) (Tick_wait _ b1 g2 0 (-1) 0 (-1) 0 1 8 10 (Value.map none) (Value.slice none 0 0) H47 (by first | omega | decide) (by first | omega | decide) (by first | omega | decide)) ?_
 rintro _ w49 ⟨rfl, K48, H50⟩
 refine ⟨_, _, rfl, rfl, ?_⟩
 replace K0 := K0.trans K48 (U := none_) (fun i h1 h2 => h2) (fun i h1 h2 => by have h2 : i = b1 := h2; exfalso; omega)
 replace H10 := H10.keep K48 (by intro h; change g2 = b1 at h; omega)
 replace hE12 := Ents.keep hE12 K48 (fun i hi hs => by have hs : i = b1 := hs; have := ot19 i hi; omega)
 replace hM11 := LogE.keep hM11 K48 (fun i hi hs => by have hs : i = b1 := hs; have := ot19 i hi; omega)
 clear K48
 refine od ?_
 refine qg ?_
 refine og 3 [(0, (Value.bool false)), (1, (ptr b1)), (2, (i64 9)), (12, (Value.bool true))] 3 ?_
 refine od ?_
 refine roll_step ?_
 refine qs ?_
 refine qs ?_
 refine qg ?_
 refine og 2 [(0, (Value.bool false)), (1, (ptr b1)), (2, (i64 9)), (12, (Value.bool true))] 2 ?_
 refine od ?_
 refine q_then (o := .tmp 12) (by kernel_rfl) rfl ?_
 refine q_skip (by kernel_rfl) ?_
 refine qs ?_
 refine q_block (id := 1) (by kernel_rfl) ?_
 refine qg ?_
 refine og 1 [(0, (Value.bool false)), (1, (ptr b1)), (2, (i64 9)), (12, (Value.bool true)), (15, (ptr b1))] 1 ?_
 refine Ops.call (by kernel_rfl) (d := (some 16)) (by kernel_rfl) (Tick_lead _ b1 g2 0 (-1) 0 (-1) 0 1 9 10 (Value.map none) (Value.slice none 0 0) T6 w.heap.size 0 0 A4 c5 l3 H50 H10 hM11 ot21 (by omega) (by omega) (by omega) ot19 (Nat.le_trans (Nat.le_refl _) K0.size) hbigl3 (by first | omega | decide) (by first | omega | decide) (by first | omega | decide) (by rw [show appE 0 0 (l3.map EntP.key) [(0 + 1, [])] = 0 from by simp only [hK13]; first | rfl | decide]) (by omega) (by first | omega | decide)) ?_
 rintro _ w55 ⟨l51, A52, c53, T54, PA63, pc64, mb65, rfl, K56, H57, H58, hM59, hK61, hT62⟩
 have hE60 := hM59.ents
 have ot66 : ∀ i, T54 i → i ≠ b1 := fun i hi => (hT62 i hi).2.1
 have ot67 : ∀ i, ((Value.slice A52 l51.length c53)).ownBlock = some i → i ≠ b1 := fun i hi => ot66 i (hM59.ownT i hi)
 have ot68 : ∀ i, T54 i → i ≠ g2 := fun i hi => (hT62 i hi).1
 have ot69 : ∀ i, ((Value.slice A52 l51.length c53)).ownBlock = some i → i ≠ g2 := fun i hi => ot68 i (hM59.ownT i hi)
 have hn70 : l51.length = l3.length + 1 := by have q := congrArg List.length hK61; simpa using q
 refine ⟨_, _, rfl, rfl, ?_⟩
 replace K0 := K0.trans K56 (U := none_) (fun i h1 h2 => h2) (fun i h1 h2 => by have h2 : i = b1 ∨ i = g2 ∨ ((Value.slice A4 l3.length c5)).ownBlock = some i := h2; rcases h2 with h2 | h2 | h2; (exfalso; omega); (exfalso; omega); (exfalso; have := (World.ownsRow.lt hM11.own i h2).1; omega))
 clear hE12
 clear hM11
 clear K56
 have hbigl51 : BigK (l51.map EntP.key) := by rw [hK61]; exact BigK.app hbigl3 (fun y hy => by rw [List.mem_singleton] at hy; subst hy; exact Nat.zero_le _)
 refine od ?_
 refine qg ?_
 refine og 3 [(0, (Value.bool false)), (1, (ptr b1)), (2, (i64 10)), (12, (Value.bool true))] 3 ?_
 refine od ?_
 refine roll_step ?_
 refine qs ?_
 refine qs ?_
 refine qg ?_
 refine og 2 [(0, (Value.bool false)), (1, (ptr b1)), (2, (i64 10)), (12, (Value.bool false))] 2 ?_
 refine od ?_
 refine q_else (o := .tmp 12) (by kernel_rfl) rfl ?_
 refine q_exit (id := 0) (by kernel_rfl) ?_
 refine qs ?_
 refine qg ?_
 refine og 1 [(0, (Value.bool false)), (1, (ptr b1)), (17, (ptr b1))] 1 ?_
 refine Ops.call (by kernel_rfl) (d := (some 18)) (by kernel_rfl) (Info_calls _ b1 g2 ((0 : Int) + 1) 0 2 0 (agC 0 0 ((0 : Int) + 1) 0 ((l3.map EntP.key) ++ [(((0 : Int) + 1), [])])) 1 0 10 (Value.map (some mb65)) (Value.slice PA63 1 pc64) H57) ?_
 rintro _ w72 ⟨rfl, K71⟩
 refine ⟨_, _, rfl, rfl, ?_⟩
 replace K0 := K0.t0 K71
 replace H57 := H57.keep K71 (fun h => h)
 replace H58 := H58.keep K71 (fun h => h)
 replace hE60 := Ents.keep0 hE60 K71
 replace hM59 := LogE.keep0 hM59 K71
 clear K71
 refine Ops.new (o := rowL [(i64 0), (i64 0), (i64 0), (i64 0), (i64 0)] 35) (V := fun b => (ptr b)) (by kernel_rfl) (d := (some 3)) (by kernel_rfl) (fun b => rfl) (fun b73 w74 hb75 H76 K77 hs78 => ?_)
 have lb73b1 : b1 < b73 := by have := H57.lt; omega
 have lb73g2 : g2 < b73 := by have := H58.lt; omega
 have nb73 : w.heap.size ≤ b73 := by have := K0.size; omega
 have ot79 : ∀ i, T54 i → i ≠ b73 := fun i hi => by have := Ents.lt hE60 i hi; omega
 have ot80 : ∀ i, ((Value.slice A52 l51.length c53)).ownBlock = some i → i ≠ b73 := fun i hi => ot79 i (hM59.ownT i hi)
 replace K0 := K0.t0 K77
 replace H57 := H57.keep K77 (fun h => h)
 replace H58 := H58.keep K77 (fun h => h)
 replace hE60 := Ents.keep0 hE60 K77
 replace hM59 := LogE.keep0 hM59 K77
 clear K77 hs78
 refine Ops.put (t := 35) (b := b73) (off := 0) (v := (agg [(i64 ((0 : Int) + 1)), (i64 0), (i64 2), (i64 0), (i64 (agC 0 0 ((0 : Int) + 1) 0 ((l3.map EntP.key) ++ [(((0 : Int) + 1), [])])))])) (ys := [(i64 ((0 : Int) + 1)), (i64 0), (i64 2), (i64 0), (i64 (agC 0 0 ((0 : Int) + 1) 0 ((l3.map EntP.key) ++ [(((0 : Int) + 1), [])])))]) (by kernel_rfl) (by kernel_rfl) H76 (by kernel_rfl) (d := none) (by kernel_rfl) rfl (fun w81 H82 K83 => ?_)
 clear H76
 replace K0 := K0.trans K83 (U := none_) (fun i h1 h2 => h2) (fun i h1 h2 => by have h2 : i = b73 := h2; exfalso; omega)
 replace H57 := H57.keep K83 (by intro h; change b1 = b73 at h; omega)
 replace H58 := H58.keep K83 (by intro h; change g2 = b73 at h; omega)
 replace hE60 := Ents.keep hE60 K83 (fun i hi hs => by have hs : i = b73 := hs; have := ot79 i hi; omega)
 replace hM59 := LogE.keep hM59 K83 (fun i hi hs => by have hs : i = b73 := hs; have := ot79 i hi; omega)
 clear K83
 refine od ?_
 refine qs ?_
 refine qg ?_
 refine og 1 [(0, (Value.bool false)), (1, (ptr b1)), (3, (ptr b73)), (20, (ptr b1))] 1 ?_
 refine Ops.new (o := rowL [(Value.int IntKind.u8 97)] 5) (V := fun b => (Value.slice (some ⟨b, 0, none⟩) 1 1)) (by kernel_rfl) (d := (some 21)) (by kernel_rfl) (fun b => rfl) (fun b84 w85 hb86 H87 K88 hs89 => ?_)
 have lb84b1 : b1 < b84 := by have := H57.lt; omega
 have lb84g2 : g2 < b84 := by have := H58.lt; omega
 have lb84b73 : b73 < b84 := by have := H82.lt; omega
 have nb84 : w.heap.size ≤ b84 := by have := K0.size; omega
 have ot90 : ∀ i, T54 i → i ≠ b84 := fun i hi => by have := Ents.lt hE60 i hi; omega
 have ot91 : ∀ i, ((Value.slice A52 l51.length c53)).ownBlock = some i → i ≠ b84 := fun i hi => ot90 i (hM59.ownT i hi)
 replace K0 := K0.t0 K88
 replace H57 := H57.keep K88 (fun h => h)
 replace H58 := H58.keep K88 (fun h => h)
 replace H82 := H82.keep K88 (fun h => h)
 replace hE60 := Ents.keep0 hE60 K88
 replace hM59 := LogE.keep0 hM59 K88
 clear K88 hs89
 obtain ⟨w92, hr93, K94, F95⟩ := run_markB (t := 37) (e := 5) (bs := [byte 97]) (by kernel_rfl) (show Has _ b84 (rowL (bv [byte 97]) 5) from H87) (by decide)
 refine Ops.go (v := (Value.slice (some ⟨b84, 0, none⟩) 1 1)) (by kernel_rfl) (Runs.conv (by kernel_rfl) hr93) (d := (some 22)) (by kernel_rfl) rfl ?_
 clear H87
 replace K0 := K0.trans K94 (U := none_) (fun i h1 h2 => h2) (fun i h1 h2 => by have h2 : i = b84 := h2; exfalso; omega)
 replace H57 := H57.keep K94 (by intro h; change b1 = b84 at h; omega)
 replace H58 := H58.keep K94 (by intro h; change g2 = b84 at h; omega)
 replace H82 := H82.keep K94 (by intro h; change b73 = b84 at h; omega)
 replace hE60 := Ents.keep hE60 K94 (fun i hi hs => by have hs : i = b84 := hs; have := ot90 i hi; omega)
 replace hM59 := LogE.keep hM59 K94 (fun i hi hs => by have hs : i = b84 := hs; have := ot90 i hi; omega)
 clear K94 hr93
 refine Ops.call (by kernel_rfl) (d := (some 23)) (by kernel_rfl) (Propose_calls _ b1 g2 ((0 : Int) + 1) 0 2 0 (agC 0 0 ((0 : Int) + 1) 0 ((l3.map EntP.key) ++ [(((0 : Int) + 1), [])])) 1 0 10 (Value.map (some mb65)) (Value.slice PA63 1 pc64) T54 w.heap.size 0 0 A52 c53 l51 (some ⟨b84, 0, none⟩) 1 [byte 97] H57 H58 hM59 ot68 (by omega) (by omega) (by omega) ot66 (Nat.le_trans (Nat.le_refl _) K0.size) hbigl51 (by first | omega | decide) F95 (by first | omega | decide) (fun _ i hi => Rd.lt F95 (by intro q; cases q) i hi) (fun _ i hi => by simp only [Value.ownBlock, Option.some.injEq] at hi; have := lb84g2; omega) (fun _ i hi => by simp only [Value.ownBlock, Option.some.injEq] at hi; have := lb84b1; omega) (fun _ i hi h => by simp only [Value.ownBlock, Option.some.injEq] at hi; subst hi; exact ot91 _ h rfl) (by rw [show appE 0 0 (l51.map EntP.key) [(((0 : Int) + 1), [byte 97])] = 0 from by simp only [hK61, hK13]; first | rfl | decide]) (by omega)) ?_
 rintro _ w100 ⟨l96, A97, c98, T99, rfl, K101, H102, H103, hM104, hK106, hT107⟩
 have hE105 := hM104.ents
 have ot108 : ∀ i, T99 i → i ≠ b1 := fun i hi => (hT107 i hi).2.1
 have ot109 : ∀ i, ((Value.slice A97 l96.length c98)).ownBlock = some i → i ≠ b1 := fun i hi => ot108 i (hM104.ownT i hi)
 have ot110 : ∀ i, T99 i → i ≠ g2 := fun i hi => (hT107 i hi).1
 have ot111 : ∀ i, ((Value.slice A97 l96.length c98)).ownBlock = some i → i ≠ g2 := fun i hi => ot110 i (hM104.ownT i hi)
 have ot112 : ∀ i, T99 i → i ≠ b73 := fun i hi => by rcases (hT107 i hi).2.2 with h | h; (exact ot79 i h); (have := H82.lt; omega)
 have ot113 : ∀ i, ((Value.slice A97 l96.length c98)).ownBlock = some i → i ≠ b73 := fun i hi => ot112 i (hM104.ownT i hi)
 have hn114 : l96.length = l51.length + 1 := by have q := congrArg List.length hK106; simpa using q
 refine ⟨_, _, rfl, rfl, ?_⟩
 replace K0 := K0.trans K101 (U := none_) (fun i h1 h2 => h2) (fun i h1 h2 => by have h2 : i = b1 ∨ i = g2 ∨ ((Value.slice A52 l51.length c53)).ownBlock = some i := h2; rcases h2 with h2 | h2 | h2; (exfalso; omega); (exfalso; omega); (exfalso; have := (World.ownsRow.lt hM59.own i h2).1; omega))
 replace H82 := H82.keep K101 (by intro h; change b73 = b1 ∨ b73 = g2 ∨ ((Value.slice A52 l51.length c53)).ownBlock = some b73 at h; rcases h with h | h | h; (omega); (omega); (have := ot80 b73 h; omega))
 clear hE60
 clear hM59
 clear F95
 clear K101
 have hbigl96 : BigK (l96.map EntP.key) := by rw [hK106]; exact BigK.app hbigl51 (fun y hy => by rw [List.mem_singleton] at hy; subst hy; (show ([byte 97] : List UInt8).length ≤ _); first | decide | omega)
 refine og 7 [(0, (Value.bool false)), (1, (ptr b1)), (3, (ptr b73)), (4, (i64 (0 + ((l96.length : Nat) : Int)))), (5, (Value.slice none 0 0)), (6, (i64 0))] 11 ?_
 refine od ?_
 refine qs ?_
 refine qg ?_
 refine og 1 [(0, (Value.bool false)), (3, (ptr b73)), (4, (i64 (0 + ((l96.length : Nat) : Int)))), (5, (Value.slice none 0 0)), (6, (i64 0)), (27, (ptr b1))] 1 ?_
 refine Ops.call (by kernel_rfl) (d := (some 28)) (by kernel_rfl) (Info_calls _ b1 g2 ((0 : Int) + 1) 0 2 0 (agC 0 0 ((0 : Int) + 1) (agC 0 0 ((0 : Int) + 1) 0 ((l3.map EntP.key) ++ [(((0 : Int) + 1), [])])) ((l51.map EntP.key) ++ [(((0 : Int) + 1), [byte 97])])) 1 0 10 (Value.map (some mb65)) (Value.slice PA63 1 pc64) H102) ?_
 rintro _ w116 ⟨rfl, K115⟩
 refine ⟨_, _, rfl, rfl, ?_⟩
 replace K0 := K0.t0 K115
 replace H102 := H102.keep K115 (fun h => h)
 replace H103 := H103.keep K115 (fun h => h)
 replace H82 := H82.keep K115 (fun h => h)
 replace hE105 := Ents.keep0 hE105 K115
 replace hM104 := LogE.keep0 hM104 K115
 clear K115
 refine Ops.new (o := rowL [(i64 0), (i64 0), (i64 0), (i64 0), (i64 0)] 35) (V := fun b => (ptr b)) (by kernel_rfl) (d := (some 7)) (by kernel_rfl) (fun b => rfl) (fun b117 w118 hb119 H120 K121 hs122 => ?_)
 have lb117b1 : b1 < b117 := by have := H102.lt; omega
 have lb117g2 : g2 < b117 := by have := H103.lt; omega
 have lb117b73 : b73 < b117 := by have := H82.lt; omega
 have nb117 : w.heap.size ≤ b117 := by have := K0.size; omega
 have ot123 : ∀ i, T99 i → i ≠ b117 := fun i hi => by have := Ents.lt hE105 i hi; omega
 have ot124 : ∀ i, ((Value.slice A97 l96.length c98)).ownBlock = some i → i ≠ b117 := fun i hi => ot123 i (hM104.ownT i hi)
 replace K0 := K0.t0 K121
 replace H102 := H102.keep K121 (fun h => h)
 replace H103 := H103.keep K121 (fun h => h)
 replace H82 := H82.keep K121 (fun h => h)
 replace hE105 := Ents.keep0 hE105 K121
 replace hM104 := LogE.keep0 hM104 K121
 clear K121 hs122
 refine Ops.put (t := 35) (b := b117) (off := 0) (v := (agg [(i64 ((0 : Int) + 1)), (i64 0), (i64 2), (i64 0), (i64 (agC 0 0 ((0 : Int) + 1) (agC 0 0 ((0 : Int) + 1) 0 ((l3.map EntP.key) ++ [(((0 : Int) + 1), [])])) ((l51.map EntP.key) ++ [(((0 : Int) + 1), [byte 97])])))])) (ys := [(i64 ((0 : Int) + 1)), (i64 0), (i64 2), (i64 0), (i64 (agC 0 0 ((0 : Int) + 1) (agC 0 0 ((0 : Int) + 1) 0 ((l3.map EntP.key) ++ [(((0 : Int) + 1), [])])) ((l51.map EntP.key) ++ [(((0 : Int) + 1), [byte 97])])))]) (by kernel_rfl) (by kernel_rfl) H120 (by kernel_rfl) (d := none) (by kernel_rfl) rfl (fun w125 H126 K127 => ?_)
 clear H120
 replace K0 := K0.trans K127 (U := none_) (fun i h1 h2 => h2) (fun i h1 h2 => by have h2 : i = b117 := h2; exfalso; omega)
 replace H102 := H102.keep K127 (by intro h; change b1 = b117 at h; omega)
 replace H103 := H103.keep K127 (by intro h; change g2 = b117 at h; omega)
 replace H82 := H82.keep K127 (by intro h; change b73 = b117 at h; omega)
 replace hE105 := Ents.keep hE105 K127 (fun i hi hs => by have hs : i = b117 := hs; have := ot123 i hi; omega)
 replace hM104 := LogE.keep hM104 K127 (fun i hi hs => by have hs : i = b117 := hs; have := ot123 i hi; omega)
 clear K127
 refine od ?_
 refine qs ?_
 refine qg ?_
 refine og 1 [(0, (Value.bool false)), (3, (ptr b73)), (4, (i64 (0 + ((l96.length : Nat) : Int)))), (5, (Value.slice none 0 0)), (6, (i64 0)), (7, (ptr b117)), (29, (Value.pointer (some ⟨b73, 2, none⟩)))] 1 ?_
 refine Ops.go (v := (i64 2)) (by kernel_rfl) (Runs.load (t := 3) (a := ⟨b73, 2, none⟩) (by kernel_rfl) (H82.loads (by kernel_rfl))) (d := (some 30)) (by kernel_rfl) rfl ?_
 refine og 3 [(0, (Value.bool false)), (3, (ptr b73)), (4, (i64 (0 + ((l96.length : Nat) : Int)))), (5, (Value.slice none 0 0)), (6, (i64 0)), (7, (ptr b117)), (32, (Value.bool true)), (33, (ptr b73))] 5 ?_
 refine Ops.go (v := (i64 ((0 : Int) + 1))) (by kernel_rfl) (Runs.load (t := 2) (a := ⟨b73, 0, none⟩) (by kernel_rfl) (H82.loads (by kernel_rfl))) (d := (some 34)) (by kernel_rfl) rfl ?_
 refine og 3 [(0, (Value.bool false)), (3, (ptr b73)), (4, (i64 (0 + ((l96.length : Nat) : Int)))), (5, (Value.slice none 0 0)), (6, (i64 0)), (7, (ptr b117)), (37, (Value.bool (((0 : Int) + 1) == 1)))] 9 ?_
 have h128 : (((0 : Int) + 1) == 1) = true := beq_t (by first | decide | omega | (simp only [hK106, hK61, hK13]; first | rfl | decide))
 rw [h128]
 refine og 1 [(0, (Value.bool false)), (4, (i64 (0 + ((l96.length : Nat) : Int)))), (5, (Value.slice none 0 0)), (6, (i64 0)), (7, (ptr b117)), (37, (Value.bool true)), (38, (Value.pointer (some ⟨b73, 4, none⟩)))] 10 ?_
 refine Ops.go (v := (i64 (agC 0 0 ((0 : Int) + 1) 0 ((l3.map EntP.key) ++ [(((0 : Int) + 1), [])])))) (by kernel_rfl) (Runs.load (t := 2) (a := ⟨b73, 4, none⟩) (by kernel_rfl) (H82.loads (by kernel_rfl))) (d := (some 39)) (by kernel_rfl) rfl ?_
 refine og 3 [(0, (Value.bool false)), (4, (i64 (0 + ((l96.length : Nat) : Int)))), (5, (Value.slice none 0 0)), (6, (i64 0)), (7, (ptr b117)), (42, (Value.bool ((agC 0 0 ((0 : Int) + 1) 0 ((l3.map EntP.key) ++ [(((0 : Int) + 1), [])])) == 1)))] 14 ?_
 have h129 : ((agC 0 0 ((0 : Int) + 1) 0 ((l3.map EntP.key) ++ [(((0 : Int) + 1), [])])) == 1) = true := beq_t (by first | decide | omega | (simp only [hK106, hK61, hK13]; first | rfl | decide))
 rw [h129]
 refine og 4 [(0, (Value.bool false)), (5, (Value.slice none 0 0)), (6, (i64 0)), (7, (ptr b117)), (46, (Value.bool ((0 + ((l96.length : Nat) : Int)) == 2)))] 18 ?_
 have h130 : ((0 + ((l96.length : Nat) : Int)) == 2) = true := beq_t (by first | decide | omega | (simp only [hK106, hK61, hK13]; first | rfl | decide))
 rw [h130]
 refine og 10 [(0, (Value.bool false)), (55, (Value.bool true)), (56, (Value.pointer (some ⟨b117, 4, none⟩)))] 28 ?_
 refine Ops.go (v := (i64 (agC 0 0 ((0 : Int) + 1) (agC 0 0 ((0 : Int) + 1) 0 ((l3.map EntP.key) ++ [(((0 : Int) + 1), [])])) ((l51.map EntP.key) ++ [(((0 : Int) + 1), [byte 97])])))) (by kernel_rfl) (Runs.load (t := 2) (a := ⟨b117, 4, none⟩) (by kernel_rfl) (H126.loads (by kernel_rfl))) (d := (some 57)) (by kernel_rfl) rfl ?_
 refine og 3 [(0, (Value.bool ((agC 0 0 ((0 : Int) + 1) (agC 0 0 ((0 : Int) + 1) 0 ((l3.map EntP.key) ++ [(((0 : Int) + 1), [])])) ((l51.map EntP.key) ++ [(((0 : Int) + 1), [byte 97])])) == 2)))] 32 ?_
 refine od ?_
 refine q_ret (by kernel_rfl) ?_
 refine ⟨(Value.bool ((agC 0 0 ((0 : Int) + 1) (agC 0 0 ((0 : Int) + 1) 0 ((l3.map EntP.key) ++ [(((0 : Int) + 1), [])])) ((l51.map EntP.key) ++ [(((0 : Int) + 1), [byte 97])])) == 2)), retv_tmp rfl rfl, ?_⟩
 exact ⟨by rw [show ((agC 0 0 ((0 : Int) + 1) (agC 0 0 ((0 : Int) + 1) 0 ((l3.map EntP.key) ++ [(((0 : Int) + 1), [])])) ((l51.map EntP.key) ++ [(((0 : Int) + 1), [byte 97])])) == 2) = true from beq_t (by first | decide | omega | (simp only [hK106, hK61, hK13]; first | rfl | decide))], K0⟩
end Go.Proofs.Ytnmpepjikfbpdaa
namespace Go.Proofs.Ytnmpepjikfbpdaa
open Go.Q Go.RowKit

end Go.Proofs.Ytnmpepjikfbpdaa
namespace Go.Proofs.Ytnmpepjikfbpdaa
open Go.Q Go.RowKit

set_option maxHeartbeats 1000000 in
theorem RNew_bad (w : World) (group term voted commit : Int) (T : Nat → Prop) (g : Nat) (base old : Int) (A : Option Addr) (c : Nat) (l : List EntP) (H0 : Has w g (rowL [i64 base, i64 old, .slice A l.length c] 78)) (hE : Ents w T (.slice A l.length c) l) (hT : ∀ i, T i → i ≠ g) (hB : 0 ≤ base ∧ base ≤ 2305843009213693952) (hL : l.length ≤ 4096) (hgr : 0 ≤ group ∧ group ≤ 3) (ht : ¬ (lastK base old (l.map EntP.key) ≤ term ∧ term ≤ 1152921504606846976)) (hv : -1 ≤ voted ∧ voted < 1) : Calls Try.prog 12 ⟨[(i64 group), (i64 0), (i64 1), (i64 term), (i64 voted), (ptr g), (i64 commit)]⟩ w (fun e w' => e = .returned (.tuple #[.pointer none, i64 1]) ∧ Keeps none_ w w') := by
 have hcap := Ents.len hE
 have Hg := H0.lt
 have K0 : Keeps none_ w w := Keeps.refl w
 refine q_calls Try.func12 (by kernel_rfl) (by kernel_rfl) ?_
 refine qs ?_
 refine qg ?_
 refine og 2 [(0, (i64 group)), (1, (i64 0)), (2, (i64 1)), (3, (i64 term)), (4, (i64 voted)), (5, (ptr g)), (6, (i64 commit)), (14, (Value.pointer none)), (15, (i64 0))] 2 ?_
 refine od ?_
 refine qs ?_
 refine qs ?_
 refine qg ?_
 refine og 2 [(0, (i64 group)), (1, (i64 0)), (2, (i64 1)), (3, (i64 term)), (4, (i64 voted)), (5, (ptr g)), (6, (i64 commit)), (14, (Value.pointer none)), (15, (i64 0)), (22, (Value.bool false))] 2 ?_
 refine od ?_
 refine q_else (o := .tmp 22) (by kernel_rfl) rfl ?_
 refine q_skip (by kernel_rfl) ?_
 refine qs ?_
 refine qg ?_
 refine og 1 [(0, (i64 group)), (1, (i64 0)), (2, (i64 1)), (3, (i64 term)), (4, (i64 voted)), (5, (ptr g)), (6, (i64 commit)), (14, (Value.pointer none)), (15, (i64 0)), (24, (ptr g))] 1 ?_
 refine Ops.call (by kernel_rfl) (d := (some 25)) (by kernel_rfl) (Base_calls _ T g base old A c l H0 hE hT (by omega) (by omega)) ?_
 rintro _ w2 ⟨rfl, K1⟩
 refine ⟨_, _, rfl, rfl, ?_⟩
 replace K0 := K0.t0 K1
 replace H0 := H0.keep K1 (fun h => h)
 replace hE := Ents.keep0 hE K1
 clear K1
 refine og 5 [(0, (i64 group)), (1, (i64 0)), (2, (i64 1)), (3, (i64 term)), (4, (i64 voted)), (5, (ptr g)), (6, (i64 commit)), (14, (Value.pointer none)), (15, (i64 0)), (16, (i64 base))] 7 ?_
 refine od ?_
 refine qs ?_
 refine qg ?_
 refine og 1 [(0, (i64 group)), (1, (i64 0)), (2, (i64 1)), (3, (i64 term)), (4, (i64 voted)), (5, (ptr g)), (6, (i64 commit)), (14, (Value.pointer none)), (15, (i64 0)), (16, (i64 base)), (29, (ptr g))] 1 ?_
 refine Ops.call (by kernel_rfl) (d := (some 30)) (by kernel_rfl) (Last_calls _ T g base old A c l H0 hE hT (by omega) (by omega)) ?_
 rintro _ w4 ⟨rfl, K3⟩
 refine ⟨_, _, rfl, rfl, ?_⟩
 replace K0 := K0.t0 K3
 replace H0 := H0.keep K3 (fun h => h)
 replace hE := Ents.keep0 hE K3
 clear K3
 refine og 5 [(0, (i64 group)), (1, (i64 0)), (2, (i64 1)), (3, (i64 term)), (4, (i64 voted)), (5, (ptr g)), (6, (i64 commit)), (14, (Value.pointer none)), (15, (i64 0)), (16, (i64 base)), (18, (i64 (base + ((l.length : Nat) : Int)))), (19, (i64 (lastK base old (l.map EntP.key))))] 7 ?_
 refine od ?_
 refine qs ?_
 refine qs ?_
 refine qg ?_
 refine og 3 [(0, (i64 group)), (1, (i64 0)), (2, (i64 1)), (3, (i64 term)), (4, (i64 voted)), (5, (ptr g)), (6, (i64 commit)), (14, (Value.pointer none)), (15, (i64 0)), (16, (i64 base)), (18, (i64 (base + ((l.length : Nat) : Int)))), (19, (i64 (lastK base old (l.map EntP.key)))), (35, (Value.bool (decide (group < 0))))] 3 ?_
 have h5 : (decide (group < 0)) = false := decide_eq_false (by omega)
 rw [h5]
 refine og 4 [(0, (i64 group)), (1, (i64 0)), (2, (i64 1)), (3, (i64 term)), (4, (i64 voted)), (5, (ptr g)), (6, (i64 commit)), (14, (Value.pointer none)), (15, (i64 0)), (16, (i64 base)), (18, (i64 (base + ((l.length : Nat) : Int)))), (19, (i64 (lastK base old (l.map EntP.key)))), (39, (Value.bool (decide (group > 3))))] 7 ?_
 have h6 : (decide (group > 3)) = false := decide_eq_false (by omega)
 rw [h6]
 refine og 19 [(0, (i64 group)), (1, (i64 0)), (2, (i64 1)), (3, (i64 term)), (4, (i64 voted)), (5, (ptr g)), (6, (i64 commit)), (14, (Value.pointer none)), (15, (i64 0)), (16, (i64 base)), (18, (i64 (base + ((l.length : Nat) : Int)))), (56, (Value.bool false)), (57, (i64 term)), (58, (i64 (lastK base old (l.map EntP.key))))] 26 ?_
 refine Ops.call (by kernel_rfl) (d := (some 59)) (by kernel_rfl) (within_calls _ term (lastK base old (l.map EntP.key)) 1152921504606846976) ?_
 rintro _ w10 ⟨t7, rfl, ht8, K9⟩
 refine ⟨_, _, rfl, rfl, ?_⟩
 replace K0 := K0.t0 K9
 replace H0 := H0.keep K9 (fun h => h)
 replace hE := Ents.keep0 hE K9
 clear K9
 refine og 3 [(0, (i64 group)), (1, (i64 0)), (2, (i64 1)), (3, (i64 term)), (4, (i64 voted)), (5, (ptr g)), (6, (i64 commit)), (14, (Value.pointer none)), (15, (i64 0)), (16, (i64 base)), (18, (i64 (base + ((l.length : Nat) : Int)))), (62, (Value.bool (!t7)))] 30 ?_
 have h11 : (!t7) = true := by rw [show t7 = false from Bool.eq_false_iff.2 (fun q => ht (ht8.1 q))]; rfl
 rw [h11]
 refine og 15 [(0, (i64 group)), (1, (i64 0)), (2, (i64 1)), (3, (i64 term)), (4, (i64 voted)), (5, (ptr g)), (6, (i64 commit)), (14, (Value.pointer none)), (15, (i64 0)), (77, (Value.bool true))] 45 ?_
 refine od ?_
 refine q_then (o := .tmp 77) (by kernel_rfl) rfl ?_
 refine qs ?_
 refine qg ?_
 refine og 2 [(0, (i64 group)), (1, (i64 0)), (2, (i64 1)), (3, (i64 term)), (4, (i64 voted)), (5, (ptr g)), (6, (i64 commit)), (14, (Value.pointer none)), (15, (i64 1))] 2 ?_
 refine od ?_
 refine q_ret (by kernel_rfl) ?_
 refine ⟨(Value.tuple #[(Value.pointer none), (i64 1)]), retv_tmp2 rfl rfl rfl, ?_⟩
 exact ⟨rfl, K0⟩
end Go.Proofs.Ytnmpepjikfbpdaa
