/- What the claim stands on, part 7: rules of the walk, contracts of the functions, plain laws. -/
import Derived.Test.YtnmpepjikfbpdaaKRDeaf6
import Derived.Maps.Own
import Derived.Sort.KeysCollected
import Derived.Lib.SlTrimSet
import Derived.Test.YtnmpepjikfbpdaaKRDeaf4
import Derived.Test.YtnmpepjikfbpdaaProg
import Derived.Test.YtnmpepjikfbpdaaKRDeaf5
set_option linter.unusedVariables false
namespace Go.Q
open Go.RowKit
/-- The letters of a name. -/
def lettersB : List UInt8 := [97, 98, 99, 100, 101, 102, 103, 104, 105, 106, 107, 108, 109, 110, 111, 112, 113, 114, 115, 116, 117, 118, 119, 120, 121, 122, 48, 49, 50, 51, 52, 53, 54, 55, 56, 57, 95]
def kcell (x : List UInt8) : List Value := [kstr x]
theorem AccM.Ok.len {a : AccM} (h : a.Ok) : a.name.length ≤ 24 := by
  have := h.name
  simp only [nameOk, Bool.and_eq_true, decide_eq_true_eq] at this
  exact this.1.2
/-- Accounts that go one by one. -/
def dropL (S : List AccM) (l : List RowM) : List AccM := l.foldl (fun S r => S.filter fun a => decide (a.name ≠ r.name)) S
theorem RdT.ld1 {P : Program} {t : TypeId} {w : World} {α : Type} {f : α → List Value} {l : List α} {A : Option Addr} {n c k b off : Nat} {x : α} {u : Value} (hf : ∀ x, (f x).length = 1) (h : RdT w 1 f (.slice A n c) l) (ht : isAgg? P t = some false) (hA : A = some ⟨b, off, none⟩)
    (hx : l[k]? = some x) (hu : (f x)[0]? = some u) : Loads P w t ⟨b, off + k, none⟩ u := by
  have := RdT.ldf (o := 0) hf h ht hA hx hu
  simpa using this
/-- The fixed calls. -/
def knownS : List AccM := chgS (holdF [121]) (chgS (holdF [120]) (chgS (takeF 6) (chgS (addF 5) (putS [] [97, 110, 110] 0) [97, 110, 110]) [97, 110, 110]) [97, 110, 110]) [97, 110, 110]
end Go.Q
namespace Go.Q
open Go.RowKit
/-- What is wrong of an operation. -/
def wrongE (o : Opm) : Int :=
  if o.kind = 6 then 0
  else if o.kind = 7 then (if o.slot < 0 ∨ 15 < o.slot ∨ o.shard < 1 ∨ 3 < o.shard then 1 else 0)
  else if o.kind < 1 ∨ 7 < o.kind then 1
  else if nameOk o.frm = false then 46
  else if o.kind = 5 then 0
  else if nameOk o.key = false then 46
  else if o.kind = 1 then 0
  else if o.kind = 4 ∧ nameOk o.to = false then 46
  else if o.amount < 1 then 47
  else if o.kind = 4 ∧ o.frm = o.to then 44
  else 0
section
variable {P : Program} {w : World} {t : TypeId}
theorem run_index_str (ht : P.underlying t = some .string) {s : List UInt8} {i : Nat} {c : UInt8} (h : s[i]? = some c) (k : IntKind) : (Instr.index t (.string (str s)) (.int k ((i : Nat) : Int))).run P w = .ok (.int .u8 ((c.toNat : Nat) : Int)) w := by
  have h1 : (str s)[i]? = some c := by
    obtain ⟨hl, he⟩ := List.getElem?_eq_some_iff.1 h
    have hl2 : i < (str s).size := hl
    rw [getElem?_pos (str s) i hl2]
    exact congrArg some he
  simp [Instr.index, asIntOf, run_underlying ht, h1, Result.andThen, go_sem]
def ixv? (L : Loc) (o : Oper) : Option (TypeId × Value × Value) := match o.op with | .index t x y => some (t, ev L x, ev L y) | _ => none
theorem Runs.of_index {L : Loc} {o : Oper} {x y v : Value} {w' : World} (h : ixv? L o = some (t, x, y)) (hr : (Instr.index t x y).run P w = .ok v w') : Runs P L o w v w' := by
  unfold ixv? at h
  cases ho : o.op with
  | index t' x' y' =>
    rw [ho] at h
    simp only [Option.some.injEq, Prod.mk.injEq] at h
    obtain ⟨rfl, hx, hy⟩ := h
    unfold Runs execOp
    simp only [ho, hx, hy, Sem.run_bind, Result.andThen_ok, hr, Sem.run_pure]
  | _ => rw [ho] at h; cases h
end
end Go.Q
namespace Go.Proofs.Ytnmpepjikfbpdaa
open Go.Q Go.RowKit

theorem others_calls (w : World) (r g : Nat) (term voted role leader commit group elapsed timeout : Int) (vv pv : Value) (fv : Value) (Hr : Has w r (rowL [(i64 term), (i64 voted), (i64 role), (i64 leader), (i64 commit), (i64 group), (i64 0), (i64 1), (ptr g), (i64 elapsed), (i64 timeout), (Value.slice none 0 0), vv, pv, (Value.pointer none), (Value.pointer none), (Value.bool false), (Value.slice none 0 0)] 84)) : Calls Try.prog 37 ⟨[(ptr r), fv]⟩ w (fun e w' => e = .returned (.tuple #[]) ∧ Keeps none_ w w') := by
 have Hrl := Hr.lt
 have K0 : Keeps none_ w w := Keeps.refl w
 refine q_calls Try.func37 (by kernel_rfl) (by kernel_rfl) ?_
 refine qs ?_
 refine qg ?_
 refine og 3 [(0, (ptr r)), (1, fv), (7, (Value.pointer (some ⟨r, 7, none⟩)))] 3 ?_
 refine Ops.go (v := (i64 1)) (by kernel_rfl) (Runs.load (t := 3) (a := ⟨r, 7, none⟩) (by kernel_rfl) (Hr.loads (by kernel_rfl))) (d := (some 8)) (by kernel_rfl) rfl ?_
 refine og 1 [(0, (ptr r)), (1, fv), (8, (i64 1)), (9, (i64 0))] 5 ?_
 refine od ?_
 refine q_block (id := 0) (by kernel_rfl) ?_
 refine q_keep (R := [(0, (ptr r)), (1, fv), (8, (i64 1)), (9, (i64 0))]) (by kernel_rfl) ?_
 refine q_loop (fun (i : Nat) L (wx : World) => L = [(0, (ptr r)), (1, fv), (8, (i64 1)), (9, (i64 ((i : Nat) : Int)))] ∧ i ≤ 1 ∧ Keeps none_ w wx ∧ Has wx r (rowL [(i64 term), (i64 voted), (i64 role), (i64 leader), (i64 commit), (i64 group), (i64 0), (i64 1), (ptr g), (i64 elapsed), (i64 timeout), (Value.slice none 0 0), vv, pv, (Value.pointer none), (Value.pointer none), (Value.bool false), (Value.slice none 0 0)] 84)) (fun (i : Nat) => 1 - i) 0 (by kernel_rfl) ⟨rfl, Nat.zero_le _, K0, Hr⟩ ?_
 clear Hr K0
 rintro i _ w1 ⟨rfl, hi, K2, H3⟩
 refine qs ?_
 refine qg ?_
 refine og 1 [(0, (ptr r)), (1, fv), (8, (i64 1)), (9, (i64 ((i : Nat) : Int))), (10, (Value.bool (decide (((i : Nat) : Int) < 1))))] 1 ?_
 refine od ?_
 refine qs ?_
 refine q_cond (o := .tmp 10) (b := (decide (((i : Nat) : Int) < 1))) (by kernel_rfl) rfl (fun h4 => ?_) (fun h4 => ?_)
 ·rw [h4]
  have p5 : ((i : Nat) : Int) < 1 := of_decide_eq_true h4
  refine q_skip (by kernel_rfl) ?_
  refine qs ?_
  refine q_block (id := 1) (by kernel_rfl) ?_
  refine qs ?_
  refine qg ?_
  refine og 2 [(0, (ptr r)), (1, fv), (4, (i64 ((i : Nat) : Int))), (8, (i64 1)), (9, (i64 ((i : Nat) : Int)))] 2 ?_
  refine od ?_
  refine qs ?_
  refine qg ?_
  refine og 4 [(0, (ptr r)), (1, fv), (4, (i64 ((i : Nat) : Int))), (8, (i64 1)), (9, (i64 ((i : Nat) : Int))), (12, (i64 ((i : Nat) : Int))), (15, (Value.pointer (some ⟨r, 6, none⟩)))] 4 ?_
  refine Ops.go (v := (i64 0)) (by kernel_rfl) (Runs.load (t := 3) (a := ⟨r, 6, none⟩) (by kernel_rfl) (H3.loads (by kernel_rfl))) (d := (some 16)) (by kernel_rfl) rfl ?_
  refine og 1 [(0, (ptr r)), (1, fv), (4, (i64 ((i : Nat) : Int))), (8, (i64 1)), (9, (i64 ((i : Nat) : Int))), (17, (Value.bool (((i : Nat) : Int) != 0)))] 6 ?_
  refine od ?_
  have h6 : (((i : Nat) : Int) != 0) = false := bne_f (by omega)
  rw [h6]
  refine q_else (o := .tmp 17) (by kernel_rfl) rfl ?_
  refine q_skip (by kernel_rfl) ?_
  refine qg ?_
  refine og 1 [(0, (ptr r)), (1, fv), (8, (i64 1)), (9, (i64 ((i : Nat) : Int))), (21, (i64 (IntKind.i64.wrap (((i : Nat) : Int) + 1))))] 1 ?_
  have e7 : IntKind.i64.wrap (((i : Nat) : Int) + 1) = ((i + 1 : Nat) : Int) := by rw [wrap_i64 (by omega) (by omega)]; omega
  rw [e7]
  clear e7
  refine og 1 [(0, (ptr r)), (1, fv), (8, (i64 1)), (9, (i64 ((i + 1 : Nat) : Int)))] 2 ?_
  refine Ops.keep (R := [(0, (ptr r)), (1, fv), (8, (i64 1)), (9, (i64 ((i + 1 : Nat) : Int)))]) (by kernel_rfl) ?_
  refine od ?_
  exact ⟨i + 1, ⟨rfl, (by omega), K2, H3⟩, (show 1 - (i + 1) < 1 - i from by omega)⟩
 ·rw [h4]
  have p8 : ¬ (((i : Nat) : Int) < 1) := of_decide_eq_false h4
  refine q_exit (id := 0) (by kernel_rfl) ?_
  refine ⟨(Value.tuple #[]), retv_none rfl, ?_⟩
  exact ⟨rfl, K2⟩

theorem wait_calls (w : World) (r g : Nat) (term voted role leader commit group elapsed timeout : Int) (vv pv : Value) (Hr : Has w r (rowL [(i64 term), (i64 voted), (i64 role), (i64 leader), (i64 commit), (i64 group), (i64 0), (i64 1), (ptr g), (i64 elapsed), (i64 timeout), (Value.slice none 0 0), vv, pv, (Value.pointer none), (Value.pointer none), (Value.bool false), (Value.slice none 0 0)] 84)) : Calls Try.prog 36 ⟨[(ptr r)]⟩ w (fun e w' => e = .returned (.tuple #[]) ∧ Keeps (fun i => i = r) w w' ∧ Has w' r (rowL [(i64 term), (i64 voted), (i64 role), (i64 leader), (i64 commit), (i64 group), (i64 0), (i64 1), (ptr g), (i64 elapsed), (i64 10), (Value.slice none 0 0), vv, pv, (Value.pointer none), (Value.pointer none), (Value.bool false), (Value.slice none 0 0)] 84)) := by
 have Hrl := Hr.lt
 have K0 : Keeps (fun i => i = r) w w := (Keeps.refl w).mono (fun _ _ h => h.elim)
 refine q_calls Try.func36 (by kernel_rfl) (by kernel_rfl) ?_
 refine qs ?_
 refine qs ?_
 refine qg ?_
 refine og 3 [(0, (ptr r)), (4, (Value.pointer (some ⟨r, 11, none⟩)))] 3 ?_
 refine Ops.go (v := (Value.slice none 0 0)) (by kernel_rfl) (Runs.load (t := 53) (a := ⟨r, 11, none⟩) (by kernel_rfl) (Hr.loads (by kernel_rfl))) (d := (some 5)) (by kernel_rfl) rfl ?_
 refine og 2 [(0, (ptr r)), (7, (Value.bool true))] 6 ?_
 refine od ?_
 refine q_then (o := .tmp 7) (by kernel_rfl) rfl ?_
 refine qs ?_
 refine qg ?_
 refine og 4 [(0, (ptr r)), (8, (ptr r)), (11, (Value.pointer (some ⟨r, 6, none⟩)))] 4 ?_
 refine Ops.go (v := (i64 0)) (by kernel_rfl) (Runs.load (t := 3) (a := ⟨r, 6, none⟩) (by kernel_rfl) (Hr.loads (by kernel_rfl))) (d := (some 12)) (by kernel_rfl) rfl ?_
 refine og 4 [(0, (ptr r)), (14, (i64 10)), (16, (Value.pointer (some ⟨r, 10, none⟩)))] 9 ?_
 refine Ops.put (t := 3) (b := r) (off := 10) (v := (i64 10)) (ys := [(i64 term), (i64 voted), (i64 role), (i64 leader), (i64 commit), (i64 group), (i64 0), (i64 1), (ptr g), (i64 elapsed), (i64 10), (Value.slice none 0 0), vv, pv, (Value.pointer none), (Value.pointer none), (Value.bool false), (Value.slice none 0 0)]) (by kernel_rfl) (by kernel_rfl) Hr (by kernel_rfl) (d := none) (by kernel_rfl) rfl (fun w1 H2 K3 => ?_)
 clear Hr
 replace K0 := K0.t1 K3 (fun _ => rfl)
 clear K3
 refine od ?_
 refine q_ret (by kernel_rfl) ?_
 refine ⟨(Value.tuple #[]), retv_none rfl, ?_⟩
 exact ⟨rfl, K0, H2⟩

theorem flush_calls (w : World) (r g : Nat) (term voted role leader commit group elapsed timeout : Int) (vv pv : Value) (Hr : Has w r (rowL [(i64 term), (i64 voted), (i64 role), (i64 leader), (i64 commit), (i64 group), (i64 0), (i64 1), (ptr g), (i64 elapsed), (i64 timeout), (Value.slice none 0 0), vv, pv, (Value.pointer none), (Value.pointer none), (Value.bool false), (Value.slice none 0 0)] 84)) : Calls Try.prog 39 ⟨[(ptr r)]⟩ w (fun e w' => e = .returned (.slice none 0 0) ∧ Keeps (fun i => i = r) w w' ∧ Has w' r (rowL [(i64 term), (i64 voted), (i64 role), (i64 leader), (i64 commit), (i64 group), (i64 0), (i64 1), (ptr g), (i64 elapsed), (i64 timeout), (Value.slice none 0 0), vv, pv, (Value.pointer none), (Value.pointer none), (Value.bool false), (Value.slice none 0 0)] 84)) := by
 have Hrl := Hr.lt
 have K0 : Keeps (fun i => i = r) w w := (Keeps.refl w).mono (fun _ _ h => h.elim)
 refine q_calls Try.func39 (by kernel_rfl) (by kernel_rfl) ?_
 refine qs ?_
 refine qg ?_
 refine og 1 [(0, (ptr r)), (2, (Value.slice none 0 0))] 1 ?_
 refine od ?_
 refine qs ?_
 refine qg ?_
 refine og 3 [(0, (ptr r)), (2, (Value.slice none 0 0)), (6, (Value.pointer (some ⟨r, 17, none⟩)))] 3 ?_
 refine Ops.go (v := (Value.slice none 0 0)) (by kernel_rfl) (Runs.load (t := 32) (a := ⟨r, 17, none⟩) (by kernel_rfl) (Hr.loads (by kernel_rfl))) (d := (some 7)) (by kernel_rfl) rfl ?_
 refine og 1 [(0, (ptr r)), (2, (Value.slice none 0 0)), (3, (Value.slice none 0 0))] 5 ?_
 refine od ?_
 refine qs ?_
 refine qg ?_
 refine og 3 [(2, (Value.slice none 0 0)), (3, (Value.slice none 0 0)), (10, (Value.pointer (some ⟨r, 17, none⟩)))] 3 ?_
 refine Ops.put (t := 32) (b := r) (off := 17) (v := (Value.slice none 0 0)) (ys := [(i64 term), (i64 voted), (i64 role), (i64 leader), (i64 commit), (i64 group), (i64 0), (i64 1), (ptr g), (i64 elapsed), (i64 timeout), (Value.slice none 0 0), vv, pv, (Value.pointer none), (Value.pointer none), (Value.bool false), (Value.slice none 0 0)]) (by kernel_rfl) (by kernel_rfl) Hr (by kernel_rfl) (d := none) (by kernel_rfl) rfl (fun w1 H2 K3 => ?_)
 clear Hr
 replace K0 := K0.t1 K3 (fun _ => rfl)
 clear K3
 refine od ?_
 refine qs ?_
 refine qg ?_
 refine og 2 [(2, (Value.slice none 0 0))] 2 ?_
 refine od ?_
 refine q_ret (by kernel_rfl) ?_
 refine ⟨(Value.slice none 0 0), retv_tmp rfl rfl, ?_⟩
 exact ⟨rfl, K0, H2⟩

theorem Info_calls (w : World) (r g : Nat) (term voted role leader commit group elapsed timeout : Int) (vv pv : Value) (Hr : Has w r (rowL [(i64 term), (i64 voted), (i64 role), (i64 leader), (i64 commit), (i64 group), (i64 0), (i64 1), (ptr g), (i64 elapsed), (i64 timeout), (Value.slice none 0 0), vv, pv, (Value.pointer none), (Value.pointer none), (Value.bool false), (Value.slice none 0 0)] 84)) : Calls Try.prog 14 ⟨[(ptr r)]⟩ w (fun e w' => e = .returned (agg [(i64 term), (i64 voted), (i64 role), (i64 leader), (i64 commit)]) ∧ Keeps none_ w w') := by
 have Hrl := Hr.lt
 have K0 : Keeps none_ w w := Keeps.refl w
 refine q_calls Try.func14 (by kernel_rfl) (by kernel_rfl) ?_
 refine qs ?_
 refine qg ?_
 refine Ops.new (o := rowL [(i64 0), (i64 0), (i64 0), (i64 0), (i64 0)] 35) (V := fun b => (ptr b)) (by kernel_rfl) (d := (some 2)) (by kernel_rfl) (fun b => rfl) (fun b1 w2 hb3 H4 K5 hs6 => ?_)
 have lb1r : r < b1 := by have := Hr.lt; omega
 have nb1 : w.heap.size ≤ b1 := by have := K0.size; omega
 replace K0 := K0.t0 K5
 replace Hr := Hr.keep K5 (fun h => h)
 clear K5 hs6
 refine od ?_
 refine qs ?_
 refine qs ?_
 refine qg ?_
 refine og 2 [(0, (ptr r)), (2, (ptr b1)), (4, (Value.bool false))] 2 ?_
 refine od ?_
 refine q_else (o := .tmp 4) (by kernel_rfl) rfl ?_
 refine q_skip (by kernel_rfl) ?_
 refine qs ?_
 refine qg ?_
 refine og 3 [(2, (ptr b1)), (8, (ptr r))] 3 ?_
 refine Ops.go (v := (agg [(i64 term), (i64 voted), (i64 role), (i64 leader), (i64 commit)])) (by kernel_rfl) (Runs.load (t := 35) (a := ⟨r, 0, none⟩) (by kernel_rfl) (Hr.loads (by kernel_rfl))) (d := (some 9)) (by kernel_rfl) rfl ?_
 refine Ops.put (t := 35) (b := b1) (off := 0) (v := (agg [(i64 term), (i64 voted), (i64 role), (i64 leader), (i64 commit)])) (ys := [(i64 term), (i64 voted), (i64 role), (i64 leader), (i64 commit)]) (by kernel_rfl) (by kernel_rfl) H4 (by kernel_rfl) (d := none) (by kernel_rfl) rfl (fun w7 H8 K9 => ?_)
 clear H4
 replace K0 := K0.trans K9 (U := none_) (fun i h1 h2 => h2) (fun i h1 h2 => by have h2 : i = b1 := h2; exfalso; omega)
 replace Hr := Hr.k1 K9 (by omega)
 clear K9
 refine od ?_
 refine q_ret (by kernel_rfl) ?_
 refine ⟨(agg [(i64 term), (i64 voted), (i64 role), (i64 leader), (i64 commit)]), retv_cell rfl rfl (H8.loads (by kernel_rfl)), ?_⟩
 exact ⟨rfl, K0⟩

theorem majority_calls (w : World) (r g : Nat) (term voted role leader commit group elapsed timeout : Int) (vv pv : Value) (Hr : Has w r (rowL [(i64 term), (i64 voted), (i64 role), (i64 leader), (i64 commit), (i64 group), (i64 0), (i64 1), (ptr g), (i64 elapsed), (i64 timeout), (Value.slice none 0 0), vv, pv, (Value.pointer none), (Value.pointer none), (Value.bool false), (Value.slice none 0 0)] 84)) : Calls Try.prog 47 ⟨[(ptr r), (i64 1)]⟩ w (fun e w' => e = .returned (.bool true) ∧ Keeps none_ w w') := by
 have Hrl := Hr.lt
 have K0 : Keeps none_ w w := Keeps.refl w
 refine q_calls Try.func47 (by kernel_rfl) (by kernel_rfl) ?_
 refine qs ?_
 refine qg ?_
 refine og 1 [(0, (ptr r)), (1, (i64 1)), (4, (Value.bool false))] 1 ?_
 refine od ?_
 refine qs ?_
 refine qg ?_
 refine og 4 [(4, (Value.bool false)), (5, (i64 1)), (8, (Value.pointer (some ⟨r, 7, none⟩)))] 4 ?_
 refine Ops.go (v := (i64 1)) (by kernel_rfl) (Runs.load (t := 3) (a := ⟨r, 7, none⟩) (by kernel_rfl) (Hr.loads (by kernel_rfl))) (d := (some 9)) (by kernel_rfl) rfl ?_
 refine og 3 [(4, (Value.bool true))] 8 ?_
 refine od ?_
 refine q_ret (by kernel_rfl) ?_
 refine ⟨(Value.bool true), retv_tmp rfl rfl, ?_⟩
 exact ⟨rfl, K0⟩

theorem Len64_one (w : World)   : Calls Try.prog 81 ⟨[(Value.int IntKind.u64 1)]⟩ w (fun e w' => e = .returned (i64 1) ∧ Keeps none_ w w') := by
 have K0 : Keeps none_ w w := Keeps.refl w
 refine q_calls Try.func81 (by kernel_rfl) (by kernel_rfl) ?_
 refine qs ?_
 refine qg ?_
 refine og 1 [(0, (Value.int IntKind.u64 1)), (2, (i64 0))] 1 ?_
 refine od ?_
 refine qs ?_
 refine qs ?_
 refine qg ?_
 refine og 2 [(0, (Value.int IntKind.u64 1)), (2, (i64 0)), (4, (Value.bool false))] 2 ?_
 refine od ?_
 refine q_else (o := .tmp 4) (by kernel_rfl) rfl ?_
 refine q_skip (by kernel_rfl) ?_
 refine qs ?_
 refine qs ?_
 refine qg ?_
 refine og 2 [(0, (Value.int IntKind.u64 1)), (2, (i64 0)), (8, (Value.bool false))] 2 ?_
 refine od ?_
 refine q_else (o := .tmp 8) (by kernel_rfl) rfl ?_
 refine q_skip (by kernel_rfl) ?_
 refine qs ?_
 refine qs ?_
 refine qg ?_
 refine og 2 [(0, (Value.int IntKind.u64 1)), (2, (i64 0)), (14, (Value.bool false))] 2 ?_
 refine od ?_
 refine q_else (o := .tmp 14) (by kernel_rfl) rfl ?_
 refine q_skip (by kernel_rfl) ?_
 refine qs ?_
 refine qg ?_
 refine og 3 [(2, (i64 0)), (19, (i64 0)), (21, (Value.int IntKind.u8 1))] 3 ?_
 refine Ops.go (v := (Value.int IntKind.u8 1)) (by kernel_rfl) (Runs.of_index (by kernel_rfl) (run_index_str Try.underlying9 (s := [0, 1, 2, 2, 3, 3, 3, 3, 4, 4, 4, 4, 4, 4, 4, 4, 5, 5, 5, 5, 5, 5, 5, 5, 5, 5, 5, 5, 5, 5, 5, 5, 6, 6, 6, 6, 6, 6, 6, 6, 6, 6, 6, 6, 6, 6, 6, 6, 6, 6, 6, 6, 6, 6, 6, 6, 6, 6, 6, 6, 6, 6, 6, 6, 7, 7, 7, 7, 7, 7, 7, 7, 7, 7, 7, 7, 7, 7, 7, 7, 7, 7, 7, 7, 7, 7, 7, 7, 7, 7, 7, 7, 7, 7, 7, 7, 7, 7, 7, 7, 7, 7, 7, 7, 7, 7, 7, 7, 7, 7, 7, 7, 7, 7, 7, 7, 7, 7, 7, 7, 7, 7, 7, 7, 7, 7, 7, 7, 8, 8, 8, 8, 8, 8, 8, 8, 8, 8, 8, 8, 8, 8, 8, 8, 8, 8, 8, 8, 8, 8, 8, 8, 8, 8, 8, 8, 8, 8, 8, 8, 8, 8, 8, 8, 8, 8, 8, 8, 8, 8, 8, 8, 8, 8, 8, 8, 8, 8, 8, 8, 8, 8, 8, 8, 8, 8, 8, 8, 8, 8, 8, 8, 8, 8, 8, 8, 8, 8, 8, 8, 8, 8, 8, 8, 8, 8, 8, 8, 8, 8, 8, 8, 8, 8, 8, 8, 8, 8, 8, 8, 8, 8, 8, 8, 8, 8, 8, 8, 8, 8, 8, 8, 8, 8, 8, 8, 8, 8, 8, 8, 8, 8, 8, 8, 8, 8, 8, 8, 8, 8, 8, 8, 8, 8, 8, 8]) (i := 1) (c := 1) rfl .u8)) (d := (some 22)) (by kernel_rfl) rfl ?_
 refine og 3 [(2, (i64 1))] 7 ?_
 refine od ?_
 refine q_ret (by kernel_rfl) ?_
 refine ⟨(i64 1), retv_tmp rfl rfl, ?_⟩
 exact ⟨rfl, K0⟩

theorem Len_one (w : World)   : Calls Try.prog 68 ⟨[(Value.int IntKind.u64 1)]⟩ w (fun e w' => e = .returned (i64 1) ∧ Keeps none_ w w') := by
 have K0 : Keeps none_ w w := Keeps.refl w
 refine q_calls Try.func68 (by kernel_rfl) (by kernel_rfl) ?_
 refine qs ?_
 refine qg ?_
 refine og 1 [(0, (Value.int IntKind.u64 1)), (2, (i64 0))] 1 ?_
 refine od ?_
 refine qs ?_
 refine q_else (o := .const (.bool false)) (by kernel_rfl) rfl ?_
 refine q_skip (by kernel_rfl) ?_
 refine qs ?_
 refine qg ?_
 refine og 1 [(2, (i64 0)), (6, (Value.int IntKind.u64 1))] 1 ?_
 refine Ops.call (by kernel_rfl) (d := (some 7)) (by kernel_rfl) (Len64_one _) ?_
 rintro _ w2 ⟨rfl, K1⟩
 refine ⟨_, _, rfl, rfl, ?_⟩
 replace K0 := K0.t0 K1
 clear K1
 refine og 1 [(2, (i64 1))] 3 ?_
 refine od ?_
 refine q_ret (by kernel_rfl) ?_
 refine ⟨(i64 1), retv_tmp rfl rfl, ?_⟩
 exact ⟨rfl, K0⟩

theorem insertion_one (w : World) (A : Option Addr) (c : Nat)  : Calls Try.prog 71 ⟨[(Value.slice A 1 c), (i64 0), (i64 1)]⟩ w (fun e w' => e = .returned (.tuple #[]) ∧ Keeps none_ w w') := by
 have K0 : Keeps none_ w w := Keeps.refl w
 refine q_calls Try.func71 (by kernel_rfl) (by kernel_rfl) ?_
 refine qs ?_
 refine qg ?_
 refine og 3 [(0, (Value.slice A 1 c)), (1, (i64 0)), (2, (i64 1)), (6, (i64 1))] 3 ?_
 refine od ?_
 refine q_block (id := 0) (by kernel_rfl) ?_
 refine q_keep (R := [(0, (Value.slice A 1 c)), (1, (i64 0)), (2, (i64 1)), (6, (i64 1))]) (by kernel_rfl) ?_
 refine q_loop (fun (z : Nat) L (wx : World) => L = [(0, (Value.slice A 1 c)), (1, (i64 0)), (2, (i64 1)), (6, (i64 1))] ∧ Keeps none_ w wx) (fun (z : Nat) => 0 - z) 0 (by kernel_rfl) ⟨rfl, K0⟩ ?_
 clear K0
 rintro z _ w1 ⟨rfl, K2⟩
 refine qs ?_
 refine qs ?_
 refine qg ?_
 refine og 3 [(0, (Value.slice A 1 c)), (1, (i64 0)), (2, (i64 1)), (6, (i64 1)), (12, (Value.bool false))] 3 ?_
 refine od ?_
 refine q_else (o := .tmp 12) (by kernel_rfl) rfl ?_
 refine q_exit (id := 0) (by kernel_rfl) ?_
 refine ⟨(Value.tuple #[]), retv_none rfl, ?_⟩
 exact ⟨rfl, K2⟩

theorem pdq_one (w : World) (A : Option Addr) (c : Nat)  : Calls Try.prog 67 ⟨[(Value.slice A 1 c), (i64 0), (i64 1), (i64 1)]⟩ w (fun e w' => e = .returned (.tuple #[]) ∧ Keeps none_ w w') := by
 have K0 : Keeps none_ w w := Keeps.refl w
 refine q_calls Try.func67 (by kernel_rfl) (by kernel_rfl) ?_
 refine qs ?_
 refine qg ?_
 refine og 1 [(0, (Value.slice A 1 c)), (1, (i64 0)), (2, (i64 1)), (3, (i64 1)), (8, (Value.bool true))] 1 ?_
 refine od ?_
 refine qs ?_
 refine qg ?_
 refine og 1 [(0, (Value.slice A 1 c)), (1, (i64 0)), (2, (i64 1)), (3, (i64 1)), (8, (Value.bool true)), (9, (Value.bool true))] 1 ?_
 refine od ?_
 refine q_block (id := 0) (by kernel_rfl) ?_
 refine q_keep (R := [(0, (Value.slice A 1 c)), (1, (i64 0)), (2, (i64 1)), (3, (i64 1)), (8, (Value.bool true)), (9, (Value.bool true))]) (by kernel_rfl) ?_
 refine q_loop (fun (z : Nat) L (wx : World) => L = [(0, (Value.slice A 1 c)), (1, (i64 0)), (2, (i64 1)), (3, (i64 1)), (8, (Value.bool true)), (9, (Value.bool true))] ∧ Keeps none_ w wx) (fun (z : Nat) => 0 - z) 0 (by kernel_rfl) ⟨rfl, K0⟩ ?_
 clear K0
 rintro z _ w1 ⟨rfl, K2⟩
 refine q_block (id := 1) (by kernel_rfl) ?_
 refine qs ?_
 refine qg ?_
 refine og 4 [(0, (Value.slice A 1 c)), (1, (i64 0)), (2, (i64 1)), (3, (i64 1)), (8, (Value.bool true)), (9, (Value.bool true)), (10, (i64 1))] 4 ?_
 refine od ?_
 refine qs ?_
 refine qs ?_
 refine qg ?_
 refine og 2 [(0, (Value.slice A 1 c)), (1, (i64 0)), (2, (i64 1)), (3, (i64 1)), (8, (Value.bool true)), (9, (Value.bool true)), (10, (i64 1)), (23, (Value.bool true))] 2 ?_
 refine od ?_
 refine q_then (o := .tmp 23) (by kernel_rfl) rfl ?_
 refine qs ?_
 refine qg ?_
 refine og 3 [(0, (Value.slice A 1 c)), (1, (i64 0)), (2, (i64 1)), (3, (i64 1)), (8, (Value.bool true)), (9, (Value.bool true)), (10, (i64 1)), (24, (Value.slice A 1 c)), (25, (i64 0)), (26, (i64 1))] 3 ?_
 refine Ops.call (by kernel_rfl) (d := (some 27)) (by kernel_rfl) (insertion_one _ A c) ?_
 rintro _ w4 ⟨rfl, K3⟩
 refine ⟨_, _, rfl, rfl, ?_⟩
 replace K2 := K2.trans K3 (U := none_) (fun i h1 h2 => h2) (fun i h1 h2 => by exact h2)
 clear K3
 refine od ?_
 refine q_ret (by kernel_rfl) ?_
 refine ⟨(Value.tuple #[]), retv_none rfl, ?_⟩
 exact ⟨rfl, K2⟩

theorem Sort_one (w : World) (A : Option Addr) (c : Nat)  : Calls Try.prog 59 ⟨[(Value.slice A 1 c)]⟩ w (fun e w' => e = .returned (.tuple #[]) ∧ Keeps none_ w w') := by
 have K0 : Keeps none_ w w := Keeps.refl w
 refine q_calls Try.func59 (by kernel_rfl) (by kernel_rfl) ?_
 refine qs ?_
 refine qg ?_
 refine og 3 [(0, (Value.slice A 1 c)), (2, (i64 1))] 3 ?_
 refine od ?_
 refine qg ?_
 refine og 4 [(5, (Value.slice A 1 c)), (6, (i64 1)), (8, (Value.int IntKind.u64 1))] 4 ?_
 refine Ops.call (by kernel_rfl) (d := (some 9)) (by kernel_rfl) (Len_one _) ?_
 rintro _ w2 ⟨rfl, K1⟩
 refine ⟨_, _, rfl, rfl, ?_⟩
 replace K0 := K0.t0 K1
 clear K1
 refine Ops.call (by kernel_rfl) (d := (some 10)) (by kernel_rfl) (pdq_one _ A c) ?_
 rintro _ w4 ⟨rfl, K3⟩
 refine ⟨_, _, rfl, rfl, ?_⟩
 replace K0 := K0.t0 K3
 clear K3
 refine od ?_
 refine ⟨(Value.tuple #[]), retv_none rfl, ?_⟩
 exact ⟨rfl, K0⟩

theorem Mul64_one (w : World)   : Calls Try.prog 83 ⟨[(Value.int IntKind.u64 1), (Value.int IntKind.u64 1)]⟩ w (fun e w' => e = .returned (.tuple #[(Value.int IntKind.u64 0), (Value.int IntKind.u64 1)]) ∧ Keeps none_ w w') := by
 have K0 : Keeps none_ w w := Keeps.refl w
 refine q_calls Try.func83 (by kernel_rfl) (by kernel_rfl) ?_
 refine qs ?_
 refine qg ?_
 refine og 2 [(0, (Value.int IntKind.u64 1)), (1, (Value.int IntKind.u64 1)), (4, (Value.int IntKind.u64 0)), (5, (Value.int IntKind.u64 0))] 2 ?_
 refine od ?_
 refine qs ?_
 refine qg ?_
 refine og 3 [(0, (Value.int IntKind.u64 1)), (1, (Value.int IntKind.u64 1)), (4, (Value.int IntKind.u64 0)), (5, (Value.int IntKind.u64 0)), (6, (Value.int IntKind.u64 1))] 3 ?_
 refine od ?_
 refine qs ?_
 refine qg ?_
 refine og 3 [(0, (Value.int IntKind.u64 1)), (1, (Value.int IntKind.u64 1)), (4, (Value.int IntKind.u64 0)), (5, (Value.int IntKind.u64 0)), (6, (Value.int IntKind.u64 1)), (7, (Value.int IntKind.u64 0))] 3 ?_
 refine od ?_
 refine qs ?_
 refine qg ?_
 refine og 3 [(0, (Value.int IntKind.u64 1)), (1, (Value.int IntKind.u64 1)), (4, (Value.int IntKind.u64 0)), (5, (Value.int IntKind.u64 0)), (6, (Value.int IntKind.u64 1)), (7, (Value.int IntKind.u64 0)), (8, (Value.int IntKind.u64 1))] 3 ?_
 refine od ?_
 refine qs ?_
 refine qg ?_
 refine og 3 [(0, (Value.int IntKind.u64 1)), (1, (Value.int IntKind.u64 1)), (4, (Value.int IntKind.u64 0)), (5, (Value.int IntKind.u64 0)), (6, (Value.int IntKind.u64 1)), (7, (Value.int IntKind.u64 0)), (8, (Value.int IntKind.u64 1)), (9, (Value.int IntKind.u64 0))] 3 ?_
 refine od ?_
 refine qs ?_
 refine qg ?_
 refine og 4 [(0, (Value.int IntKind.u64 1)), (1, (Value.int IntKind.u64 1)), (4, (Value.int IntKind.u64 0)), (5, (Value.int IntKind.u64 0)), (6, (Value.int IntKind.u64 1)), (7, (Value.int IntKind.u64 0)), (8, (Value.int IntKind.u64 1)), (9, (Value.int IntKind.u64 0)), (10, (Value.int IntKind.u64 1))] 4 ?_
 refine od ?_
 refine qs ?_
 refine qg ?_
 refine og 7 [(0, (Value.int IntKind.u64 1)), (1, (Value.int IntKind.u64 1)), (4, (Value.int IntKind.u64 0)), (5, (Value.int IntKind.u64 0)), (6, (Value.int IntKind.u64 1)), (7, (Value.int IntKind.u64 0)), (9, (Value.int IntKind.u64 0)), (11, (Value.int IntKind.u64 0))] 7 ?_
 refine od ?_
 refine qs ?_
 refine qg ?_
 refine og 3 [(0, (Value.int IntKind.u64 1)), (1, (Value.int IntKind.u64 1)), (4, (Value.int IntKind.u64 0)), (5, (Value.int IntKind.u64 0)), (6, (Value.int IntKind.u64 1)), (7, (Value.int IntKind.u64 0)), (9, (Value.int IntKind.u64 0)), (11, (Value.int IntKind.u64 0)), (12, (Value.int IntKind.u64 0))] 3 ?_
 refine od ?_
 refine qs ?_
 refine qg ?_
 refine og 3 [(0, (Value.int IntKind.u64 1)), (1, (Value.int IntKind.u64 1)), (4, (Value.int IntKind.u64 0)), (5, (Value.int IntKind.u64 0)), (6, (Value.int IntKind.u64 1)), (7, (Value.int IntKind.u64 0)), (9, (Value.int IntKind.u64 0)), (12, (Value.int IntKind.u64 0)), (13, (Value.int IntKind.u64 0))] 3 ?_
 refine od ?_
 refine qs ?_
 refine qg ?_
 refine og 6 [(0, (Value.int IntKind.u64 1)), (1, (Value.int IntKind.u64 1)), (4, (Value.int IntKind.u64 0)), (5, (Value.int IntKind.u64 0)), (7, (Value.int IntKind.u64 0)), (9, (Value.int IntKind.u64 0)), (12, (Value.int IntKind.u64 0)), (13, (Value.int IntKind.u64 0))] 6 ?_
 refine od ?_
 refine qs ?_
 refine qg ?_
 refine og 9 [(0, (Value.int IntKind.u64 1)), (1, (Value.int IntKind.u64 1)), (4, (Value.int IntKind.u64 0)), (5, (Value.int IntKind.u64 0))] 9 ?_
 refine od ?_
 refine qs ?_
 refine qg ?_
 refine og 4 [(4, (Value.int IntKind.u64 0)), (5, (Value.int IntKind.u64 1))] 4 ?_
 refine od ?_
 refine q_ret (by kernel_rfl) ?_
 refine ⟨(Value.tuple #[(Value.int IntKind.u64 0), (Value.int IntKind.u64 1)]), retv_tmp2 rfl rfl rfl, ?_⟩
 exact ⟨rfl, K0⟩

theorem Mul_one (w : World)   : Calls Try.prog 69 ⟨[(Value.int IntKind.u64 1), (Value.int IntKind.u64 1)]⟩ w (fun e w' => e = .returned (.tuple #[(Value.int IntKind.u64 0), (Value.int IntKind.u64 1)]) ∧ Keeps none_ w w') := by
 have K0 : Keeps none_ w w := Keeps.refl w
 refine q_calls Try.func69 (by kernel_rfl) (by kernel_rfl) ?_
 refine qs ?_
 refine qg ?_
 refine og 2 [(0, (Value.int IntKind.u64 1)), (1, (Value.int IntKind.u64 1)), (4, (Value.int IntKind.u64 0)), (5, (Value.int IntKind.u64 0))] 2 ?_
 refine od ?_
 refine qs ?_
 refine q_else (o := .const (.bool false)) (by kernel_rfl) rfl ?_
 refine q_skip (by kernel_rfl) ?_
 refine qs ?_
 refine qg ?_
 refine og 2 [(4, (Value.int IntKind.u64 0)), (5, (Value.int IntKind.u64 0)), (23, (Value.int IntKind.u64 1)), (24, (Value.int IntKind.u64 1))] 2 ?_
 refine Ops.call (by kernel_rfl) (d := (some 25)) (by kernel_rfl) (Mul64_one _) ?_
 rintro _ w2 ⟨rfl, K1⟩
 refine ⟨_, _, rfl, rfl, ?_⟩
 replace K0 := K0.t0 K1
 clear K1
 refine og 5 [(4, (Value.int IntKind.u64 0)), (5, (Value.int IntKind.u64 0)), (8, (Value.int IntKind.u64 0)), (9, (Value.int IntKind.u64 1))] 8 ?_
 refine od ?_
 refine qs ?_
 refine qg ?_
 refine og 4 [(4, (Value.int IntKind.u64 0)), (5, (Value.int IntKind.u64 1))] 4 ?_
 refine od ?_
 refine q_ret (by kernel_rfl) ?_
 refine ⟨(Value.tuple #[(Value.int IntKind.u64 0), (Value.int IntKind.u64 1)]), retv_tmp2 rfl rfl rfl, ?_⟩
 exact ⟨rfl, K0⟩
end Go.Proofs.Ytnmpepjikfbpdaa
namespace Go.Proofs.Ytnmpepjikfbpdaa
open Go.Q Go.RowKit

theorem Copy_calls (w : World) (T : Nat → Prop) (g0 : Nat) (base old : Int) (A : Option Addr) (c : Nat) (l : List EntP) (H0 : Has w g0 (rowL [i64 base, i64 old, .slice A l.length c] 78)) (hE : Ents w T (.slice A l.length c) l) (hT : ∀ i, T i → i ≠ g0) (hB : 0 ≤ base ∧ base ≤ 2305843009213693952) (hL : l.length ≤ 4096) (hBig : BigK (l.map EntP.key)) : Calls Try.prog 35 ⟨[(ptr g0)]⟩ w (fun e w' => ∃ g l' A' c', e = .returned (ptr g) ∧ w.heap.size ≤ g ∧ Keeps none_ w w' ∧ Has w' g (rowL [i64 base, i64 old, .slice A' l'.length c'] 78) ∧ Ents w' (fun i => (w.heap.size ≤ i ∧ i < w'.heap.size) ∧ i ≠ g) (.slice A' l'.length c') l' ∧ l'.map EntP.key = (l.map EntP.key)) := by
 have hcap := Ents.len hE
 have Hg := H0.lt
 have hcm := hcap.2.2
 unfold maxLen at hcm
 have K0 : Keeps none_ w w := Keeps.refl w
 refine q_calls Try.func35 (by kernel_rfl) (by kernel_rfl) ?_
 refine qs ?_
 refine qg ?_
 refine og 1 [(0, (ptr g0)), (2, (Value.pointer none))] 1 ?_
 refine od ?_
 refine qs ?_
 refine qs ?_
 refine qg ?_
 refine og 2 [(0, (ptr g0)), (2, (Value.pointer none)), (4, (Value.bool false))] 2 ?_
 refine od ?_
 refine q_else (o := .tmp 4) (by kernel_rfl) rfl ?_
 refine q_skip (by kernel_rfl) ?_
 refine qs ?_
 refine q_draw (fun wz => Keeps none_ w wz) 16 (by kernel_rfl) (by kernel_rfl) (by kernel_rfl) (fun w1 K2 _ _ => ⟨K2, ?_⟩)
 replace K0 := K0.t0 K2
 replace H0 := H0.keep K2 (fun h => h)
 replace hE := Ents.keep0 hE K2
 refine Dr.strong (S' := (fun wz => Keeps none_ w1 wz)) (Keeps.refl w1) (fun wz hx => K2.trans hx (fun i _ h => h) (fun _ _ h => h)) ?_
 clear K2
 refine Dr.takes (fuel' := 13) (is' := _) [0, 1, 2] [(0, (ptr g0)), (2, (Value.pointer none)), (7, (ptr g0))] (by kernel_rfl) rfl (by kernel_rfl) ?_
 refine Dr.take (i := 3) (v := (i64 base)) (by kernel_rfl) (by kernel_rfl) (fun wz hS => Runs.load (t := 2) (a := ⟨g0, 0, none⟩) (by kernel_rfl) ((H0.keep hS (fun h => h)).loads (by kernel_rfl))) (d := (some 8)) (by kernel_rfl) rfl ?_
 refine Dr.takes (fuel' := 9) (is' := _) [4, 5, 6] [(0, (ptr g0)), (2, (Value.pointer none)), (8, (i64 base)), (11, (Value.pointer (some ⟨g0, 1, none⟩)))] (by kernel_rfl) rfl (by kernel_rfl) ?_
 refine Dr.take (i := 7) (v := (i64 old)) (by kernel_rfl) (by kernel_rfl) (fun wz hS => Runs.load (t := 2) (a := ⟨g0, 1, none⟩) (by kernel_rfl) ((H0.keep hS (fun h => h)).loads (by kernel_rfl))) (d := (some 12)) (by kernel_rfl) rfl ?_
 refine Dr.takes (fuel' := 5) (is' := _) [8, 9, 10] [(2, (Value.pointer none)), (8, (i64 base)), (12, (i64 old)), (15, (Value.pointer (some ⟨g0, 2, none⟩)))] (by kernel_rfl) rfl (by kernel_rfl) ?_
 refine Dr.take (i := 11) (v := (Value.slice A l.length c)) (by kernel_rfl) (by kernel_rfl) (fun wz hS => Runs.load (t := 22) (a := ⟨g0, 2, none⟩) (by kernel_rfl) ((H0.keep hS (fun h => h)).loads (by kernel_rfl))) (d := (some 16)) (by kernel_rfl) rfl ?_
 refine Dr.call (i := 12) (by kernel_rfl) (by kernel_rfl) (d := (some 17)) (by kernel_rfl) (fun _ => own_calls _ T A c l hE (BigK.l hBig) (by omega)) ?_
 rintro _ w6 ⟨l3, A4, c5, rfl, K7, hE8, hK9⟩
 have ot10 : ∀ i, (fun i => w1.heap.size ≤ i ∧ i < w6.heap.size) i → i ≠ g0 := fun i hi => by have := hi.1; have := H0.lt; omega
 have hz11 := K0.size
 have hn12 := keys_len2 hK9
 try rw [List.length_drop] at hn12
 try rw [List.length_append] at hn12
 try rw [List.length_map] at hn12
 try rw [List.length_map] at hn12
 replace K0 := K0.t0 K7
 replace H0 := H0.keep K7 (fun h => h)
 replace hE := Ents.keep0 hE K7
 refine ⟨_, _, rfl, rfl, K7, ?_⟩
 refine Dr.strong (S' := (fun wz => Keeps none_ w6 wz)) (Keeps.refl w6) (fun wz hx => K7.trans hx (fun i _ h => h) (fun _ _ h => h)) ?_
 clear K7
 refine Dr.takes (fuel' := 2) (is' := _) [13] [(2, (Value.pointer none)), (18, (agg [(i64 base), (i64 old), (Value.slice A4 l3.length c5)]))] (by kernel_rfl) rfl (by kernel_rfl) ?_
 refine Dr.new (i := 14) (o := rowL [(i64 base), (i64 old), (Value.slice A4 l3.length c5)] 78) (V := fun b => (ptr b)) (by kernel_rfl) (by kernel_rfl) (d := (some 19)) (by kernel_rfl) (fun b => rfl) (fun b13 w14 hb15 H16 K17 hs18 => ?_)
 have lb13g0 : g0 < b13 := by have := H0.lt; omega
 have nb13 : w.heap.size ≤ b13 := by have := K0.size; omega
 have ot19 : ∀ i, T i → i ≠ b13 := fun i hi => by have := Ents.lt hE i hi; omega
 have ot20 : ∀ i, (fun i => w1.heap.size ≤ i ∧ i < w6.heap.size) i → i ≠ b13 := fun i hi => by have := Ents.lt hE8 i hi; omega
 replace K0 := K0.t0 K17
 replace H0 := H0.keep K17 (fun h => h)
 replace hE := Ents.keep0 hE K17
 replace hE8 := Ents.keep0 hE8 K17
 refine ⟨K17, ?_⟩
 refine Dr.strong (S' := (fun wz => Keeps none_ w14 wz)) (Keeps.refl w14) (fun wz hx => K17.trans hx (fun i _ h => h) (fun _ _ h => h)) ?_
 clear K17 hs18
 refine Dr.takes (fuel' := 0) (is' := _) [15] [(2, (ptr b13))] (by kernel_rfl) rfl (by kernel_rfl) ?_
 refine Dr.done (by kernel_rfl) ?_
 refine q_ret (by kernel_rfl) ?_
 refine ⟨(ptr b13), retv_tmp rfl rfl, ?_⟩
 exact ⟨b13, l3, A4, c5, rfl, nb13, K0, H16, (hE8).mono (fun i hi => ⟨⟨by have := hi.1; omega, Ents.lt hE8 i hi⟩, ot20 i hi⟩) (fun i hi => hi.1.2), hK9⟩

theorem New_ok (w : World) (T : Nat → Prop) (base t0 : Int) (A : Option Addr) (c : Nat) (l : List EntP) (hE : Ents w T (.slice A l.length c) l) (hBig : BigK (l.map EntP.key)) (hq : newE base t0 (l.map EntP.key) = 0) : Calls Try.prog 10 ⟨[(i64 base), (i64 t0), (Value.slice A l.length c)]⟩ w (fun e w' => ∃ g l' A' c', e = .returned (.tuple #[ptr g, i64 0]) ∧ w.heap.size ≤ g ∧ Keeps none_ w w' ∧ Has w' g (rowL [i64 base, i64 t0, .slice A' l'.length c'] 78) ∧ Ents w' (fun i => (w.heap.size ≤ i ∧ i < w'.heap.size) ∧ i ≠ g) (.slice A' l'.length c') l' ∧ l'.map EntP.key = (l.map EntP.key)) := by
 have hcap := Ents.len hE
 have K0 : Keeps none_ w w := Keeps.refl w
 refine q_calls Try.func10 (by kernel_rfl) (by kernel_rfl) ?_
 refine qs ?_
 refine qg ?_
 refine og 2 [(0, (i64 base)), (1, (i64 t0)), (2, (Value.slice A l.length c)), (6, (Value.pointer none)), (7, (i64 0))] 2 ?_
 refine od ?_
 refine qs ?_
 refine qs ?_
 refine qg ?_
 refine og 3 [(0, (i64 base)), (1, (i64 t0)), (2, (Value.slice A l.length c)), (6, (Value.pointer none)), (7, (i64 0)), (10, (Value.bool (decide (((l.length : Nat) : Int) > 4096))))] 3 ?_
 refine od ?_
 refine q_cond (o := .tmp 10) (b := (decide (((l.length : Nat) : Int) > 4096))) (by kernel_rfl) rfl (fun h1 => ?_) (fun h1 => ?_)
 ·rw [h1]
  have p2 : ((l.length : Nat) : Int) > 4096 := of_decide_eq_true h1
  refine qs ?_
  refine qg ?_
  refine og 2 [(0, (i64 base)), (1, (i64 t0)), (2, (Value.slice A l.length c)), (6, (Value.pointer none)), (7, (i64 4))] 2 ?_
  refine od ?_
  refine q_ret (by kernel_rfl) ?_
  refine ⟨(Value.tuple #[(Value.pointer none), (i64 4)]), retv_tmp2 rfl rfl rfl, ?_⟩
  exfalso; have hq := newE_ok hq; rw [List.length_map] at hq; omega
 ·rw [h1]
  have p3 : ¬ (((l.length : Nat) : Int) > 4096) := of_decide_eq_false h1
  refine q_skip (by kernel_rfl) ?_
  refine qs ?_
  refine qs ?_
  refine qg ?_
  refine og 3 [(0, (i64 base)), (1, (i64 t0)), (2, (Value.slice A l.length c)), (6, (Value.pointer none)), (7, (i64 0)), (13, (Value.bool (decide (base < 0))))] 3 ?_
  refine Ops.split (decide (base < 0)) (fun h4 => ?_) (fun h4 => ?_)
  ·rw [h4]
   have p5 : base < 0 := of_decide_eq_true h4
   refine og 25 [(0, (i64 base)), (1, (i64 t0)), (2, (Value.slice A l.length c)), (6, (Value.pointer none)), (7, (i64 0)), (38, (Value.bool true))] 28 ?_
   refine od ?_
   refine q_then (o := .tmp 38) (by kernel_rfl) rfl ?_
   refine qs ?_
   refine qg ?_
   refine og 2 [(0, (i64 base)), (1, (i64 t0)), (2, (Value.slice A l.length c)), (6, (Value.pointer none)), (7, (i64 1))] 2 ?_
   refine od ?_
   refine q_ret (by kernel_rfl) ?_
   refine ⟨(Value.tuple #[(Value.pointer none), (i64 1)]), retv_tmp2 rfl rfl rfl, ?_⟩
   exfalso; have hq := newE_ok hq; rw [List.length_map] at hq; omega
  ·rw [h4]
   have p6 : ¬ (base < 0) := of_decide_eq_false h4
   refine og 4 [(0, (i64 base)), (1, (i64 t0)), (2, (Value.slice A l.length c)), (6, (Value.pointer none)), (7, (i64 0)), (17, (Value.bool (decide (base > 1152921504606846976))))] 7 ?_
   refine Ops.split (decide (base > 1152921504606846976)) (fun h7 => ?_) (fun h7 => ?_)
   ·rw [h7]
    have p8 : base > 1152921504606846976 := of_decide_eq_true h7
    refine og 21 [(0, (i64 base)), (1, (i64 t0)), (2, (Value.slice A l.length c)), (6, (Value.pointer none)), (7, (i64 0)), (38, (Value.bool true))] 28 ?_
    refine od ?_
    refine q_then (o := .tmp 38) (by kernel_rfl) rfl ?_
    refine qs ?_
    refine qg ?_
    refine og 2 [(0, (i64 base)), (1, (i64 t0)), (2, (Value.slice A l.length c)), (6, (Value.pointer none)), (7, (i64 1))] 2 ?_
    refine od ?_
    refine q_ret (by kernel_rfl) ?_
    refine ⟨(Value.tuple #[(Value.pointer none), (i64 1)]), retv_tmp2 rfl rfl rfl, ?_⟩
    exfalso; have hq := newE_ok hq; rw [List.length_map] at hq; omega
   ·rw [h7]
    have p9 : ¬ (base > 1152921504606846976) := of_decide_eq_false h7
    refine og 4 [(0, (i64 base)), (1, (i64 t0)), (2, (Value.slice A l.length c)), (6, (Value.pointer none)), (7, (i64 0)), (21, (Value.bool (decide (t0 < 0))))] 11 ?_
    refine Ops.split (decide (t0 < 0)) (fun h10 => ?_) (fun h10 => ?_)
    ·rw [h10]
     have p11 : t0 < 0 := of_decide_eq_true h10
     refine og 17 [(0, (i64 base)), (1, (i64 t0)), (2, (Value.slice A l.length c)), (6, (Value.pointer none)), (7, (i64 0)), (38, (Value.bool true))] 28 ?_
     refine od ?_
     refine q_then (o := .tmp 38) (by kernel_rfl) rfl ?_
     refine qs ?_
     refine qg ?_
     refine og 2 [(0, (i64 base)), (1, (i64 t0)), (2, (Value.slice A l.length c)), (6, (Value.pointer none)), (7, (i64 1))] 2 ?_
     refine od ?_
     refine q_ret (by kernel_rfl) ?_
     refine ⟨(Value.tuple #[(Value.pointer none), (i64 1)]), retv_tmp2 rfl rfl rfl, ?_⟩
     exfalso; have hq := newE_ok hq; rw [List.length_map] at hq; omega
    ·rw [h10]
     have p12 : ¬ (t0 < 0) := of_decide_eq_false h10
     refine og 4 [(0, (i64 base)), (1, (i64 t0)), (2, (Value.slice A l.length c)), (6, (Value.pointer none)), (7, (i64 0)), (25, (Value.bool (decide (t0 > 1152921504606846976))))] 15 ?_
     refine Ops.split (decide (t0 > 1152921504606846976)) (fun h13 => ?_) (fun h13 => ?_)
     ·rw [h13]
      have p14 : t0 > 1152921504606846976 := of_decide_eq_true h13
      refine og 13 [(0, (i64 base)), (1, (i64 t0)), (2, (Value.slice A l.length c)), (6, (Value.pointer none)), (7, (i64 0)), (38, (Value.bool true))] 28 ?_
      refine od ?_
      refine q_then (o := .tmp 38) (by kernel_rfl) rfl ?_
      refine qs ?_
      refine qg ?_
      refine og 2 [(0, (i64 base)), (1, (i64 t0)), (2, (Value.slice A l.length c)), (6, (Value.pointer none)), (7, (i64 1))] 2 ?_
      refine od ?_
      refine q_ret (by kernel_rfl) ?_
      refine ⟨(Value.tuple #[(Value.pointer none), (i64 1)]), retv_tmp2 rfl rfl rfl, ?_⟩
      exfalso; have hq := newE_ok hq; rw [List.length_map] at hq; omega
     ·rw [h13]
      have p15 : ¬ (t0 > 1152921504606846976) := of_decide_eq_false h13
      refine og 3 [(0, (i64 base)), (1, (i64 t0)), (2, (Value.slice A l.length c)), (6, (Value.pointer none)), (7, (i64 0)), (25, (Value.bool false)), (28, (Value.bool (base == 0)))] 18 ?_
      refine Ops.split (base == 0) (fun h16 => ?_) (fun h16 => ?_)
      ·rw [h16]
       have p17 : base = 0 := of_beq_t h16
       refine og 5 [(0, (i64 base)), (1, (i64 t0)), (2, (Value.slice A l.length c)), (6, (Value.pointer none)), (7, (i64 0)), (33, (Value.bool (decide (t0 > 0))))] 23 ?_
       refine Ops.split (decide (t0 > 0)) (fun h18 => ?_) (fun h18 => ?_)
       ·rw [h18]
        have p19 : t0 > 0 := of_decide_eq_true h18
        refine og 5 [(0, (i64 base)), (1, (i64 t0)), (2, (Value.slice A l.length c)), (6, (Value.pointer none)), (7, (i64 0)), (38, (Value.bool true))] 28 ?_
        refine od ?_
        refine q_then (o := .tmp 38) (by kernel_rfl) rfl ?_
        refine qs ?_
        refine qg ?_
        refine og 2 [(0, (i64 base)), (1, (i64 t0)), (2, (Value.slice A l.length c)), (6, (Value.pointer none)), (7, (i64 1))] 2 ?_
        refine od ?_
        refine q_ret (by kernel_rfl) ?_
        refine ⟨(Value.tuple #[(Value.pointer none), (i64 1)]), retv_tmp2 rfl rfl rfl, ?_⟩
        exfalso; have hq := newE_ok hq; rw [List.length_map] at hq; omega
       ·rw [h18]
        have p20 : ¬ (t0 > 0) := of_decide_eq_false h18
        refine og 2 [(0, (i64 base)), (1, (i64 t0)), (2, (Value.slice A l.length c)), (6, (Value.pointer none)), (7, (i64 0)), (33, (Value.bool false)), (34, (i64 t0)), (35, (Value.slice A l.length c))] 25 ?_
        refine Ops.call (by kernel_rfl) (d := (some 36)) (by kernel_rfl) (rising_calls _ T t0 A c l hE) ?_
        rintro _ w22 ⟨rfl, K21⟩
        refine ⟨_, _, rfl, rfl, ?_⟩
        replace K0 := K0.t0 K21
        replace hE := Ents.keep0 hE K21
        clear K21
        refine og 2 [(0, (i64 base)), (1, (i64 t0)), (2, (Value.slice A l.length c)), (6, (Value.pointer none)), (7, (i64 0)), (38, (Value.bool (!(risingK t0 (l.map EntP.key)))))] 28 ?_
        refine od ?_
        refine q_cond (o := .tmp 38) (b := (!(risingK t0 (l.map EntP.key)))) (by kernel_rfl) rfl (fun h23 => ?_) (fun h23 => ?_)
        ·rw [h23]
         have p24 : (risingK t0 (l.map EntP.key)) = false := (bnot_true h23)
         refine qs ?_
         refine qg ?_
         refine og 2 [(0, (i64 base)), (1, (i64 t0)), (2, (Value.slice A l.length c)), (6, (Value.pointer none)), (7, (i64 1))] 2 ?_
         refine od ?_
         refine q_ret (by kernel_rfl) ?_
         refine ⟨(Value.tuple #[(Value.pointer none), (i64 1)]), retv_tmp2 rfl rfl rfl, ?_⟩
         exfalso; have hq := newE_ok hq; rw [List.length_map] at hq; have hq2 := hq.2.2; rw [(bnot_true h23)] at hq2; cases hq2
        ·rw [h23]
         have p25 : (risingK t0 (l.map EntP.key)) = true := (bnot_false h23)
         refine q_skip (by kernel_rfl) ?_
         refine qs ?_
         refine qg ?_
         refine og 3 [(6, (Value.pointer none)), (7, (i64 0)), (39, (i64 base)), (40, (i64 t0)), (41, (Value.slice A l.length c))] 3 ?_
         refine Ops.call (by kernel_rfl) (d := (some 42)) (by kernel_rfl) (own_calls _ T A c l hE (BigK.l hBig) (by omega)) ?_
         rintro _ w29 ⟨l26, A27, c28, rfl, K30, hE31, hK32⟩
         have hz33 := K0.size
         have hn34 := keys_len2 hK32
         try rw [List.length_drop] at hn34
         try rw [List.length_append] at hn34
         try rw [List.length_map] at hn34
         try rw [List.length_map] at hn34
         refine ⟨_, _, rfl, rfl, ?_⟩
         replace K0 := K0.t0 K30
         replace hE := Ents.keep0 hE K30
         clear K30
         refine og 1 [(6, (Value.pointer none)), (7, (i64 0)), (43, (agg [(i64 base), (i64 t0), (Value.slice A27 l26.length c28)]))] 5 ?_
         refine Ops.new (o := rowL [(i64 base), (i64 t0), (Value.slice A27 l26.length c28)] 78) (V := fun b => (ptr b)) (by kernel_rfl) (d := (some 44)) (by kernel_rfl) (fun b => rfl) (fun b35 w36 hb37 H38 K39 hs40 => ?_)
         have nb35 : w.heap.size ≤ b35 := by have := K0.size; omega
         have ot41 : ∀ i, T i → i ≠ b35 := fun i hi => by have := Ents.lt hE i hi; omega
         have ot42 : ∀ i, (fun i => w22.heap.size ≤ i ∧ i < w29.heap.size) i → i ≠ b35 := fun i hi => by have := Ents.lt hE31 i hi; omega
         replace K0 := K0.t0 K39
         replace hE := Ents.keep0 hE K39
         replace hE31 := Ents.keep0 hE31 K39
         clear K39 hs40
         refine og 2 [(6, (ptr b35)), (7, (i64 0))] 8 ?_
         refine od ?_
         refine q_ret (by kernel_rfl) ?_
         refine ⟨(Value.tuple #[(ptr b35), (i64 0)]), retv_tmp2 rfl rfl rfl, ?_⟩
         exact ⟨b35, l26, A27, c28, rfl, nb35, K0, H38, (hE31).mono (fun i hi => ⟨⟨by have := hi.1; omega, Ents.lt hE31 i hi⟩, ot42 i hi⟩) (fun i hi => hi.1.2), hK32⟩
      ·rw [h16]
       have p43 : ¬ (base = 0) := of_beq_f h16
       refine og 7 [(0, (i64 base)), (1, (i64 t0)), (2, (Value.slice A l.length c)), (6, (Value.pointer none)), (7, (i64 0)), (33, (Value.bool false)), (34, (i64 t0)), (35, (Value.slice A l.length c))] 25 ?_
       refine Ops.call (by kernel_rfl) (d := (some 36)) (by kernel_rfl) (rising_calls _ T t0 A c l hE) ?_
       rintro _ w45 ⟨rfl, K44⟩
       refine ⟨_, _, rfl, rfl, ?_⟩
       replace K0 := K0.t0 K44
       replace hE := Ents.keep0 hE K44
       clear K44
       refine og 2 [(0, (i64 base)), (1, (i64 t0)), (2, (Value.slice A l.length c)), (6, (Value.pointer none)), (7, (i64 0)), (38, (Value.bool (!(risingK t0 (l.map EntP.key)))))] 28 ?_
       refine od ?_
       refine q_cond (o := .tmp 38) (b := (!(risingK t0 (l.map EntP.key)))) (by kernel_rfl) rfl (fun h46 => ?_) (fun h46 => ?_)
       ·rw [h46]
        have p47 : (risingK t0 (l.map EntP.key)) = false := (bnot_true h46)
        refine qs ?_
        refine qg ?_
        refine og 2 [(0, (i64 base)), (1, (i64 t0)), (2, (Value.slice A l.length c)), (6, (Value.pointer none)), (7, (i64 1))] 2 ?_
        refine od ?_
        refine q_ret (by kernel_rfl) ?_
        refine ⟨(Value.tuple #[(Value.pointer none), (i64 1)]), retv_tmp2 rfl rfl rfl, ?_⟩
        exfalso; have hq := newE_ok hq; rw [List.length_map] at hq; have hq2 := hq.2.2; rw [(bnot_true h46)] at hq2; cases hq2
       ·rw [h46]
        have p48 : (risingK t0 (l.map EntP.key)) = true := (bnot_false h46)
        refine q_skip (by kernel_rfl) ?_
        refine qs ?_
        refine qg ?_
        refine og 3 [(6, (Value.pointer none)), (7, (i64 0)), (39, (i64 base)), (40, (i64 t0)), (41, (Value.slice A l.length c))] 3 ?_
        refine Ops.call (by kernel_rfl) (d := (some 42)) (by kernel_rfl) (own_calls _ T A c l hE (BigK.l hBig) (by omega)) ?_
        rintro _ w52 ⟨l49, A50, c51, rfl, K53, hE54, hK55⟩
        have hz56 := K0.size
        have hn57 := keys_len2 hK55
        try rw [List.length_drop] at hn57
        try rw [List.length_append] at hn57
        try rw [List.length_map] at hn57
        try rw [List.length_map] at hn57
        refine ⟨_, _, rfl, rfl, ?_⟩
        replace K0 := K0.t0 K53
        replace hE := Ents.keep0 hE K53
        clear K53
        refine og 1 [(6, (Value.pointer none)), (7, (i64 0)), (43, (agg [(i64 base), (i64 t0), (Value.slice A50 l49.length c51)]))] 5 ?_
        refine Ops.new (o := rowL [(i64 base), (i64 t0), (Value.slice A50 l49.length c51)] 78) (V := fun b => (ptr b)) (by kernel_rfl) (d := (some 44)) (by kernel_rfl) (fun b => rfl) (fun b58 w59 hb60 H61 K62 hs63 => ?_)
        have nb58 : w.heap.size ≤ b58 := by have := K0.size; omega
        have ot64 : ∀ i, T i → i ≠ b58 := fun i hi => by have := Ents.lt hE i hi; omega
        have ot65 : ∀ i, (fun i => w45.heap.size ≤ i ∧ i < w52.heap.size) i → i ≠ b58 := fun i hi => by have := Ents.lt hE54 i hi; omega
        replace K0 := K0.t0 K62
        replace hE := Ents.keep0 hE K62
        replace hE54 := Ents.keep0 hE54 K62
        clear K62 hs63
        refine og 2 [(6, (ptr b58)), (7, (i64 0))] 8 ?_
        refine od ?_
        refine q_ret (by kernel_rfl) ?_
        refine ⟨(Value.tuple #[(ptr b58), (i64 0)]), retv_tmp2 rfl rfl rfl, ?_⟩
        exact ⟨b58, l49, A50, c51, rfl, nb58, K0, H61, (hE54).mono (fun i hi => ⟨⟨by have := hi.1; omega, Ents.lt hE54 i hi⟩, ot65 i hi⟩) (fun i hi => hi.1.2), hK55⟩

theorem New_bad (w : World) (T : Nat → Prop) (base t0 : Int) (A : Option Addr) (c : Nat) (l : List EntP) (hE : Ents w T (.slice A l.length c) l) (hBig : BigK (l.map EntP.key)) (hq : newE base t0 (l.map EntP.key) ≠ 0) : Calls Try.prog 10 ⟨[(i64 base), (i64 t0), (Value.slice A l.length c)]⟩ w (fun e w' => e = .returned (.tuple #[.pointer none, i64 (newE base t0 (l.map EntP.key))]) ∧ Keeps none_ w w') := by
 have hcap := Ents.len hE
 have K0 : Keeps none_ w w := Keeps.refl w
 refine q_calls Try.func10 (by kernel_rfl) (by kernel_rfl) ?_
 refine qs ?_
 refine qg ?_
 refine og 2 [(0, (i64 base)), (1, (i64 t0)), (2, (Value.slice A l.length c)), (6, (Value.pointer none)), (7, (i64 0))] 2 ?_
 refine od ?_
 refine qs ?_
 refine qs ?_
 refine qg ?_
 refine og 3 [(0, (i64 base)), (1, (i64 t0)), (2, (Value.slice A l.length c)), (6, (Value.pointer none)), (7, (i64 0)), (10, (Value.bool (decide (((l.length : Nat) : Int) > 4096))))] 3 ?_
 refine od ?_
 refine q_cond (o := .tmp 10) (b := (decide (((l.length : Nat) : Int) > 4096))) (by kernel_rfl) rfl (fun h1 => ?_) (fun h1 => ?_)
 ·rw [h1]
  have p2 : ((l.length : Nat) : Int) > 4096 := of_decide_eq_true h1
  refine qs ?_
  refine qg ?_
  refine og 2 [(0, (i64 base)), (1, (i64 t0)), (2, (Value.slice A l.length c)), (6, (Value.pointer none)), (7, (i64 4))] 2 ?_
  refine od ?_
  refine q_ret (by kernel_rfl) ?_
  refine ⟨(Value.tuple #[(Value.pointer none), (i64 4)]), retv_tmp2 rfl rfl rfl, ?_⟩
  have e : newE base t0 (l.map EntP.key) = 4 := by unfold newE; rw [List.length_map]; rw [if_pos (by omega)]
  exact ⟨by rw [e], K0⟩
 ·rw [h1]
  have p3 : ¬ (((l.length : Nat) : Int) > 4096) := of_decide_eq_false h1
  refine q_skip (by kernel_rfl) ?_
  refine qs ?_
  refine qs ?_
  refine qg ?_
  refine og 3 [(0, (i64 base)), (1, (i64 t0)), (2, (Value.slice A l.length c)), (6, (Value.pointer none)), (7, (i64 0)), (13, (Value.bool (decide (base < 0))))] 3 ?_
  refine Ops.split (decide (base < 0)) (fun h4 => ?_) (fun h4 => ?_)
  ·rw [h4]
   have p5 : base < 0 := of_decide_eq_true h4
   refine og 25 [(0, (i64 base)), (1, (i64 t0)), (2, (Value.slice A l.length c)), (6, (Value.pointer none)), (7, (i64 0)), (38, (Value.bool true))] 28 ?_
   refine od ?_
   refine q_then (o := .tmp 38) (by kernel_rfl) rfl ?_
   refine qs ?_
   refine qg ?_
   refine og 2 [(0, (i64 base)), (1, (i64 t0)), (2, (Value.slice A l.length c)), (6, (Value.pointer none)), (7, (i64 1))] 2 ?_
   refine od ?_
   refine q_ret (by kernel_rfl) ?_
   refine ⟨(Value.tuple #[(Value.pointer none), (i64 1)]), retv_tmp2 rfl rfl rfl, ?_⟩
   have e : newE base t0 (l.map EntP.key) = 1 := by unfold newE; rw [List.length_map]; rw [if_neg (by omega), if_pos (by omega)]
   exact ⟨by rw [e], K0⟩
  ·rw [h4]
   have p6 : ¬ (base < 0) := of_decide_eq_false h4
   refine og 4 [(0, (i64 base)), (1, (i64 t0)), (2, (Value.slice A l.length c)), (6, (Value.pointer none)), (7, (i64 0)), (17, (Value.bool (decide (base > 1152921504606846976))))] 7 ?_
   refine Ops.split (decide (base > 1152921504606846976)) (fun h7 => ?_) (fun h7 => ?_)
   ·rw [h7]
    have p8 : base > 1152921504606846976 := of_decide_eq_true h7
    refine og 21 [(0, (i64 base)), (1, (i64 t0)), (2, (Value.slice A l.length c)), (6, (Value.pointer none)), (7, (i64 0)), (38, (Value.bool true))] 28 ?_
    refine od ?_
    refine q_then (o := .tmp 38) (by kernel_rfl) rfl ?_
    refine qs ?_
    refine qg ?_
    refine og 2 [(0, (i64 base)), (1, (i64 t0)), (2, (Value.slice A l.length c)), (6, (Value.pointer none)), (7, (i64 1))] 2 ?_
    refine od ?_
    refine q_ret (by kernel_rfl) ?_
    refine ⟨(Value.tuple #[(Value.pointer none), (i64 1)]), retv_tmp2 rfl rfl rfl, ?_⟩
    have e : newE base t0 (l.map EntP.key) = 1 := by unfold newE; rw [List.length_map]; rw [if_neg (by omega), if_pos (by omega)]
    exact ⟨by rw [e], K0⟩
   ·rw [h7]
    have p9 : ¬ (base > 1152921504606846976) := of_decide_eq_false h7
    refine og 4 [(0, (i64 base)), (1, (i64 t0)), (2, (Value.slice A l.length c)), (6, (Value.pointer none)), (7, (i64 0)), (21, (Value.bool (decide (t0 < 0))))] 11 ?_
    refine Ops.split (decide (t0 < 0)) (fun h10 => ?_) (fun h10 => ?_)
    ·rw [h10]
     have p11 : t0 < 0 := of_decide_eq_true h10
     refine og 17 [(0, (i64 base)), (1, (i64 t0)), (2, (Value.slice A l.length c)), (6, (Value.pointer none)), (7, (i64 0)), (38, (Value.bool true))] 28 ?_
     refine od ?_
     refine q_then (o := .tmp 38) (by kernel_rfl) rfl ?_
     refine qs ?_
     refine qg ?_
     refine og 2 [(0, (i64 base)), (1, (i64 t0)), (2, (Value.slice A l.length c)), (6, (Value.pointer none)), (7, (i64 1))] 2 ?_
     refine od ?_
     refine q_ret (by kernel_rfl) ?_
     refine ⟨(Value.tuple #[(Value.pointer none), (i64 1)]), retv_tmp2 rfl rfl rfl, ?_⟩
     have e : newE base t0 (l.map EntP.key) = 1 := by unfold newE; rw [List.length_map]; rw [if_neg (by omega), if_pos (by omega)]
     exact ⟨by rw [e], K0⟩
    ·rw [h10]
     have p12 : ¬ (t0 < 0) := of_decide_eq_false h10
     refine og 4 [(0, (i64 base)), (1, (i64 t0)), (2, (Value.slice A l.length c)), (6, (Value.pointer none)), (7, (i64 0)), (25, (Value.bool (decide (t0 > 1152921504606846976))))] 15 ?_
     refine Ops.split (decide (t0 > 1152921504606846976)) (fun h13 => ?_) (fun h13 => ?_)
     ·rw [h13]
      have p14 : t0 > 1152921504606846976 := of_decide_eq_true h13
      refine og 13 [(0, (i64 base)), (1, (i64 t0)), (2, (Value.slice A l.length c)), (6, (Value.pointer none)), (7, (i64 0)), (38, (Value.bool true))] 28 ?_
      refine od ?_
      refine q_then (o := .tmp 38) (by kernel_rfl) rfl ?_
      refine qs ?_
      refine qg ?_
      refine og 2 [(0, (i64 base)), (1, (i64 t0)), (2, (Value.slice A l.length c)), (6, (Value.pointer none)), (7, (i64 1))] 2 ?_
      refine od ?_
      refine q_ret (by kernel_rfl) ?_
      refine ⟨(Value.tuple #[(Value.pointer none), (i64 1)]), retv_tmp2 rfl rfl rfl, ?_⟩
      have e : newE base t0 (l.map EntP.key) = 1 := by unfold newE; rw [List.length_map]; rw [if_neg (by omega), if_pos (by omega)]
      exact ⟨by rw [e], K0⟩
     ·rw [h13]
      have p15 : ¬ (t0 > 1152921504606846976) := of_decide_eq_false h13
      refine og 3 [(0, (i64 base)), (1, (i64 t0)), (2, (Value.slice A l.length c)), (6, (Value.pointer none)), (7, (i64 0)), (25, (Value.bool false)), (28, (Value.bool (base == 0)))] 18 ?_
      refine Ops.split (base == 0) (fun h16 => ?_) (fun h16 => ?_)
      ·rw [h16]
       have p17 : base = 0 := of_beq_t h16
       refine og 5 [(0, (i64 base)), (1, (i64 t0)), (2, (Value.slice A l.length c)), (6, (Value.pointer none)), (7, (i64 0)), (33, (Value.bool (decide (t0 > 0))))] 23 ?_
       refine Ops.split (decide (t0 > 0)) (fun h18 => ?_) (fun h18 => ?_)
       ·rw [h18]
        have p19 : t0 > 0 := of_decide_eq_true h18
        refine og 5 [(0, (i64 base)), (1, (i64 t0)), (2, (Value.slice A l.length c)), (6, (Value.pointer none)), (7, (i64 0)), (38, (Value.bool true))] 28 ?_
        refine od ?_
        refine q_then (o := .tmp 38) (by kernel_rfl) rfl ?_
        refine qs ?_
        refine qg ?_
        refine og 2 [(0, (i64 base)), (1, (i64 t0)), (2, (Value.slice A l.length c)), (6, (Value.pointer none)), (7, (i64 1))] 2 ?_
        refine od ?_
        refine q_ret (by kernel_rfl) ?_
        refine ⟨(Value.tuple #[(Value.pointer none), (i64 1)]), retv_tmp2 rfl rfl rfl, ?_⟩
        have e : newE base t0 (l.map EntP.key) = 1 := by unfold newE; rw [List.length_map]; rw [if_neg (by omega), if_pos (by omega)]
        exact ⟨by rw [e], K0⟩
       ·rw [h18]
        have p20 : ¬ (t0 > 0) := of_decide_eq_false h18
        refine og 2 [(0, (i64 base)), (1, (i64 t0)), (2, (Value.slice A l.length c)), (6, (Value.pointer none)), (7, (i64 0)), (33, (Value.bool false)), (34, (i64 t0)), (35, (Value.slice A l.length c))] 25 ?_
        refine Ops.call (by kernel_rfl) (d := (some 36)) (by kernel_rfl) (rising_calls _ T t0 A c l hE) ?_
        rintro _ w22 ⟨rfl, K21⟩
        refine ⟨_, _, rfl, rfl, ?_⟩
        replace K0 := K0.t0 K21
        replace hE := Ents.keep0 hE K21
        clear K21
        refine og 2 [(0, (i64 base)), (1, (i64 t0)), (2, (Value.slice A l.length c)), (6, (Value.pointer none)), (7, (i64 0)), (38, (Value.bool (!(risingK t0 (l.map EntP.key)))))] 28 ?_
        refine od ?_
        refine q_cond (o := .tmp 38) (b := (!(risingK t0 (l.map EntP.key)))) (by kernel_rfl) rfl (fun h23 => ?_) (fun h23 => ?_)
        ·rw [h23]
         have p24 : (risingK t0 (l.map EntP.key)) = false := (bnot_true h23)
         refine qs ?_
         refine qg ?_
         refine og 2 [(0, (i64 base)), (1, (i64 t0)), (2, (Value.slice A l.length c)), (6, (Value.pointer none)), (7, (i64 1))] 2 ?_
         refine od ?_
         refine q_ret (by kernel_rfl) ?_
         refine ⟨(Value.tuple #[(Value.pointer none), (i64 1)]), retv_tmp2 rfl rfl rfl, ?_⟩
         have e : newE base t0 (l.map EntP.key) = 1 := by unfold newE; rw [List.length_map]; rw [if_neg (by omega), if_neg (by omega), if_neg (by rw [(bnot_true h23)]; decide)]
         exact ⟨by rw [e], K0⟩
        ·rw [h23]
         have p25 : (risingK t0 (l.map EntP.key)) = true := (bnot_false h23)
         refine q_skip (by kernel_rfl) ?_
         refine qs ?_
         refine qg ?_
         refine og 3 [(6, (Value.pointer none)), (7, (i64 0)), (39, (i64 base)), (40, (i64 t0)), (41, (Value.slice A l.length c))] 3 ?_
         refine Ops.call (by kernel_rfl) (d := (some 42)) (by kernel_rfl) (own_calls _ T A c l hE (BigK.l hBig) (by omega)) ?_
         rintro _ w29 ⟨l26, A27, c28, rfl, K30, hE31, hK32⟩
         have hz33 := K0.size
         have hn34 := keys_len2 hK32
         try rw [List.length_drop] at hn34
         try rw [List.length_append] at hn34
         try rw [List.length_map] at hn34
         try rw [List.length_map] at hn34
         refine ⟨_, _, rfl, rfl, ?_⟩
         replace K0 := K0.t0 K30
         replace hE := Ents.keep0 hE K30
         clear K30
         refine og 1 [(6, (Value.pointer none)), (7, (i64 0)), (43, (agg [(i64 base), (i64 t0), (Value.slice A27 l26.length c28)]))] 5 ?_
         refine Ops.new (o := rowL [(i64 base), (i64 t0), (Value.slice A27 l26.length c28)] 78) (V := fun b => (ptr b)) (by kernel_rfl) (d := (some 44)) (by kernel_rfl) (fun b => rfl) (fun b35 w36 hb37 H38 K39 hs40 => ?_)
         have nb35 : w.heap.size ≤ b35 := by have := K0.size; omega
         have ot41 : ∀ i, T i → i ≠ b35 := fun i hi => by have := Ents.lt hE i hi; omega
         have ot42 : ∀ i, (fun i => w22.heap.size ≤ i ∧ i < w29.heap.size) i → i ≠ b35 := fun i hi => by have := Ents.lt hE31 i hi; omega
         replace K0 := K0.t0 K39
         replace hE := Ents.keep0 hE K39
         replace hE31 := Ents.keep0 hE31 K39
         clear K39 hs40
         refine og 2 [(6, (ptr b35)), (7, (i64 0))] 8 ?_
         refine od ?_
         refine q_ret (by kernel_rfl) ?_
         refine ⟨(Value.tuple #[(ptr b35), (i64 0)]), retv_tmp2 rfl rfl rfl, ?_⟩
         exact absurd (by unfold newE; rw [List.length_map, if_neg (by omega), if_neg (by omega), if_pos (bnot_false h23)]) hq
      ·rw [h16]
       have p43 : ¬ (base = 0) := of_beq_f h16
       refine og 7 [(0, (i64 base)), (1, (i64 t0)), (2, (Value.slice A l.length c)), (6, (Value.pointer none)), (7, (i64 0)), (33, (Value.bool false)), (34, (i64 t0)), (35, (Value.slice A l.length c))] 25 ?_
       refine Ops.call (by kernel_rfl) (d := (some 36)) (by kernel_rfl) (rising_calls _ T t0 A c l hE) ?_
       rintro _ w45 ⟨rfl, K44⟩
       refine ⟨_, _, rfl, rfl, ?_⟩
       replace K0 := K0.t0 K44
       replace hE := Ents.keep0 hE K44
       clear K44
       refine og 2 [(0, (i64 base)), (1, (i64 t0)), (2, (Value.slice A l.length c)), (6, (Value.pointer none)), (7, (i64 0)), (38, (Value.bool (!(risingK t0 (l.map EntP.key)))))] 28 ?_
       refine od ?_
       refine q_cond (o := .tmp 38) (b := (!(risingK t0 (l.map EntP.key)))) (by kernel_rfl) rfl (fun h46 => ?_) (fun h46 => ?_)
       ·rw [h46]
        have p47 : (risingK t0 (l.map EntP.key)) = false := (bnot_true h46)
        refine qs ?_
        refine qg ?_
        refine og 2 [(0, (i64 base)), (1, (i64 t0)), (2, (Value.slice A l.length c)), (6, (Value.pointer none)), (7, (i64 1))] 2 ?_
        refine od ?_
        refine q_ret (by kernel_rfl) ?_
        refine ⟨(Value.tuple #[(Value.pointer none), (i64 1)]), retv_tmp2 rfl rfl rfl, ?_⟩
        have e : newE base t0 (l.map EntP.key) = 1 := by unfold newE; rw [List.length_map]; rw [if_neg (by omega), if_neg (by omega), if_neg (by rw [(bnot_true h46)]; decide)]
        exact ⟨by rw [e], K0⟩
       ·rw [h46]
        have p48 : (risingK t0 (l.map EntP.key)) = true := (bnot_false h46)
        refine q_skip (by kernel_rfl) ?_
        refine qs ?_
        refine qg ?_
        refine og 3 [(6, (Value.pointer none)), (7, (i64 0)), (39, (i64 base)), (40, (i64 t0)), (41, (Value.slice A l.length c))] 3 ?_
        refine Ops.call (by kernel_rfl) (d := (some 42)) (by kernel_rfl) (own_calls _ T A c l hE (BigK.l hBig) (by omega)) ?_
        rintro _ w52 ⟨l49, A50, c51, rfl, K53, hE54, hK55⟩
        have hz56 := K0.size
        have hn57 := keys_len2 hK55
        try rw [List.length_drop] at hn57
        try rw [List.length_append] at hn57
        try rw [List.length_map] at hn57
        try rw [List.length_map] at hn57
        refine ⟨_, _, rfl, rfl, ?_⟩
        replace K0 := K0.t0 K53
        replace hE := Ents.keep0 hE K53
        clear K53
        refine og 1 [(6, (Value.pointer none)), (7, (i64 0)), (43, (agg [(i64 base), (i64 t0), (Value.slice A50 l49.length c51)]))] 5 ?_
        refine Ops.new (o := rowL [(i64 base), (i64 t0), (Value.slice A50 l49.length c51)] 78) (V := fun b => (ptr b)) (by kernel_rfl) (d := (some 44)) (by kernel_rfl) (fun b => rfl) (fun b58 w59 hb60 H61 K62 hs63 => ?_)
        have nb58 : w.heap.size ≤ b58 := by have := K0.size; omega
        have ot64 : ∀ i, T i → i ≠ b58 := fun i hi => by have := Ents.lt hE i hi; omega
        have ot65 : ∀ i, (fun i => w45.heap.size ≤ i ∧ i < w52.heap.size) i → i ≠ b58 := fun i hi => by have := Ents.lt hE54 i hi; omega
        replace K0 := K0.t0 K62
        replace hE := Ents.keep0 hE K62
        replace hE54 := Ents.keep0 hE54 K62
        clear K62 hs63
        refine og 2 [(6, (ptr b58)), (7, (i64 0))] 8 ?_
        refine od ?_
        refine q_ret (by kernel_rfl) ?_
        refine ⟨(Value.tuple #[(ptr b58), (i64 0)]), retv_tmp2 rfl rfl rfl, ?_⟩
        exact absurd (by unfold newE; rw [List.length_map, if_neg (by omega), if_neg (by omega), if_pos (bnot_false h46)]) hq
end Go.Proofs.Ytnmpepjikfbpdaa
