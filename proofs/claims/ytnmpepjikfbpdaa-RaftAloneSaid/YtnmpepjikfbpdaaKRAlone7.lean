/- What the claim stands on, part 7: rules of the walk, contracts of the functions, plain laws. -/
import Derived.Test.YtnmpepjikfbpdaaKRAlone6
import Derived.Maps.Own
import Derived.Sort.KeysCollected
import Derived.Lib.SlTrimSet
import Derived.Test.YtnmpepjikfbpdaaKRAlone4
import Derived.Test.YtnmpepjikfbpdaaProg
import Derived.Test.YtnmpepjikfbpdaaKRAlone5
set_option linter.unusedVariables false
namespace Go.Q
open Go.RowKit
/-- The letters of a name. -/
def lettersB : List UInt8 := [97, 98, 99, 100, 101, 102, 103, 104, 105, 106, 107, 108, 109, 110, 111, 112, 113, 114, 115, 116, 117, 118, 119, 120, 121, 122, 48, 49, 50, 51, 52, 53, 54, 55, 56, 57, 95]
def kcell (x : List UInt8) : List Value := [kstr x]
theorem AccM.Ok.len {a : AccM} (h : a.Ok) : a.name.length ≤ 24 := by
  have := h.name
  simp only [nameOk, Bool.and_eq_true, decide_eq_true_eq] at this
  exact this.1.2
/-- Accounts that go one by one. -/
def dropL (S : List AccM) (l : List RowM) : List AccM := l.foldl (fun S r => S.filter fun a => decide (a.name ≠ r.name)) S
theorem RdT.ld1 {P : Program} {t : TypeId} {w : World} {α : Type} {f : α → List Value} {l : List α} {A : Option Addr} {n c k b off : Nat} {x : α} {u : Value} (hf : ∀ x, (f x).length = 1) (h : RdT w 1 f (.slice A n c) l) (ht : isAgg? P t = some false) (hA : A = some ⟨b, off, none⟩)
    (hx : l[k]? = some x) (hu : (f x)[0]? = some u) : Loads P w t ⟨b, off + k, none⟩ u := by
  have := RdT.ldf (o := 0) hf h ht hA hx hu
  simpa using this
/-- The fixed calls. -/
def knownS : List AccM := chgS (holdF [121]) (chgS (holdF [120]) (chgS (takeF 6) (chgS (addF 5) (putS [] [97, 110, 110] 0) [97, 110, 110]) [97, 110, 110]) [97, 110, 110]) [97, 110, 110]
end Go.Q
namespace Go.Q
open Go.RowKit
/-- What is wrong of an operation. -/
def wrongE (o : Opm) : Int :=
  if o.kind = 6 then 0
  else if o.kind = 7 then (if o.slot < 0 ∨ 15 < o.slot ∨ o.shard < 1 ∨ 3 < o.shard then 1 else 0)
  else if o.kind < 1 ∨ 7 < o.kind then 1
  else if nameOk o.frm = false then 46
  else if o.kind = 5 then 0
  else if nameOk o.key = false then 46
  else if o.kind = 1 then 0
  else if o.kind = 4 ∧ nameOk o.to = false then 46
  else if o.amount < 1 then 47
  else if o.kind = 4 ∧ o.frm = o.to then 44
  else 0
section
variable {P : Program} {w : World} {t : TypeId}
theorem run_index_str (ht : P.underlying t = some .string) {s : List UInt8} {i : Nat} {c : UInt8} (h : s[i]? = some c) (k : IntKind) : (Instr.index t (.string (str s)) (.int k ((i : Nat) : Int))).run P w = .ok (.int .u8 ((c.toNat : Nat) : Int)) w := by
  have h1 : (str s)[i]? = some c := by
    obtain ⟨hl, he⟩ := List.getElem?_eq_some_iff.1 h
    have hl2 : i < (str s).size := hl
    rw [getElem?_pos (str s) i hl2]
    exact congrArg some he
  simp [Instr.index, asIntOf, run_underlying ht, h1, Result.andThen, go_sem]
def ixv? (L : Loc) (o : Oper) : Option (TypeId × Value × Value) := match o.op with | .index t x y => some (t, ev L x, ev L y) | _ => none
theorem Runs.of_index {L : Loc} {o : Oper} {x y v : Value} {w' : World} (h : ixv? L o = some (t, x, y)) (hr : (Instr.index t x y).run P w = .ok v w') : Runs P L o w v w' := by
  unfold ixv? at h
  cases ho : o.op with
  | index t' x' y' =>
    rw [ho] at h
    simp only [Option.some.injEq, Prod.mk.injEq] at h
    obtain ⟨rfl, hx, hy⟩ := h
    unfold Runs execOp
    simp only [ho, hx, hy, Sem.run_bind, Result.andThen_ok, hr, Sem.run_pure]
  | _ => rw [ho] at h; cases h
end
end Go.Q
namespace Go.Proofs.Ytnmpepjikfbpdaa
open Go.Q Go.RowKit

theorem others_calls (w : World) (r g : Nat) (term voted role leader commit group elapsed timeout : Int) (vv pv : Value) (fv : Value) (Hr : Has w r (rowL [(i64 term), (i64 voted), (i64 role), (i64 leader), (i64 commit), (i64 group), (i64 0), (i64 1), (ptr g), (i64 elapsed), (i64 timeout), (Value.slice none 0 0), vv, pv, (Value.pointer none), (Value.pointer none), (Value.bool false), (Value.slice none 0 0)] 84)) : Calls Try.prog 37 ⟨[(ptr r), fv]⟩ w (fun e w' => e = .returned (.tuple #[]) ∧ Keeps none_ w w') := by
 have Hrl := Hr.lt
 have K0 : Keeps none_ w w := Keeps.refl w
 refine q_calls Try.func37 (by kernel_rfl) (by kernel_rfl) ?_
 refine qs ?_
 refine qg ?_
 refine og 3 [(0, (ptr r)), (1, fv), (7, (Value.pointer (some ⟨r, 7, none⟩)))] 3 ?_
 refine Ops.go (v := (i64 1)) (by kernel_rfl) (Runs.load (t := 3) (a := ⟨r, 7, none⟩) (by kernel_rfl) (Hr.loads (by kernel_rfl))) (d := (some 8)) (by kernel_rfl) rfl ?_
 refine og 1 [(0, (ptr r)), (1, fv), (8, (i64 1)), (9, (i64 0))] 5 ?_
 refine od ?_
 refine q_block (id := 0) (by kernel_rfl) ?_
 refine q_keep (R := [(0, (ptr r)), (1, fv), (8, (i64 1)), (9, (i64 0))]) (by kernel_rfl) ?_
 refine q_loop (fun (i : Nat) L (wx : World) => L = [(0, (ptr r)), (1, fv), (8, (i64 1)), (9, (i64 ((i : Nat) : Int)))] ∧ i ≤ 1 ∧ Keeps none_ w wx ∧ Has wx r (rowL [(i64 term), (i64 voted), (i64 role), (i64 leader), (i64 commit), (i64 group), (i64 0), (i64 1), (ptr g), (i64 elapsed), (i64 timeout), (Value.slice none 0 0), vv, pv, (Value.pointer none), (Value.pointer none), (Value.bool false), (Value.slice none 0 0)] 84)) (fun (i : Nat) => 1 - i) 0 (by kernel_rfl) ⟨rfl, Nat.zero_le _, K0, Hr⟩ ?_
 clear Hr K0
 rintro i _ w1 ⟨rfl, hi, K2, H3⟩
 refine qs ?_
 refine qg ?_
 refine og 1 [(0, (ptr r)), (1, fv), (8, (i64 1)), (9, (i64 ((i : Nat) : Int))), (10, (Value.bool (decide (((i : Nat) : Int) < 1))))] 1 ?_
 refine od ?_
 refine qs ?_
 refine q_cond (o := .tmp 10) (b := (decide (((i : Nat) : Int) < 1))) (by kernel_rfl) rfl (fun h4 => ?_) (fun h4 => ?_)
 ·rw [h4]
  have p5 : ((i : Nat) : Int) < 1 := of_decide_eq_true h4
  refine q_skip (by kernel_rfl) ?_
  refine qs ?_
  refine q_block (id := 1) (by kernel_rfl) ?_
  refine qs ?_
  refine qg ?_
  refine og 2 [(0, (ptr r)), (1, fv), (4, (i64 ((i : Nat) : Int))), (8, (i64 1)), (9, (i64 ((i : Nat) : Int))), (10, (Value.bool true))] 2 ?_
  refine od ?_
  refine qs ?_
  refine qg ?_
  refine og 4 [(0, (ptr r)), (1, fv), (4, (i64 ((i : Nat) : Int))), (8, (i64 1)), (9, (i64 ((i : Nat) : Int))), (10, (Value.bool true)), (12, (i64 ((i : Nat) : Int))), (15, (Value.pointer (some ⟨r, 6, none⟩)))] 4 ?_
  refine Ops.go (v := (i64 0)) (by kernel_rfl) (Runs.load (t := 3) (a := ⟨r, 6, none⟩) (by kernel_rfl) (H3.loads (by kernel_rfl))) (d := (some 16)) (by kernel_rfl) rfl ?_
  refine og 1 [(0, (ptr r)), (1, fv), (4, (i64 ((i : Nat) : Int))), (8, (i64 1)), (9, (i64 ((i : Nat) : Int))), (10, (Value.bool true)), (17, (Value.bool (((i : Nat) : Int) != 0)))] 6 ?_
  refine od ?_
  have h6 : (((i : Nat) : Int) != 0) = false := bne_f (by omega)
  rw [h6]
  refine q_else (o := .tmp 17) (by kernel_rfl) rfl ?_
  refine q_skip (by kernel_rfl) ?_
  refine qg ?_
  refine og 1 [(0, (ptr r)), (1, fv), (4, (i64 ((i : Nat) : Int))), (8, (i64 1)), (9, (i64 ((i : Nat) : Int))), (10, (Value.bool true)), (17, (Value.bool false)), (21, (i64 (IntKind.i64.wrap (((i : Nat) : Int) + 1))))] 1 ?_
  have e7 : IntKind.i64.wrap (((i : Nat) : Int) + 1) = ((i + 1 : Nat) : Int) := by rw [wrap_i64 (by omega) (by omega)]; omega
  rw [e7]
  clear e7
  refine og 1 [(0, (ptr r)), (1, fv), (4, (i64 ((i : Nat) : Int))), (8, (i64 1)), (9, (i64 ((i + 1 : Nat) : Int))), (10, (Value.bool true)), (17, (Value.bool false))] 2 ?_
  refine Ops.keep (R := [(0, (ptr r)), (1, fv), (8, (i64 1)), (9, (i64 ((i + 1 : Nat) : Int)))]) (by kernel_rfl) ?_
  refine od ?_
  exact ⟨i + 1, ⟨rfl, (by omega), K2, H3⟩, (show 1 - (i + 1) < 1 - i from by omega)⟩
 ·rw [h4]
  have p8 : ¬ (((i : Nat) : Int) < 1) := of_decide_eq_false h4
  refine q_exit (id := 0) (by kernel_rfl) ?_
  refine ⟨(Value.tuple #[]), retv_none rfl, ?_⟩
  exact ⟨rfl, K2⟩

theorem wait_calls (w : World) (r g : Nat) (term voted role leader commit group elapsed timeout : Int) (vv pv : Value) (Hr : Has w r (rowL [(i64 term), (i64 voted), (i64 role), (i64 leader), (i64 commit), (i64 group), (i64 0), (i64 1), (ptr g), (i64 elapsed), (i64 timeout), (Value.slice none 0 0), vv, pv, (Value.pointer none), (Value.pointer none), (Value.bool false), (Value.slice none 0 0)] 84)) : Calls Try.prog 36 ⟨[(ptr r)]⟩ w (fun e w' => e = .returned (.tuple #[]) ∧ Keeps (fun i => i = r) w w' ∧ Has w' r (rowL [(i64 term), (i64 voted), (i64 role), (i64 leader), (i64 commit), (i64 group), (i64 0), (i64 1), (ptr g), (i64 elapsed), (i64 10), (Value.slice none 0 0), vv, pv, (Value.pointer none), (Value.pointer none), (Value.bool false), (Value.slice none 0 0)] 84)) := by
 have Hrl := Hr.lt
 have K0 : Keeps (fun i => i = r) w w := (Keeps.refl w).mono (fun _ _ h => h.elim)
 refine q_calls Try.func36 (by kernel_rfl) (by kernel_rfl) ?_
 refine qs ?_
 refine qs ?_
 refine qg ?_
 refine og 3 [(0, (ptr r)), (4, (Value.pointer (some ⟨r, 11, none⟩)))] 3 ?_
 refine Ops.go (v := (Value.slice none 0 0)) (by kernel_rfl) (Runs.load (t := 53) (a := ⟨r, 11, none⟩) (by kernel_rfl) (Hr.loads (by kernel_rfl))) (d := (some 5)) (by kernel_rfl) rfl ?_
 refine og 2 [(0, (ptr r)), (7, (Value.bool true))] 6 ?_
 refine od ?_
 refine q_then (o := .tmp 7) (by kernel_rfl) rfl ?_
 refine qs ?_
 refine qg ?_
 refine og 4 [(0, (ptr r)), (8, (ptr r)), (11, (Value.pointer (some ⟨r, 6, none⟩)))] 4 ?_
 refine Ops.go (v := (i64 0)) (by kernel_rfl) (Runs.load (t := 3) (a := ⟨r, 6, none⟩) (by kernel_rfl) (Hr.loads (by kernel_rfl))) (d := (some 12)) (by kernel_rfl) rfl ?_
 refine og 4 [(0, (ptr r)), (14, (i64 10)), (16, (Value.pointer (some ⟨r, 10, none⟩)))] 9 ?_
 refine Ops.put (t := 3) (b := r) (off := 10) (v := (i64 10)) (ys := [(i64 term), (i64 voted), (i64 role), (i64 leader), (i64 commit), (i64 group), (i64 0), (i64 1), (ptr g), (i64 elapsed), (i64 10), (Value.slice none 0 0), vv, pv, (Value.pointer none), (Value.pointer none), (Value.bool false), (Value.slice none 0 0)]) (by kernel_rfl) (by kernel_rfl) Hr (by kernel_rfl) (d := none) (by kernel_rfl) rfl (fun w1 H2 K3 => ?_)
 clear Hr
 replace K0 := K0.trans K3 (U := (fun i => i = r)) (fun i h1 h2 => h2) (fun i h1 h2 => by have h2 : i = r := h2; show i = r; omega)
 clear K3
 refine od ?_
 refine q_ret (by kernel_rfl) ?_
 refine ⟨(Value.tuple #[]), retv_none rfl, ?_⟩
 exact ⟨rfl, K0, H2⟩

theorem flush_calls (w : World) (r g : Nat) (term voted role leader commit group elapsed timeout : Int) (vv pv : Value) (Hr : Has w r (rowL [(i64 term), (i64 voted), (i64 role), (i64 leader), (i64 commit), (i64 group), (i64 0), (i64 1), (ptr g), (i64 elapsed), (i64 timeout), (Value.slice none 0 0), vv, pv, (Value.pointer none), (Value.pointer none), (Value.bool false), (Value.slice none 0 0)] 84)) : Calls Try.prog 39 ⟨[(ptr r)]⟩ w (fun e w' => e = .returned (.slice none 0 0) ∧ Keeps (fun i => i = r) w w' ∧ Has w' r (rowL [(i64 term), (i64 voted), (i64 role), (i64 leader), (i64 commit), (i64 group), (i64 0), (i64 1), (ptr g), (i64 elapsed), (i64 timeout), (Value.slice none 0 0), vv, pv, (Value.pointer none), (Value.pointer none), (Value.bool false), (Value.slice none 0 0)] 84)) := by
 have Hrl := Hr.lt
 have K0 : Keeps (fun i => i = r) w w := (Keeps.refl w).mono (fun _ _ h => h.elim)
 refine q_calls Try.func39 (by kernel_rfl) (by kernel_rfl) ?_
 refine qs ?_
 refine qg ?_
 refine og 1 [(0, (ptr r)), (2, (Value.slice none 0 0))] 1 ?_
 refine od ?_
 refine qs ?_
 refine qg ?_
 refine og 3 [(0, (ptr r)), (2, (Value.slice none 0 0)), (6, (Value.pointer (some ⟨r, 17, none⟩)))] 3 ?_
 refine Ops.go (v := (Value.slice none 0 0)) (by kernel_rfl) (Runs.load (t := 32) (a := ⟨r, 17, none⟩) (by kernel_rfl) (Hr.loads (by kernel_rfl))) (d := (some 7)) (by kernel_rfl) rfl ?_
 refine og 1 [(0, (ptr r)), (2, (Value.slice none 0 0)), (3, (Value.slice none 0 0))] 5 ?_
 refine od ?_
 refine qs ?_
 refine qg ?_
 refine og 3 [(2, (Value.slice none 0 0)), (3, (Value.slice none 0 0)), (10, (Value.pointer (some ⟨r, 17, none⟩)))] 3 ?_
 refine Ops.put (t := 32) (b := r) (off := 17) (v := (Value.slice none 0 0)) (ys := [(i64 term), (i64 voted), (i64 role), (i64 leader), (i64 commit), (i64 group), (i64 0), (i64 1), (ptr g), (i64 elapsed), (i64 timeout), (Value.slice none 0 0), vv, pv, (Value.pointer none), (Value.pointer none), (Value.bool false), (Value.slice none 0 0)]) (by kernel_rfl) (by kernel_rfl) Hr (by kernel_rfl) (d := none) (by kernel_rfl) rfl (fun w1 H2 K3 => ?_)
 clear Hr
 replace K0 := K0.trans K3 (U := (fun i => i = r)) (fun i h1 h2 => h2) (fun i h1 h2 => by have h2 : i = r := h2; show i = r; omega)
 clear K3
 refine od ?_
 refine qs ?_
 refine qg ?_
 refine og 2 [(2, (Value.slice none 0 0))] 2 ?_
 refine od ?_
 refine q_ret (by kernel_rfl) ?_
 refine ⟨(Value.slice none 0 0), retv_tmp rfl rfl, ?_⟩
 exact ⟨rfl, K0, H2⟩

theorem Info_calls (w : World) (r g : Nat) (term voted role leader commit group elapsed timeout : Int) (vv pv : Value) (Hr : Has w r (rowL [(i64 term), (i64 voted), (i64 role), (i64 leader), (i64 commit), (i64 group), (i64 0), (i64 1), (ptr g), (i64 elapsed), (i64 timeout), (Value.slice none 0 0), vv, pv, (Value.pointer none), (Value.pointer none), (Value.bool false), (Value.slice none 0 0)] 84)) : Calls Try.prog 14 ⟨[(ptr r)]⟩ w (fun e w' => e = .returned (agg [(i64 term), (i64 voted), (i64 role), (i64 leader), (i64 commit)]) ∧ Keeps none_ w w') := by
 have Hrl := Hr.lt
 have K0 : Keeps none_ w w := Keeps.refl w
 refine q_calls Try.func14 (by kernel_rfl) (by kernel_rfl) ?_
 refine qs ?_
 refine qg ?_
 refine Ops.new (o := rowL [(i64 0), (i64 0), (i64 0), (i64 0), (i64 0)] 35) (V := fun b => (ptr b)) (by kernel_rfl) (d := (some 2)) (by kernel_rfl) (fun b => rfl) (fun b1 w2 hb3 H4 K5 hs6 => ?_)
 have lb1r : r < b1 := by have := Hr.lt; omega
 have nb1 : w.heap.size ≤ b1 := by have := K0.size; omega
 replace K0 := K0.t0 K5
 replace Hr := Hr.keep K5 (fun h => h)
 clear K5 hs6
 refine od ?_
 refine qs ?_
 refine qs ?_
 refine qg ?_
 refine og 2 [(0, (ptr r)), (2, (ptr b1)), (4, (Value.bool false))] 2 ?_
 refine od ?_
 refine q_else (o := .tmp 4) (by kernel_rfl) rfl ?_
 refine q_skip (by kernel_rfl) ?_
 refine qs ?_
 refine qg ?_
 refine og 3 [(2, (ptr b1)), (8, (ptr r))] 3 ?_
 refine Ops.go (v := (agg [(i64 term), (i64 voted), (i64 role), (i64 leader), (i64 commit)])) (by kernel_rfl) (Runs.load (t := 35) (a := ⟨r, 0, none⟩) (by kernel_rfl) (Hr.loads (by kernel_rfl))) (d := (some 9)) (by kernel_rfl) rfl ?_
 refine Ops.put (t := 35) (b := b1) (off := 0) (v := (agg [(i64 term), (i64 voted), (i64 role), (i64 leader), (i64 commit)])) (ys := [(i64 term), (i64 voted), (i64 role), (i64 leader), (i64 commit)]) (by kernel_rfl) (by kernel_rfl) H4 (by kernel_rfl) (d := none) (by kernel_rfl) rfl (fun w7 H8 K9 => ?_)
 clear H4
 replace K0 := K0.trans K9 (U := none_) (fun i h1 h2 => h2) (fun i h1 h2 => by have h2 : i = b1 := h2; exfalso; omega)
 replace Hr := Hr.keep K9 (by intro h; change r = b1 at h; omega)
 clear K9
 refine od ?_
 refine q_ret (by kernel_rfl) ?_
 refine ⟨(agg [(i64 term), (i64 voted), (i64 role), (i64 leader), (i64 commit)]), retv_cell rfl rfl (H8.loads (by kernel_rfl)), ?_⟩
 exact ⟨rfl, K0⟩

theorem majority_calls (w : World) (r g : Nat) (term voted role leader commit group elapsed timeout : Int) (vv pv : Value) (Hr : Has w r (rowL [(i64 term), (i64 voted), (i64 role), (i64 leader), (i64 commit), (i64 group), (i64 0), (i64 1), (ptr g), (i64 elapsed), (i64 timeout), (Value.slice none 0 0), vv, pv, (Value.pointer none), (Value.pointer none), (Value.bool false), (Value.slice none 0 0)] 84)) : Calls Try.prog 47 ⟨[(ptr r), (i64 1)]⟩ w (fun e w' => e = .returned (.bool true) ∧ Keeps none_ w w') := by
 have Hrl := Hr.lt
 have K0 : Keeps none_ w w := Keeps.refl w
 refine q_calls Try.func47 (by kernel_rfl) (by kernel_rfl) ?_
 refine qs ?_
 refine qg ?_
 refine og 1 [(0, (ptr r)), (1, (i64 1)), (4, (Value.bool false))] 1 ?_
 refine od ?_
 refine qs ?_
 refine qg ?_
 refine og 4 [(4, (Value.bool false)), (5, (i64 1)), (8, (Value.pointer (some ⟨r, 7, none⟩)))] 4 ?_
 refine Ops.go (v := (i64 1)) (by kernel_rfl) (Runs.load (t := 3) (a := ⟨r, 7, none⟩) (by kernel_rfl) (Hr.loads (by kernel_rfl))) (d := (some 9)) (by kernel_rfl) rfl ?_
 refine og 3 [(4, (Value.bool true))] 8 ?_
 refine od ?_
 refine q_ret (by kernel_rfl) ?_
 refine ⟨(Value.bool true), retv_tmp rfl rfl, ?_⟩
 exact ⟨rfl, K0⟩

theorem Len64_one (w : World)   : Calls Try.prog 81 ⟨[(Value.int IntKind.u64 1)]⟩ w (fun e w' => e = .returned (i64 1) ∧ Keeps none_ w w') := by
 have K0 : Keeps none_ w w := Keeps.refl w
 refine q_calls Try.func81 (by kernel_rfl) (by kernel_rfl) ?_
 refine qs ?_
 refine qg ?_
 refine og 1 [(0, (Value.int IntKind.u64 1)), (2, (i64 0))] 1 ?_
 refine od ?_
 refine qs ?_
 refine qs ?_
 refine qg ?_
 refine og 2 [(0, (Value.int IntKind.u64 1)), (2, (i64 0)), (4, (Value.bool false))] 2 ?_
 refine od ?_
 refine q_else (o := .tmp 4) (by kernel_rfl) rfl ?_
 refine q_skip (by kernel_rfl) ?_
 refine qs ?_
 refine qs ?_
 refine qg ?_
 refine og 2 [(0, (Value.int IntKind.u64 1)), (2, (i64 0)), (8, (Value.bool false))] 2 ?_
 refine od ?_
 refine q_else (o := .tmp 8) (by kernel_rfl) rfl ?_
 refine q_skip (by kernel_rfl) ?_
 refine qs ?_
 refine qs ?_
 refine qg ?_
 refine og 2 [(0, (Value.int IntKind.u64 1)), (2, (i64 0)), (14, (Value.bool false))] 2 ?_
 refine od ?_
 refine q_else (o := .tmp 14) (by kernel_rfl) rfl ?_
 refine q_skip (by kernel_rfl) ?_
 refine qs ?_
 refine qg ?_
 refine og 3 [(2, (i64 0)), (19, (i64 0)), (21, (Value.int IntKind.u8 1))] 3 ?_
 refine Ops.go (v := (Value.int IntKind.u8 1)) (by kernel_rfl) (Runs.of_index (by kernel_rfl) (run_index_str Try.underlying9 (s := [0, 1, 2, 2, 3, 3, 3, 3, 4, 4, 4, 4, 4, 4, 4, 4, 5, 5, 5, 5, 5, 5, 5, 5, 5, 5, 5, 5, 5, 5, 5, 5, 6, 6, 6, 6, 6, 6, 6, 6, 6, 6, 6, 6, 6, 6, 6, 6, 6, 6, 6, 6, 6, 6, 6, 6, 6, 6, 6, 6, 6, 6, 6, 6, 7, 7, 7, 7, 7, 7, 7, 7, 7, 7, 7, 7, 7, 7, 7, 7, 7, 7, 7, 7, 7, 7, 7, 7, 7, 7, 7, 7, 7, 7, 7, 7, 7, 7, 7, 7, 7, 7, 7, 7, 7, 7, 7, 7, 7, 7, 7, 7, 7, 7, 7, 7, 7, 7, 7, 7, 7, 7, 7, 7, 7, 7, 7, 7, 8, 8, 8, 8, 8, 8, 8, 8, 8, 8, 8, 8, 8, 8, 8, 8, 8, 8, 8, 8, 8, 8, 8, 8, 8, 8, 8, 8, 8, 8, 8, 8, 8, 8, 8, 8, 8, 8, 8, 8, 8, 8, 8, 8, 8, 8, 8, 8, 8, 8, 8, 8, 8, 8, 8, 8, 8, 8, 8, 8, 8, 8, 8, 8, 8, 8, 8, 8, 8, 8, 8, 8, 8, 8, 8, 8, 8, 8, 8, 8, 8, 8, 8, 8, 8, 8, 8, 8, 8, 8, 8, 8, 8, 8, 8, 8, 8, 8, 8, 8, 8, 8, 8, 8, 8, 8, 8, 8, 8, 8, 8, 8, 8, 8, 8, 8, 8, 8, 8, 8, 8, 8, 8, 8, 8, 8, 8, 8]) (i := 1) (c := 1) rfl .u8)) (d := (some 22)) (by kernel_rfl) rfl ?_
 refine og 3 [(2, (i64 1))] 7 ?_
 refine od ?_
 refine q_ret (by kernel_rfl) ?_
 refine ⟨(i64 1), retv_tmp rfl rfl, ?_⟩
 exact ⟨rfl, K0⟩

theorem Len_one (w : World)   : Calls Try.prog 68 ⟨[(Value.int IntKind.u64 1)]⟩ w (fun e w' => e = .returned (i64 1) ∧ Keeps none_ w w') := by
 have K0 : Keeps none_ w w := Keeps.refl w
 refine q_calls Try.func68 (by kernel_rfl) (by kernel_rfl) ?_
 refine qs ?_
 refine qg ?_
 refine og 1 [(0, (Value.int IntKind.u64 1)), (2, (i64 0))] 1 ?_
 refine od ?_
 refine qs ?_
 refine q_else (o := .const (.bool false)) (by kernel_rfl) rfl ?_
 refine q_skip (by kernel_rfl) ?_
 refine qs ?_
 refine qg ?_
 refine og 1 [(2, (i64 0)), (6, (Value.int IntKind.u64 1))] 1 ?_
 refine Ops.call (by kernel_rfl) (d := (some 7)) (by kernel_rfl) (Len64_one _) ?_
 rintro _ w2 ⟨rfl, K1⟩
 refine ⟨_, _, rfl, rfl, ?_⟩
 replace K0 := K0.t0 K1
 clear K1
 refine og 1 [(2, (i64 1))] 3 ?_
 refine od ?_
 refine q_ret (by kernel_rfl) ?_
 refine ⟨(i64 1), retv_tmp rfl rfl, ?_⟩
 exact ⟨rfl, K0⟩

theorem insertion_one (w : World) (A : Option Addr) (c : Nat)  : Calls Try.prog 71 ⟨[(Value.slice A 1 c), (i64 0), (i64 1)]⟩ w (fun e w' => e = .returned (.tuple #[]) ∧ Keeps none_ w w') := by
 have K0 : Keeps none_ w w := Keeps.refl w
 refine q_calls Try.func71 (by kernel_rfl) (by kernel_rfl) ?_
 refine qs ?_
 refine qg ?_
 refine og 3 [(0, (Value.slice A 1 c)), (1, (i64 0)), (2, (i64 1)), (6, (i64 1))] 3 ?_
 refine od ?_
 refine q_block (id := 0) (by kernel_rfl) ?_
 refine q_keep (R := [(0, (Value.slice A 1 c)), (1, (i64 0)), (2, (i64 1)), (6, (i64 1))]) (by kernel_rfl) ?_
 refine q_loop (fun (z : Nat) L (wx : World) => L = [(0, (Value.slice A 1 c)), (1, (i64 0)), (2, (i64 1)), (6, (i64 1))] ∧ Keeps none_ w wx) (fun (z : Nat) => 0 - z) 0 (by kernel_rfl) ⟨rfl, K0⟩ ?_
 clear K0
 rintro z _ w1 ⟨rfl, K2⟩
 refine qs ?_
 refine qs ?_
 refine qg ?_
 refine og 3 [(0, (Value.slice A 1 c)), (1, (i64 0)), (2, (i64 1)), (6, (i64 1)), (12, (Value.bool false))] 3 ?_
 refine od ?_
 refine q_else (o := .tmp 12) (by kernel_rfl) rfl ?_
 refine q_exit (id := 0) (by kernel_rfl) ?_
 refine ⟨(Value.tuple #[]), retv_none rfl, ?_⟩
 exact ⟨rfl, K2⟩

theorem pdq_one (w : World) (A : Option Addr) (c : Nat)  : Calls Try.prog 67 ⟨[(Value.slice A 1 c), (i64 0), (i64 1), (i64 1)]⟩ w (fun e w' => e = .returned (.tuple #[]) ∧ Keeps none_ w w') := by
 have K0 : Keeps none_ w w := Keeps.refl w
 refine q_calls Try.func67 (by kernel_rfl) (by kernel_rfl) ?_
 refine qs ?_
 refine qg ?_
 refine og 1 [(0, (Value.slice A 1 c)), (1, (i64 0)), (2, (i64 1)), (3, (i64 1)), (8, (Value.bool true))] 1 ?_
 refine od ?_
 refine qs ?_
 refine qg ?_
 refine og 1 [(0, (Value.slice A 1 c)), (1, (i64 0)), (2, (i64 1)), (3, (i64 1)), (8, (Value.bool true)), (9, (Value.bool true))] 1 ?_
 refine od ?_
 refine q_block (id := 0) (by kernel_rfl) ?_
 refine q_keep (R := [(0, (Value.slice A 1 c)), (1, (i64 0)), (2, (i64 1)), (3, (i64 1)), (8, (Value.bool true)), (9, (Value.bool true))]) (by kernel_rfl) ?_
 refine q_loop (fun (z : Nat) L (wx : World) => L = [(0, (Value.slice A 1 c)), (1, (i64 0)), (2, (i64 1)), (3, (i64 1)), (8, (Value.bool true)), (9, (Value.bool true))] ∧ Keeps none_ w wx) (fun (z : Nat) => 0 - z) 0 (by kernel_rfl) ⟨rfl, K0⟩ ?_
 clear K0
 rintro z _ w1 ⟨rfl, K2⟩
 refine q_block (id := 1) (by kernel_rfl) ?_
 refine qs ?_
 refine qg ?_
 refine og 4 [(0, (Value.slice A 1 c)), (1, (i64 0)), (2, (i64 1)), (3, (i64 1)), (8, (Value.bool true)), (9, (Value.bool true)), (10, (i64 1))] 4 ?_
 refine od ?_
 refine qs ?_
 refine qs ?_
 refine qg ?_
 refine og 2 [(0, (Value.slice A 1 c)), (1, (i64 0)), (2, (i64 1)), (3, (i64 1)), (8, (Value.bool true)), (9, (Value.bool true)), (10, (i64 1)), (23, (Value.bool true))] 2 ?_
 refine od ?_
 refine q_then (o := .tmp 23) (by kernel_rfl) rfl ?_
 refine qs ?_
 refine qg ?_
 refine og 3 [(0, (Value.slice A 1 c)), (1, (i64 0)), (2, (i64 1)), (3, (i64 1)), (8, (Value.bool true)), (9, (Value.bool true)), (10, (i64 1)), (23, (Value.bool true)), (24, (Value.slice A 1 c)), (25, (i64 0)), (26, (i64 1))] 3 ?_
 refine Ops.call (by kernel_rfl) (d := (some 27)) (by kernel_rfl) (insertion_one _ A c) ?_
 rintro _ w4 ⟨rfl, K3⟩
 refine ⟨_, _, rfl, rfl, ?_⟩
 replace K2 := K2.trans K3 (U := none_) (fun i h1 h2 => h2) (fun i h1 h2 => by exact h2)
 clear K3
 refine od ?_
 refine q_ret (by kernel_rfl) ?_
 refine ⟨(Value.tuple #[]), retv_none rfl, ?_⟩
 exact ⟨rfl, K2⟩

theorem Sort_one (w : World) (A : Option Addr) (c : Nat)  : Calls Try.prog 59 ⟨[(Value.slice A 1 c)]⟩ w (fun e w' => e = .returned (.tuple #[]) ∧ Keeps none_ w w') := by
 have K0 : Keeps none_ w w := Keeps.refl w
 refine q_calls Try.func59 (by kernel_rfl) (by kernel_rfl) ?_
 refine qs ?_
 refine qg ?_
 refine og 3 [(0, (Value.slice A 1 c)), (2, (i64 1))] 3 ?_
 refine od ?_
 refine qg ?_
 refine og 4 [(5, (Value.slice A 1 c)), (6, (i64 1)), (8, (Value.int IntKind.u64 1))] 4 ?_
 refine Ops.call (by kernel_rfl) (d := (some 9)) (by kernel_rfl) (Len_one _) ?_
 rintro _ w2 ⟨rfl, K1⟩
 refine ⟨_, _, rfl, rfl, ?_⟩
 replace K0 := K0.t0 K1
 clear K1
 refine Ops.call (by kernel_rfl) (d := (some 10)) (by kernel_rfl) (pdq_one _ A c) ?_
 rintro _ w4 ⟨rfl, K3⟩
 refine ⟨_, _, rfl, rfl, ?_⟩
 replace K0 := K0.t0 K3
 clear K3
 refine od ?_
 refine ⟨(Value.tuple #[]), retv_none rfl, ?_⟩
 exact ⟨rfl, K0⟩

theorem Mul64_one (w : World)   : Calls Try.prog 83 ⟨[(Value.int IntKind.u64 1), (Value.int IntKind.u64 1)]⟩ w (fun e w' => e = .returned (.tuple #[(Value.int IntKind.u64 0), (Value.int IntKind.u64 1)]) ∧ Keeps none_ w w') := by
 have K0 : Keeps none_ w w := Keeps.refl w
 refine q_calls Try.func83 (by kernel_rfl) (by kernel_rfl) ?_
 refine qs ?_
 refine qg ?_
 refine og 2 [(0, (Value.int IntKind.u64 1)), (1, (Value.int IntKind.u64 1)), (4, (Value.int IntKind.u64 0)), (5, (Value.int IntKind.u64 0))] 2 ?_
 refine od ?_
 refine qs ?_
 refine qg ?_
 refine og 3 [(0, (Value.int IntKind.u64 1)), (1, (Value.int IntKind.u64 1)), (4, (Value.int IntKind.u64 0)), (5, (Value.int IntKind.u64 0)), (6, (Value.int IntKind.u64 1))] 3 ?_
 refine od ?_
 refine qs ?_
 refine qg ?_
 refine og 3 [(0, (Value.int IntKind.u64 1)), (1, (Value.int IntKind.u64 1)), (4, (Value.int IntKind.u64 0)), (5, (Value.int IntKind.u64 0)), (6, (Value.int IntKind.u64 1)), (7, (Value.int IntKind.u64 0))] 3 ?_
 refine od ?_
 refine qs ?_
 refine qg ?_
 refine og 3 [(0, (Value.int IntKind.u64 1)), (1, (Value.int IntKind.u64 1)), (4, (Value.int IntKind.u64 0)), (5, (Value.int IntKind.u64 0)), (6, (Value.int IntKind.u64 1)), (7, (Value.int IntKind.u64 0)), (8, (Value.int IntKind.u64 1))] 3 ?_
 refine od ?_
 refine qs ?_
 refine qg ?_
 refine og 3 [(0, (Value.int IntKind.u64 1)), (1, (Value.int IntKind.u64 1)), (4, (Value.int IntKind.u64 0)), (5, (Value.int IntKind.u64 0)), (6, (Value.int IntKind.u64 1)), (7, (Value.int IntKind.u64 0)), (8, (Value.int IntKind.u64 1)), (9, (Value.int IntKind.u64 0))] 3 ?_
 refine od ?_
 refine qs ?_
 refine qg ?_
 refine og 4 [(0, (Value.int IntKind.u64 1)), (1, (Value.int IntKind.u64 1)), (4, (Value.int IntKind.u64 0)), (5, (Value.int IntKind.u64 0)), (6, (Value.int IntKind.u64 1)), (7, (Value.int IntKind.u64 0)), (8, (Value.int IntKind.u64 1)), (9, (Value.int IntKind.u64 0)), (10, (Value.int IntKind.u64 1))] 4 ?_
 refine od ?_
 refine qs ?_
 refine qg ?_
 refine og 7 [(0, (Value.int IntKind.u64 1)), (1, (Value.int IntKind.u64 1)), (4, (Value.int IntKind.u64 0)), (5, (Value.int IntKind.u64 0)), (6, (Value.int IntKind.u64 1)), (7, (Value.int IntKind.u64 0)), (9, (Value.int IntKind.u64 0)), (11, (Value.int IntKind.u64 0))] 7 ?_
 refine od ?_
 refine qs ?_
 refine qg ?_
 refine og 3 [(0, (Value.int IntKind.u64 1)), (1, (Value.int IntKind.u64 1)), (4, (Value.int IntKind.u64 0)), (5, (Value.int IntKind.u64 0)), (6, (Value.int IntKind.u64 1)), (7, (Value.int IntKind.u64 0)), (9, (Value.int IntKind.u64 0)), (11, (Value.int IntKind.u64 0)), (12, (Value.int IntKind.u64 0))] 3 ?_
 refine od ?_
 refine qs ?_
 refine qg ?_
 refine og 3 [(0, (Value.int IntKind.u64 1)), (1, (Value.int IntKind.u64 1)), (4, (Value.int IntKind.u64 0)), (5, (Value.int IntKind.u64 0)), (6, (Value.int IntKind.u64 1)), (7, (Value.int IntKind.u64 0)), (9, (Value.int IntKind.u64 0)), (12, (Value.int IntKind.u64 0)), (13, (Value.int IntKind.u64 0))] 3 ?_
 refine od ?_
 refine qs ?_
 refine qg ?_
 refine og 6 [(0, (Value.int IntKind.u64 1)), (1, (Value.int IntKind.u64 1)), (4, (Value.int IntKind.u64 0)), (5, (Value.int IntKind.u64 0)), (7, (Value.int IntKind.u64 0)), (9, (Value.int IntKind.u64 0)), (12, (Value.int IntKind.u64 0)), (13, (Value.int IntKind.u64 0))] 6 ?_
 refine od ?_
 refine qs ?_
 refine qg ?_
 refine og 9 [(0, (Value.int IntKind.u64 1)), (1, (Value.int IntKind.u64 1)), (4, (Value.int IntKind.u64 0)), (5, (Value.int IntKind.u64 0))] 9 ?_
 refine od ?_
 refine qs ?_
 refine qg ?_
 refine og 4 [(4, (Value.int IntKind.u64 0)), (5, (Value.int IntKind.u64 1))] 4 ?_
 refine od ?_
 refine q_ret (by kernel_rfl) ?_
 refine ⟨(Value.tuple #[(Value.int IntKind.u64 0), (Value.int IntKind.u64 1)]), retv_tmp2 rfl rfl rfl, ?_⟩
 exact ⟨rfl, K0⟩

theorem Mul_one (w : World)   : Calls Try.prog 69 ⟨[(Value.int IntKind.u64 1), (Value.int IntKind.u64 1)]⟩ w (fun e w' => e = .returned (.tuple #[(Value.int IntKind.u64 0), (Value.int IntKind.u64 1)]) ∧ Keeps none_ w w') := by
 have K0 : Keeps none_ w w := Keeps.refl w
 refine q_calls Try.func69 (by kernel_rfl) (by kernel_rfl) ?_
 refine qs ?_
 refine qg ?_
 refine og 2 [(0, (Value.int IntKind.u64 1)), (1, (Value.int IntKind.u64 1)), (4, (Value.int IntKind.u64 0)), (5, (Value.int IntKind.u64 0))] 2 ?_
 refine od ?_
 refine qs ?_
 refine q_else (o := .const (.bool false)) (by kernel_rfl) rfl ?_
 refine q_skip (by kernel_rfl) ?_
 refine qs ?_
 refine qg ?_
 refine og 2 [(4, (Value.int IntKind.u64 0)), (5, (Value.int IntKind.u64 0)), (23, (Value.int IntKind.u64 1)), (24, (Value.int IntKind.u64 1))] 2 ?_
 refine Ops.call (by kernel_rfl) (d := (some 25)) (by kernel_rfl) (Mul64_one _) ?_
 rintro _ w2 ⟨rfl, K1⟩
 refine ⟨_, _, rfl, rfl, ?_⟩
 replace K0 := K0.t0 K1
 clear K1
 refine og 5 [(4, (Value.int IntKind.u64 0)), (5, (Value.int IntKind.u64 0)), (8, (Value.int IntKind.u64 0)), (9, (Value.int IntKind.u64 1))] 8 ?_
 refine od ?_
 refine qs ?_
 refine qg ?_
 refine og 4 [(4, (Value.int IntKind.u64 0)), (5, (Value.int IntKind.u64 1))] 4 ?_
 refine od ?_
 refine q_ret (by kernel_rfl) ?_
 refine ⟨(Value.tuple #[(Value.int IntKind.u64 0), (Value.int IntKind.u64 1)]), retv_tmp2 rfl rfl rfl, ?_⟩
 exact ⟨rfl, K0⟩
end Go.Proofs.Ytnmpepjikfbpdaa
