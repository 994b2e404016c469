/- chart: ChartDoes returns true -/
import Derived.Test.YtoljbckhoigibaaProg
import Derived.Test.YtoljbckhoigibaaM
set_option linter.unusedVariables false
namespace Go.Proofs.Ytoljbckhoigibaa
open Go.Q Go.RowKit

theorem Does_none (w : World) (s : Int) (A : Option Addr) (n cap : Nat) (l : List Cmd) (h : ¬ (1 ≤ s ∧ s ≤ 3)) : Calls Try.prog 6 ⟨[(i64 s), (Value.slice A n cap)]⟩ w (fun e w' => e = .returned (.bool true) ∧ Keeps none_ w w') := by
  have K0 : Keeps none_ w w := Keeps.refl w
  refine q_calls Try.func6 (by kernel_rfl) (by kernel_rfl) ?_
  refine q_seq (by kernel_rfl) ?_
  refine q_region (by kernel_rfl) ?_
  refine Ops.regs 1 [(0, (i64 s)), (1, (Value.slice A n cap)), (4, (Value.bool false))] (j := 1) (by kernel_rfl) (by kernel_rfl) ?_
  refine Ops.done (by kernel_rfl) ?_
  refine q_seq (by kernel_rfl) ?_
  refine q_region (by kernel_rfl) ?_
  refine Ops.regs 1 [(0, (i64 s)), (1, (Value.slice A n cap)), (4, (Value.bool false)), (11, (i64 s))] (j := 1) (by kernel_rfl) (by kernel_rfl) ?_
  refine Ops.call (by kernel_rfl) (d := (some 12)) (by kernel_rfl) (New_bad _ s (by omega)) ?_
  rintro _ w1 ⟨rfl, K2⟩
  refine ⟨_, _, rfl, rfl, ?_⟩
  have K3 := K0.trans K2 (U := none_) (fun i h1 h2 => h2) (fun i h1 h2 => by exact h2)
  clear K0
  clear K2
  refine Ops.regs 5 [(0, (i64 s)), (1, (Value.slice A n cap)), (4, (Value.bool false)), (5, (Value.pointer none)), (6, (i64 1))] (j := 7) (by kernel_rfl) (by kernel_rfl) ?_
  refine Ops.done (by kernel_rfl) ?_
  refine q_seq (by kernel_rfl) ?_
  refine q_region (by kernel_rfl) ?_
  refine Ops.regs 1 [(1, (Value.slice A n cap)), (4, (Value.bool false)), (5, (Value.pointer none)), (6, (i64 1)), (16, (i64 s))] (j := 1) (by kernel_rfl) (by kernel_rfl) ?_
  refine Ops.call (by kernel_rfl) (d := (some 17)) (by kernel_rfl) (RNew_bad _ s (by omega)) ?_
  rintro _ w4 ⟨rfl, K5⟩
  refine ⟨_, _, rfl, rfl, ?_⟩
  have K6 := K3.trans K5 (U := none_) (fun i h1 h2 => h2) (fun i h1 h2 => by exact h2)
  clear K3
  clear K5
  refine Ops.regs 5 [(1, (Value.slice A n cap)), (4, (Value.bool false)), (5, (Value.pointer none)), (6, (i64 1)), (7, (Value.pointer none)), (8, (i64 1))] (j := 7) (by kernel_rfl) (by kernel_rfl) ?_
  refine Ops.done (by kernel_rfl) ?_
  refine q_seq (by kernel_rfl) ?_
  refine q_seq (by kernel_rfl) ?_
  refine q_region (by kernel_rfl) ?_
  refine Ops.regs 10 [(1, (Value.slice A n cap)), (4, (Value.bool false)), (5, (Value.pointer none)), (7, (Value.pointer none)), (8, (i64 1)), (29, (Value.bool false))] (j := 10) (by kernel_rfl) (by kernel_rfl) ?_
  refine Ops.done (by kernel_rfl) ?_
  refine q_else (o := .tmp 29) (by kernel_rfl) rfl ?_
  refine q_skip (by kernel_rfl) ?_
  refine q_seq (by kernel_rfl) ?_
  refine q_seq (by kernel_rfl) ?_
  refine q_region (by kernel_rfl) ?_
  refine Ops.regs 2 [(1, (Value.slice A n cap)), (4, (Value.bool false)), (5, (Value.pointer none)), (7, (Value.pointer none)), (31, (Value.bool true))] (j := 2) (by kernel_rfl) (by kernel_rfl) ?_
  refine Ops.done (by kernel_rfl) ?_
  refine q_then (o := .tmp 31) (by kernel_rfl) rfl ?_
  refine q_seq (by kernel_rfl) ?_
  refine q_region (by kernel_rfl) ?_
  refine Ops.call (by kernel_rfl) (d := (some 32)) (by kernel_rfl) (known_calls _) ?_
  rintro _ w7 ⟨rfl, K8⟩
  refine ⟨_, _, rfl, rfl, ?_⟩
  have K9 := K6.trans K8 (U := none_) (fun i h1 h2 => h2) (fun i h1 h2 => by exact h2)
  clear K6
  clear K8
  refine Ops.regs 1 [(1, (Value.slice A n cap)), (4, (Value.bool true)), (5, (Value.pointer none)), (7, (Value.pointer none))] (j := 2) (by kernel_rfl) (by kernel_rfl) ?_
  refine Ops.done (by kernel_rfl) ?_
  refine q_ret (by kernel_rfl) ?_
  refine ⟨(Value.bool true), retv_tmp rfl rfl, ?_⟩
  exact ⟨rfl, K9⟩

theorem Does_some (w : World) (s : Int) (A : Option Addr) (n cap : Nat) (l : List Cmd) (h : 1 ≤ s ∧ s ≤ 3) (hL : Elems w A n 5 (l.map Cmd.v)) (hn : l.length = n) (hm : n ≤ 9223372036854775807) : Calls Try.prog 6 ⟨[(i64 s), (Value.slice A n cap)]⟩ w (fun e w' => e = .returned (.bool true) ∧ Keeps none_ w w') := by
  have K0 : Keeps none_ w w := Keeps.refl w
  refine q_calls Try.func6 (by kernel_rfl) (by kernel_rfl) ?_
  refine q_seq (by kernel_rfl) ?_
  refine q_region (by kernel_rfl) ?_
  refine Ops.regs 1 [(0, (i64 s)), (1, (Value.slice A n cap)), (4, (Value.bool false))] (j := 1) (by kernel_rfl) (by kernel_rfl) ?_
  refine Ops.done (by kernel_rfl) ?_
  refine q_seq (by kernel_rfl) ?_
  refine q_region (by kernel_rfl) ?_
  refine Ops.regs 1 [(0, (i64 s)), (1, (Value.slice A n cap)), (4, (Value.bool false)), (11, (i64 s))] (j := 1) (by kernel_rfl) (by kernel_rfl) ?_
  refine Ops.call (by kernel_rfl) (d := (some 12)) (by kernel_rfl) (New_ok _ s (by omega) (by omega)) ?_
  rintro _ w2 ⟨b1, rfl, q5, K3, H4⟩
  have nb1 : w.heap.size ≤ b1 := by have := K0.size; omega
  clear q5
  have inv6 := newCh_inv s (by omega) (by omega)
  refine ⟨_, _, rfl, rfl, ?_⟩
  have K7 := K0.trans K3 (U := none_) (fun i h1 h2 => h2) (fun i h1 h2 => by exact h2)
  clear K0
  clear K3
  refine Ops.regs 5 [(0, (i64 s)), (1, (Value.slice A n cap)), (4, (Value.bool false)), (5, (Value.pointer (some ⟨b1, 0, none⟩))), (6, (i64 0))] (j := 7) (by kernel_rfl) (by kernel_rfl) ?_
  refine Ops.done (by kernel_rfl) ?_
  refine q_seq (by kernel_rfl) ?_
  refine q_region (by kernel_rfl) ?_
  refine Ops.regs 1 [(1, (Value.slice A n cap)), (4, (Value.bool false)), (5, (Value.pointer (some ⟨b1, 0, none⟩))), (6, (i64 0)), (16, (i64 s))] (j := 1) (by kernel_rfl) (by kernel_rfl) ?_
  refine Ops.call (by kernel_rfl) (d := (some 17)) (by kernel_rfl) (RNew_ok _ s (by omega) (by omega)) ?_
  rintro _ w16 ⟨rb9, go10, co11, ro12, ge13, ce14, re15, rfl, K17, q18, q19, q20, d21, d22, d23, H24, H25, H26⟩
  have lrb9b1 : b1 < rb9 := by have := H4.lt; omega
  have nrb9 : w.heap.size ≤ rb9 := by have := K7.size; omega
  have lgo10b1 : b1 < go10 := by have := H4.lt; omega
  have ngo10 : w.heap.size ≤ go10 := by have := K7.size; omega
  have lge13b1 : b1 < ge13 := by have := H4.lt; omega
  have nge13 : w.heap.size ≤ ge13 := by have := K7.size; omega
  have inv8 := newCh_inv s (by omega) (by omega)
  clear q18 q19 q20
  refine ⟨_, _, rfl, rfl, ?_⟩
  have H27 := H4.keep K17 (fun h => h)
  clear H4
  have K28 := K7.trans K17 (U := none_) (fun i h1 h2 => h2) (fun i h1 h2 => by exact h2)
  clear K7
  clear K17
  refine Ops.regs 5 [(1, (Value.slice A n cap)), (4, (Value.bool false)), (5, (Value.pointer (some ⟨b1, 0, none⟩))), (6, (i64 0)), (7, (Value.pointer (some ⟨rb9, 0, none⟩))), (8, (i64 0))] (j := 7) (by kernel_rfl) (by kernel_rfl) ?_
  refine Ops.done (by kernel_rfl) ?_
  refine q_seq (by kernel_rfl) ?_
  refine q_seq (by kernel_rfl) ?_
  refine q_region (by kernel_rfl) ?_
  refine Ops.regs 10 [(1, (Value.slice A n cap)), (4, (Value.bool false)), (5, (Value.pointer (some ⟨b1, 0, none⟩))), (7, (Value.pointer (some ⟨rb9, 0, none⟩))), (8, (i64 0)), (29, (Value.bool false))] (j := 10) (by kernel_rfl) (by kernel_rfl) ?_
  refine Ops.done (by kernel_rfl) ?_
  refine q_else (o := .tmp 29) (by kernel_rfl) rfl ?_
  refine q_skip (by kernel_rfl) ?_
  refine q_seq (by kernel_rfl) ?_
  refine q_seq (by kernel_rfl) ?_
  refine q_region (by kernel_rfl) ?_
  refine Ops.regs 2 [(1, (Value.slice A n cap)), (4, (Value.bool false)), (5, (Value.pointer (some ⟨b1, 0, none⟩))), (7, (Value.pointer (some ⟨rb9, 0, none⟩))), (31, (Value.bool false))] (j := 2) (by kernel_rfl) (by kernel_rfl) ?_
  refine Ops.done (by kernel_rfl) ?_
  refine q_else (o := .tmp 31) (by kernel_rfl) rfl ?_
  refine q_skip (by kernel_rfl) ?_
  refine q_seq (by kernel_rfl) ?_
  refine q_seq (by kernel_rfl) ?_
  refine q_region (by kernel_rfl) ?_
  refine Ops.regs 3 [(4, (Value.bool false)), (5, (Value.pointer (some ⟨b1, 0, none⟩))), (7, (Value.pointer (some ⟨rb9, 0, none⟩))), (33, (Value.pointer (some ⟨b1, 0, none⟩))), (34, (Value.pointer (some ⟨rb9, 0, none⟩))), (35, (Value.slice A n cap))] (j := 3) (by kernel_rfl) (by kernel_rfl) ?_
  refine Ops.call (by kernel_rfl) (d := (some 36)) (by kernel_rfl) (play_calls _ w A n cap l b1 rb9 go10 co11 ge13 ce14 ro12 re15 (newCh s 16) inv6 H27 H24 H25 H26 ⟨by omega, by omega, by omega, by omega, by omega, by omega⟩ (fun w' hk => K28.trans hk (fun _ _ h => h) (fun i h1 h2 => by have h2 : i = b1 ∨ i = rb9 ∨ i = go10 ∨ i = ge13 := h2; omega)) hL hn hm) ?_
  rintro _ w30 ⟨c29, rfl, inv31, K32, H33, H34, H35, H36⟩
  refine ⟨_, _, rfl, rfl, ?_⟩
  have K37 := K28.trans K32 (U := none_) (fun i h1 h2 => h2) (fun i h1 h2 => by have h2 : i = b1 ∨ i = rb9 ∨ i = go10 ∨ i = ge13 := h2; exfalso; omega)
  clear K28
  clear K32
  refine Ops.regs 1 [(4, (Value.bool false)), (5, (Value.pointer (some ⟨b1, 0, none⟩))), (7, (Value.pointer (some ⟨rb9, 0, none⟩))), (37, (Value.bool false))] (j := 5) (by kernel_rfl) (by kernel_rfl) ?_
  refine Ops.done (by kernel_rfl) ?_
  refine q_else (o := .tmp 37) (by kernel_rfl) rfl ?_
  refine q_skip (by kernel_rfl) ?_
  refine q_seq (by kernel_rfl) ?_
  refine q_region (by kernel_rfl) ?_
  refine Ops.regs 1 [(4, (Value.bool false)), (5, (Value.pointer (some ⟨b1, 0, none⟩))), (7, (Value.pointer (some ⟨rb9, 0, none⟩))), (38, (Value.pointer (some ⟨b1, 0, none⟩)))] (j := 1) (by kernel_rfl) (by kernel_rfl) ?_
  refine Ops.call (by kernel_rfl) (d := (some 39)) (by kernel_rfl) (Copy_calls _ b1 c29 inv31 H33) ?_
  rintro _ w39 ⟨b38, rfl, q42, K40, H41⟩
  have nb38 : w.heap.size ≤ b38 := by have := K37.size; omega
  have db38b1 : b1 < b38 := by have := H33.lt; omega
  have db38rb9 : rb9 < b38 := by have := H34.lt; omega
  have db38go10 : go10 < b38 := by have := H35.lt; omega
  have db38ge13 : ge13 < b38 := by have := H36.lt; omega
  clear q42
  refine ⟨_, _, rfl, rfl, ?_⟩
  have H43 := H33.keep K40 (fun h => h)
  clear H33
  have H44 := H34.keep K40 (fun h => h)
  clear H34
  have H45 := H35.keep K40 (fun h => h)
  clear H35
  have H46 := H36.keep K40 (fun h => h)
  clear H36
  have K47 := K37.trans K40 (U := none_) (fun i h1 h2 => h2) (fun i h1 h2 => by exact h2)
  clear K37
  clear K40
  refine Ops.regs 1 [(4, (Value.bool false)), (5, (Value.pointer (some ⟨b1, 0, none⟩))), (7, (Value.pointer (some ⟨rb9, 0, none⟩))), (9, (Value.pointer (some ⟨b38, 0, none⟩)))] (j := 3) (by kernel_rfl) (by kernel_rfl) ?_
  refine Ops.done (by kernel_rfl) ?_
  refine q_seq (by kernel_rfl) ?_
  refine q_seq (by kernel_rfl) ?_
  refine q_region (by kernel_rfl) ?_
  refine Ops.regs 5 [(4, (Value.bool false)), (5, (Value.pointer (some ⟨b1, 0, none⟩))), (7, (Value.pointer (some ⟨rb9, 0, none⟩))), (9, (Value.pointer (some ⟨b38, 0, none⟩))), (42, (Value.bool false)), (43, (Value.pointer (some ⟨b38, 0, none⟩))), (44, (Value.pointer (some ⟨rb9, 0, none⟩)))] (j := 5) (by kernel_rfl) (by kernel_rfl) ?_
  refine Ops.call (by kernel_rfl) (d := (some 45)) (by kernel_rfl) (alike_calls _ b38 rb9 go10 co11 ge13 ce14 ro12 re15 c29 inv31 H41 H44 H45 H46 ⟨d21, d22, d23⟩) ?_
  rintro _ w48 ⟨rfl, K49⟩
  refine ⟨_, _, rfl, rfl, ?_⟩
  have H50 := H43.keep K49 (fun h => h)
  clear H43
  have H51 := H44.keep K49 (fun h => h)
  clear H44
  have H52 := H45.keep K49 (fun h => h)
  clear H45
  have H53 := H46.keep K49 (fun h => h)
  clear H46
  have H54 := H41.keep K49 (fun h => h)
  clear H41
  have K55 := K47.trans K49 (U := none_) (fun i h1 h2 => h2) (fun i h1 h2 => by exact h2)
  clear K47
  clear K49
  refine Ops.regs 2 [(4, (Value.bool false)), (5, (Value.pointer (some ⟨b1, 0, none⟩))), (7, (Value.pointer (some ⟨rb9, 0, none⟩))), (9, (Value.pointer (some ⟨b38, 0, none⟩))), (47, (Value.bool false))] (j := 8) (by kernel_rfl) (by kernel_rfl) ?_
  refine Ops.done (by kernel_rfl) ?_
  refine q_else (o := .tmp 47) (by kernel_rfl) rfl ?_
  refine q_skip (by kernel_rfl) ?_
  refine q_seq (by kernel_rfl) ?_
  refine q_region (by kernel_rfl) ?_
  refine Ops.regs 2 [(4, (Value.bool false)), (5, (Value.pointer (some ⟨b1, 0, none⟩))), (7, (Value.pointer (some ⟨rb9, 0, none⟩))), (9, (Value.pointer (some ⟨b38, 0, none⟩))), (48, (Value.pointer (some ⟨b38, 0, none⟩))), (49, (agg [(i64 3), (i64 0), (i64 0), (i64 0), (i64 0)]))] (j := 2) (by kernel_rfl) (by kernel_rfl) ?_
  refine Ops.call (by kernel_rfl) (d := (some 50)) (by kernel_rfl) (Do_calls _ b38 c29 ⟨3, 0, 0, 0, 0⟩ inv31 H54) ?_
  rintro _ w56 ⟨rfl, K57, H58⟩
  refine ⟨_, _, rfl, rfl, ?_⟩
  have H59 := H50.keep K57 (by intro h; change b1 = b38 at h; omega)
  clear H50
  have H60 := H51.keep K57 (by intro h; change rb9 = b38 at h; omega)
  clear H51
  have H61 := H52.keep K57 (by intro h; change go10 = b38 at h; omega)
  clear H52
  have H62 := H53.keep K57 (by intro h; change ge13 = b38 at h; omega)
  clear H53
  have K63 := K55.trans K57 (U := none_) (fun i h1 h2 => h2) (fun i h1 h2 => by have h2 : i = b38 := h2; exfalso; omega)
  clear K55
  clear K57
  refine Ops.done (by kernel_rfl) ?_
  refine q_seq (by kernel_rfl) ?_
  refine q_region (by kernel_rfl) ?_
  refine Ops.regs 4 [(4, (Value.bool false)), (5, (Value.pointer (some ⟨b1, 0, none⟩))), (7, (Value.pointer (some ⟨rb9, 0, none⟩))), (9, (Value.pointer (some ⟨b38, 0, none⟩))), (51, (Value.pointer (some ⟨b38, 0, none⟩))), (54, (Value.pointer (some ⟨rb9, 10, none⟩)))] (j := 4) (by kernel_rfl) (by kernel_rfl) ?_
  refine Ops.go (v := (i64 c29.audit)) (by kernel_rfl) (Runs.load (t := 2) (a := ⟨rb9, 10, none⟩) (by kernel_rfl) (H60.loads (by kernel_rfl))) (d := (some 55)) (by kernel_rfl) rfl ?_
  refine Ops.regs 1 [(4, (Value.bool false)), (5, (Value.pointer (some ⟨b1, 0, none⟩))), (7, (Value.pointer (some ⟨rb9, 0, none⟩))), (9, (Value.pointer (some ⟨b38, 0, none⟩))), (51, (Value.pointer (some ⟨b38, 0, none⟩))), (56, (agg [(i64 4), (i64 0), (i64 0), (i64 c29.audit), (i64 0)]))] (j := 6) (by kernel_rfl) (by kernel_rfl) ?_
  refine Ops.call (by kernel_rfl) (d := (some 57)) (by kernel_rfl) (Do_calls _ b38 ((c29.do_ ⟨3, 0, 0, 0, 0⟩).2) ⟨4, 0, 0, c29.audit, 0⟩ (Ch.Inv.do_ inv31 ⟨3, 0, 0, 0, 0⟩) H58) ?_
  rintro _ w64 ⟨rfl, K65, H66⟩
  refine ⟨_, _, rfl, rfl, ?_⟩
  have H67 := H59.keep K65 (by intro h; change b1 = b38 at h; omega)
  clear H59
  have H68 := H60.keep K65 (by intro h; change rb9 = b38 at h; omega)
  clear H60
  have H69 := H61.keep K65 (by intro h; change go10 = b38 at h; omega)
  clear H61
  have H70 := H62.keep K65 (by intro h; change ge13 = b38 at h; omega)
  clear H62
  have K71 := K63.trans K65 (U := none_) (fun i h1 h2 => h2) (fun i h1 h2 => by have h2 : i = b38 := h2; exfalso; omega)
  clear K63
  clear K65
  refine Ops.done (by kernel_rfl) ?_
  refine q_seq (by kernel_rfl) ?_
  refine q_draw (fun wz => Keeps (fun i => i = b38) w64 wz) 13 (by kernel_rfl) (by kernel_rfl) (by kernel_rfl) (fun w72 K73 _ _ => ⟨(K73.mono (fun _ _ h => h.elim)), ?_⟩)
  have H74 := H67.keep K73 (fun h => h)
  clear H67
  have H75 := H68.keep K73 (fun h => h)
  clear H68
  have H76 := H69.keep K73 (fun h => h)
  clear H69
  have H77 := H70.keep K73 (fun h => h)
  clear H70
  have H78 := H66.keep K73 (fun h => h)
  clear H66
  have K79 := K71.trans K73 (U := none_) (fun i h1 h2 => h2) (fun i h1 h2 => by exact h2)
  clear K71
  refine Dr.strong (S' := (fun wz => Keeps (fun i => i = b38) w72 wz)) ((Keeps.refl w72).mono (fun _ _ h => h.elim)) (fun wz hx => K73.trans hx (fun _ _ h => h.elim) (fun _ _ h => h)) ?_
  clear K73
  refine Dr.takes (fuel' := 8) (is' := [4, 3, 2, 1, 0]) [0, 1, 2, 3, 4] [(4, (Value.bool false)), (5, (Value.pointer (some ⟨b1, 0, none⟩))), (7, (Value.pointer (some ⟨rb9, 0, none⟩))), (58, (Value.pointer (some ⟨b38, 0, none⟩))), (62, (Value.pointer (some ⟨rb9, 9, none⟩)))] (by kernel_rfl) rfl (by kernel_rfl) ?_
  refine Dr.take (i := 5) (v := (i64 c29.mn)) (by kernel_rfl) (by kernel_rfl) (fun wz hS => Runs.load (t := 2) (a := ⟨rb9, 9, none⟩) (by kernel_rfl) ((H75.keep hS (by intro h; change rb9 = b38 at h; omega)).loads (by kernel_rfl))) (d := (some 63)) (by kernel_rfl) rfl ?_
  refine Dr.takes (fuel' := 3) (is' := [9, 8, 7, 6, 5, 4, 3, 2, 1, 0]) [6, 7, 8, 9] [(4, (Value.bool false)), (5, (Value.pointer (some ⟨b1, 0, none⟩))), (7, (Value.pointer (some ⟨rb9, 0, none⟩))), (58, (Value.pointer (some ⟨b38, 0, none⟩))), (63, (i64 c29.mn)), (67, (Value.pointer (some ⟨rb9, 8, none⟩)))] (by kernel_rfl) rfl (by kernel_rfl) ?_
  refine Dr.take (i := 10) (v := (i64 c29.mp)) (by kernel_rfl) (by kernel_rfl) (fun wz hS => Runs.load (t := 3) (a := ⟨rb9, 8, none⟩) (by kernel_rfl) ((H75.keep hS (by intro h; change rb9 = b38 at h; omega)).loads (by kernel_rfl))) (d := (some 68)) (by kernel_rfl) rfl ?_
  refine Dr.takes (fuel' := 1) (is' := [11, 10, 9, 8, 7, 6, 5, 4, 3, 2, 1, 0]) [11] [(4, (Value.bool false)), (5, (Value.pointer (some ⟨b1, 0, none⟩))), (7, (Value.pointer (some ⟨rb9, 0, none⟩))), (58, (Value.pointer (some ⟨b38, 0, none⟩))), (69, (agg [(i64 2), (i64 0), (i64 0), (i64 c29.mn), (i64 c29.mp)]))] (by kernel_rfl) rfl (by kernel_rfl) ?_
  refine Dr.call (i := 12) (by kernel_rfl) (by kernel_rfl) (d := (some 70)) (by kernel_rfl) (fun _ => Do_calls _ b38 ((((c29.do_ ⟨3, 0, 0, 0, 0⟩).2).do_ ⟨4, 0, 0, c29.audit, 0⟩).2) ⟨2, 0, 0, c29.mn, c29.mp⟩ (Ch.Inv.do_ (Ch.Inv.do_ inv31 ⟨3, 0, 0, 0, 0⟩) ⟨4, 0, 0, c29.audit, 0⟩) H78) ?_
  rintro _ w80 ⟨rfl, K81, H82⟩
  have H83 := H74.keep K81 (by intro h; change b1 = b38 at h; omega)
  clear H74
  have H84 := H75.keep K81 (by intro h; change rb9 = b38 at h; omega)
  clear H75
  have H85 := H76.keep K81 (by intro h; change go10 = b38 at h; omega)
  clear H76
  have H86 := H77.keep K81 (by intro h; change ge13 = b38 at h; omega)
  clear H77
  have K87 := K79.trans K81 (U := none_) (fun i h1 h2 => h2) (fun i h1 h2 => by have h2 : i = b38 := h2; exfalso; omega)
  clear K79
  refine ⟨_, _, rfl, rfl, K81, ?_⟩
  refine Dr.strong (S' := (fun wz => Keeps (fun i => i = b38) w80 wz)) ((Keeps.refl w80).mono (fun _ _ h => h.elim)) (fun wz hx => K81.trans hx (fun _ _ h => by have h : _ = b38 := h; show _ = b38; omega) (fun _ _ h => h)) ?_
  clear K81
  refine Dr.done (by kernel_rfl) ?_
  refine q_seq (by kernel_rfl) ?_
  refine q_region (by kernel_rfl) ?_
  refine Ops.regs 2 [(4, (Value.bool false)), (71, (Value.pointer (some ⟨b1, 0, none⟩))), (72, (Value.pointer (some ⟨rb9, 0, none⟩)))] (j := 2) (by kernel_rfl) (by kernel_rfl) ?_
  refine Ops.call (by kernel_rfl) (d := (some 73)) (by kernel_rfl) (alike_calls _ b1 rb9 go10 co11 ge13 ce14 ro12 re15 c29 inv31 H83 H84 H85 H86 ⟨d21, d22, d23⟩) ?_
  rintro _ w88 ⟨rfl, K89⟩
  refine ⟨_, _, rfl, rfl, ?_⟩
  have H90 := H83.keep K89 (fun h => h)
  clear H83
  have H91 := H84.keep K89 (fun h => h)
  clear H84
  have H92 := H85.keep K89 (fun h => h)
  clear H85
  have H93 := H86.keep K89 (fun h => h)
  clear H86
  have H94 := H82.keep K89 (fun h => h)
  clear H82
  have K95 := K87.trans K89 (U := none_) (fun i h1 h2 => h2) (fun i h1 h2 => by exact h2)
  clear K87
  clear K89
  refine Ops.regs 1 [(4, (Value.bool false)), (74, (Value.bool true))] (j := 4) (by kernel_rfl) (by kernel_rfl) ?_
  refine Ops.call (by kernel_rfl) (d := (some 75)) (by kernel_rfl) (known_calls _) ?_
  rintro _ w96 ⟨rfl, K97⟩
  refine ⟨_, _, rfl, rfl, ?_⟩
  have H98 := H90.keep K97 (fun h => h)
  clear H90
  have H99 := H91.keep K97 (fun h => h)
  clear H91
  have H100 := H92.keep K97 (fun h => h)
  clear H92
  have H101 := H93.keep K97 (fun h => h)
  clear H93
  have H102 := H94.keep K97 (fun h => h)
  clear H94
  have K103 := K95.trans K97 (U := none_) (fun i h1 h2 => h2) (fun i h1 h2 => by exact h2)
  clear K95
  clear K97
  refine Ops.regs 2 [(4, (Value.bool true))] (j := 7) (by kernel_rfl) (by kernel_rfl) ?_
  refine Ops.done (by kernel_rfl) ?_
  refine q_ret (by kernel_rfl) ?_
  refine ⟨(Value.bool true), retv_tmp rfl rfl, ?_⟩
  exact ⟨rfl, K103⟩
end Go.Proofs.Ytoljbckhoigibaa
