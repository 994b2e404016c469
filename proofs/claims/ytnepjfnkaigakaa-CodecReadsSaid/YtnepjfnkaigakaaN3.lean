/- chapter 02: CodecReads returns true -/
import Derived.Test.YtnepjfnkaigakaaProg
import Derived.Test.YtnepjfnkaigakaaLibArgs
import Derived.Test.YtnepjfnkaigakaaK20
import Derived.Test.YtnepjfnkaigakaaK19
import Derived.Test.YtnepjfnkaigakaaK17
import Derived.Test.YtnepjfnkaigakaaK12
set_option linter.unusedVariables false
namespace Go.Proofs.Ytnepjfnkaigakaa
open Go.Q Go.RowKit

set_option maxHeartbeats 4000000 in
theorem Reads_calls (w : World) (B : Option Addr) (bc : Nat) (bs : List UInt8) (LA : Option Addr) (lc : Nat) (l : List Int) (most : Int) (hB : RdB w (.slice B bs.length bc) bs) (hbl : bs.length ≤ 140737488351232) (hL : Rd w 1 (.slice LA l.length lc) (ints l)) (hlr : ∀ x ∈ l, -9223372036854775808 ≤ x ∧ x ≤ 9223372036854775807) (hm : -9223372036854775808 ≤ most ∧ most ≤ 9223372036854775807) : Calls Try.prog 8 ⟨[(Value.slice B bs.length bc), (Value.slice LA l.length lc), (i64 most)]⟩ w (fun e w' => e = .returned (.bool true) ∧ Keeps none_ w w') := by
  have K0 : Keeps none_ w w := Keeps.refl w
  refine q_calls Try.func8 (by kernel_rfl) (by kernel_rfl) ?_
  refine q_seq (by kernel_rfl) ?_
  refine q_region (by kernel_rfl) ?_
  refine Ops.regs 1 [(0, (Value.slice B bs.length bc)), (1, (Value.slice LA l.length lc)), (2, (i64 most)), (6, (Value.bool false))] (j := 1) (by kernel_rfl) (by kernel_rfl) ?_
  refine Ops.done (by kernel_rfl) ?_
  refine q_seq (by kernel_rfl) ?_
  refine q_region (by kernel_rfl) ?_
  refine Ops.regs 1 [(0, (Value.slice B bs.length bc)), (1, (Value.slice LA l.length lc)), (2, (i64 most)), (6, (Value.bool false)), (12, (Value.slice B bs.length bc))] (j := 1) (by kernel_rfl) (by kernel_rfl) ?_
  refine Ops.call (by kernel_rfl) (d := (some 13)) (by kernel_rfl) (Lent_calls _ B bc bs (hB.keep0 (by omega) K0) (by omega)) ?_
  rintro _ w3 ⟨A1, c2, rfl, K4, hO5⟩
  have O7 := OwnB.cut hO5 (by simp)
  have O6 := own_base O7 K0.size
  clear O7
  clear hO5
  refine ⟨_, _, rfl, rfl, ?_⟩
  have K8 := K0.trans K4 (U := none_) (fun i h1 h2 => h2) (fun i h1 h2 => by exact h2)
  clear K0
  clear K4
  refine Ops.regs 1 [(0, (Value.slice B bs.length bc)), (1, (Value.slice LA l.length lc)), (2, (i64 most)), (6, (Value.bool false)), (7, (Value.slice A1 bs.length c2))] (j := 3) (by kernel_rfl) (by kernel_rfl) ?_
  refine Ops.done (by kernel_rfl) ?_
  refine q_seq (by kernel_rfl) ?_
  refine q_region (by kernel_rfl) ?_
  refine Ops.regs 1 [(0, (Value.slice B bs.length bc)), (1, (Value.slice LA l.length lc)), (2, (i64 most)), (6, (Value.bool false)), (7, (Value.slice A1 bs.length c2)), (14, (Value.slice A1 bs.length c2))] (j := 1) (by kernel_rfl) (by kernel_rfl) ?_
  refine Ops.call (by kernel_rfl) (d := (some 15)) (by kernel_rfl) (NewReader_calls _ (Value.slice A1 bs.length c2) bs (OwnB.rd O6) (by first | omega | decide)) ?_
  rintro _ w13 ⟨b9, A10, c11, rfl, q12, K14, H15, hr16, hne17, hge18⟩
  have nb9 : w.heap.size ≤ b9 := by have := K8.size; omega
  have oo20 : ∀ i o s, A10 = some ⟨i, o, s⟩ → ((Value.slice A1 bs.length c2)).ownBlock = some i → False := fun i o s hi hs => by have := hge18 i o s hi; have := (World.ownsRow.lt O6 i hs).2; omega
  have ob21 : ∀ i, ((Value.slice A1 bs.length c2)).ownBlock = some i → i < b9 := fun i hi => by have := (World.ownsRow.lt O6 i hi).2; omega
  have hok19 : Rdr.Ok (⟨bs, 0, 0⟩ : Rdr) := ⟨Nat.zero_le _, by show bs.length ≤ _; first | omega | decide⟩
  clear q12 hge18
  refine ⟨_, _, rfl, rfl, ?_⟩
  have K22 := K8.trans K14 (U := none_) (fun i h1 h2 => h2) (fun i h1 h2 => by exact h2)
  clear K8
  have F23 := own_keep0 O6 K14
  clear O6
  clear K14
  refine Ops.regs 1 [(0, (Value.slice B bs.length bc)), (1, (Value.slice LA l.length lc)), (2, (i64 most)), (6, (Value.bool false)), (7, (Value.slice A1 bs.length c2)), (8, (Value.pointer (some ⟨b9, 0, none⟩)))] (j := 3) (by kernel_rfl) (by kernel_rfl) ?_
  refine Ops.done (by kernel_rfl) ?_
  refine q_seq (by kernel_rfl) ?_
  refine q_seq (by kernel_rfl) ?_
  refine q_region (by kernel_rfl) ?_
  refine Ops.regs 2 [(0, (Value.slice B bs.length bc)), (1, (Value.slice LA l.length lc)), (2, (i64 most)), (6, (Value.bool false)), (7, (Value.slice A1 bs.length c2)), (8, (Value.pointer (some ⟨b9, 0, none⟩))), (17, (Value.bool false))] (j := 2) (by kernel_rfl) (by kernel_rfl) ?_
  refine Ops.done (by kernel_rfl) ?_
  refine q_else (o := .tmp 17) (by kernel_rfl) rfl ?_
  refine q_skip (by kernel_rfl) ?_
  refine q_seq (by kernel_rfl) ?_
  refine q_region (by kernel_rfl) ?_
  refine Ops.regs 1 [(0, (Value.slice B bs.length bc)), (1, (Value.slice LA l.length lc)), (2, (i64 most)), (6, (Value.bool false)), (8, (Value.pointer (some ⟨b9, 0, none⟩))), (18, (Value.slice A1 bs.length c2))] (j := 1) (by kernel_rfl) (by kernel_rfl) ?_
  refine Ops.call (by kernel_rfl) (d := (some 19)) (by kernel_rfl) (Spoil_calls _ (Value.slice A1 bs.length c2) bs _ F23 (by omega)) ?_
  rintro _ w25 ⟨rfl, K24⟩
  refine ⟨_, _, rfl, rfl, ?_⟩
  have K26 := K22.trans K24 (U := none_) (fun i h1 h2 => h2) (fun i h1 h2 => by have h2 : ((Value.slice A1 bs.length c2)).ownBlock = some i := h2; exfalso; have := (World.ownsRow.lt F23 i h2).1; omega)
  clear K22
  have H27 := H15.keep K24 (by intro h; change ((Value.slice A1 bs.length c2)).ownBlock = some b9 at h; have := ob21 b9 h; omega)
  clear H15
  clear F23
  have F28 := RdO.keep hr16 K24 (fun i _ _ hi hs => by have hs : ((Value.slice A1 bs.length c2)).ownBlock = some i := hs; exact oo20 i _ _ hi hs)
  clear hr16
  clear K24
  refine Ops.done (by kernel_rfl) ?_
  refine q_seq (by kernel_rfl) ?_
  refine q_region (by kernel_rfl) ?_
  refine Ops.regs 1 [(1, (Value.slice LA l.length lc)), (2, (i64 most)), (6, (Value.bool false)), (8, (Value.pointer (some ⟨b9, 0, none⟩))), (20, (Value.slice B bs.length bc))] (j := 1) (by kernel_rfl) (by kernel_rfl) ?_
  refine Ops.call (by kernel_rfl) (d := (some 21)) (by kernel_rfl) (Of_calls _ (Value.slice B bs.length bc) bs (hB.keep0 (by omega) K26) (by first | omega | decide)) ?_
  rintro _ w33 ⟨b29, A30, c31, rfl, q32, K34, H35, hr36, hne37, hge38⟩
  have nb29 : w.heap.size ≤ b29 := by have := K26.size; omega
  have lb29b9 : b9 < b29 := by have := H27.lt; omega
  have ob40 : ∀ i o s, A30 = some ⟨i, o, s⟩ → i ≠ b9 := fun i o s hi => by have := hge38 i o s hi; have := H27.lt; omega
  have ob41 : ∀ i o s, A10 = some ⟨i, o, s⟩ → i ≠ b29 := fun i o s hi => by have := F28.2 i o s hi; omega
  have hok39 : Rdr.Ok (⟨bs, 0, 0⟩ : Rdr) := ⟨Nat.zero_le _, by show bs.length ≤ _; first | omega | decide⟩
  clear q32 hge38
  refine ⟨_, _, rfl, rfl, ?_⟩
  have K42 := K26.trans K34 (U := none_) (fun i h1 h2 => h2) (fun i h1 h2 => by exact h2)
  clear K26
  have H43 := H27.keep K34 (fun h => h)
  clear H27
  have F44 := RdO.keep0 F28 K34
  clear F28
  clear K34
  refine Ops.regs 1 [(1, (Value.slice LA l.length lc)), (2, (i64 most)), (6, (Value.bool false)), (8, (Value.pointer (some ⟨b9, 0, none⟩))), (9, (Value.pointer (some ⟨b29, 0, none⟩)))] (j := 3) (by kernel_rfl) (by kernel_rfl) ?_
  refine Ops.done (by kernel_rfl) ?_
  refine q_seq (by kernel_rfl) ?_
  refine q_seq (by kernel_rfl) ?_
  refine q_region (by kernel_rfl) ?_
  refine Ops.regs 1 [(1, (Value.slice LA l.length lc)), (2, (i64 most)), (6, (Value.bool false)), (8, (Value.pointer (some ⟨b9, 0, none⟩))), (9, (Value.pointer (some ⟨b29, 0, none⟩))), (10, (i64 0))] (j := 1) (by kernel_rfl) (by kernel_rfl) ?_
  refine Ops.done (by kernel_rfl) ?_
  refine q_block (id := 0) (by kernel_rfl) ?_
  refine q_keep (R := [(1, (Value.slice LA l.length lc)), (2, (i64 most)), (8, (Value.pointer (some ⟨b9, 0, none⟩))), (9, (Value.pointer (some ⟨b29, 0, none⟩))), (10, (i64 0))]) (by kernel_rfl) ?_
  refine q_loop (fun (gs : Nat × Rdr) L (wx : World) => match gs with | (i, R) => L = [(1, (Value.slice LA l.length lc)), (2, (i64 most)), (8, (Value.pointer (some ⟨b9, 0, none⟩))), (9, (Value.pointer (some ⟨b29, 0, none⟩))), (10, (i64 ((i : Nat) : Int)))] ∧ RdO wx A10 c11 R.bs ∧ RdO wx A30 c31 R.bs ∧ R.Ok ∧ i ≤ 200 ∧ Keeps none_ w wx ∧ Has wx b9 (rowL (rdrL A10 c11 R) 88) ∧ Has wx b29 (rowL (rdrL A30 c31 R) 72)) (fun (gs : Nat × Rdr) => match gs with | (i, R) => 200 - i) (0, (⟨bs, 0, 0⟩ : Rdr)) (by kernel_rfl) ⟨rfl, F44, hr36, hok19, Nat.zero_le _, K42, H43, H35⟩ ?_
  clear H43 H35 F44 hr36 K42
  rintro ⟨i, R⟩ _ w45 ⟨rfl, hRdA10, hRdA30, hokR, hi, K46, H47, H48⟩
  refine q_seq (by kernel_rfl) ?_
  refine q_seq (by kernel_rfl) ?_
  refine q_region (by kernel_rfl) ?_
  refine Ops.regs 5 [(1, (Value.slice LA l.length lc)), (2, (i64 most)), (8, (Value.pointer (some ⟨b9, 0, none⟩))), (9, (Value.pointer (some ⟨b29, 0, none⟩))), (10, (i64 ((i : Nat) : Int))), (26, (Value.bool (decide (((i : Nat) : Int) < ((l.length : Nat) : Int)))))] (j := 5) (by kernel_rfl) (by kernel_rfl) ?_
  refine Ops.split (decide (((i : Nat) : Int) < ((l.length : Nat) : Int))) (fun h49 => ?_) (fun h49 => ?_)
  · rw [h49]
    have p50 : ((i : Nat) : Int) < ((l.length : Nat) : Int) := of_decide_eq_true h49
    obtain ⟨kb51, ko52, hA53⟩ := Rd.addr hL (by omega)
    obtain ⟨x, hx54⟩ : ∃ y, l[i]? = some y := ⟨_, List.getElem?_eq_getElem (by omega)⟩
    have hx55 : (ints l)[i]? = some (i64 x) := by rw [ints, List.getElem?_map, hx54]; rfl
    have hrx := hlr x (List.mem_of_getElem? hx54)
    refine Ops.regs 3 [(1, (Value.slice LA l.length lc)), (2, (i64 most)), (8, (Value.pointer (some ⟨b9, 0, none⟩))), (9, (Value.pointer (some ⟨b29, 0, none⟩))), (10, (i64 ((i : Nat) : Int))), (29, (Value.bool (decide (((i : Nat) : Int) < 200))))] (j := 8) (by kernel_rfl) (by kernel_rfl) ?_
    refine Ops.done (by kernel_rfl) ?_
    refine q_cond (o := .tmp 29) (b := (decide (((i : Nat) : Int) < 200))) (by kernel_rfl) rfl (fun h56 => ?_) (fun h56 => ?_)
    · rw [h56]
      have p57 : ((i : Nat) : Int) < 200 := of_decide_eq_true h56
      refine q_skip (by kernel_rfl) ?_
      refine q_seq (by kernel_rfl) ?_
      refine q_block (id := 1) (by kernel_rfl) ?_
      refine q_seq (by kernel_rfl) ?_
      refine q_draw (fun wz => Keeps (fun i => i = b29 ∨ i = b9) w45 wz) 25 (by kernel_rfl) (by kernel_rfl) (by kernel_rfl) (fun w58 K59 _ _ => ⟨(K59.mono (fun _ _ h => h.elim)), ?_⟩)
      have K60 := K46.trans K59 (U := none_) (fun i h1 h2 => h2) (fun i h1 h2 => by exact h2)
      clear K46
      have H61 := H47.keep K59 (fun h => h)
      clear H47
      have H62 := H48.keep K59 (fun h => h)
      clear H48
      have F63 := RdO.keep0 hRdA10 K59
      clear hRdA10
      have F64 := RdO.keep0 hRdA30 K59
      clear hRdA30
      refine Dr.strong (S' := (fun wz => Keeps (fun i => i = b29 ∨ i = b9) w58 wz)) ((Keeps.refl w58).mono (fun _ _ h => h.elim)) (fun wz hx => K59.trans hx (fun i _ h => h.elim) (fun _ _ h => h)) ?_
      clear K59
      refine Dr.takes (fuel' := 21) (is' := [3, 2, 1, 0]) [0, 1, 2, 3] [(1, (Value.slice LA l.length lc)), (2, (i64 most)), (8, (Value.pointer (some ⟨b9, 0, none⟩))), (9, (Value.pointer (some ⟨b29, 0, none⟩))), (10, (i64 ((i : Nat) : Int))), (29, (Value.bool true)), (32, (Value.pointer (some ⟨b9, 0, none⟩))), (33, (Value.pointer (some ⟨b29, 0, none⟩))), (34, (Value.slice LA l.length lc)), (35, (i64 ((i : Nat) : Int)))] (by kernel_rfl) rfl (by kernel_rfl) ?_
      refine Dr.take (i := 4) (v := (Value.pointer (some ⟨kb51, ko52 + i, none⟩))) (by kernel_rfl) (by kernel_rfl) (fun wz hS => Runs.ixSliceE (k := IntKind.i64) (t := 34) (len := l.length) (cap := lc) (s := 1) (off' := ko52 + i) (i := ((i : Nat) : Int)) hA53 (by kernel_rfl) (by kernel_rfl) (by omega) (by omega) (by omega)) (d := (some 36)) (by kernel_rfl) rfl ?_
      refine Dr.take (i := 5) (v := (i64 x)) (by kernel_rfl) (by kernel_rfl) (fun wz hS => Runs.load (t := 3) (a := ⟨kb51, ko52 + i, none⟩) (by kernel_rfl) (Rd.ld1 (Rd.keep0 (by omega) hL (K60.trans hS (U := none_) (fun _ _ h => h) (fun i h1 h2 => by have h2 : i = b29 ∨ i = b9 := h2; exfalso; omega))) (by kernel_rfl) hA53 hx55)) (d := (some 37)) (by kernel_rfl) rfl ?_
      refine Dr.takes (fuel' := 18) (is' := [6, 5, 4, 3, 2, 1, 0]) [6] [(1, (Value.slice LA l.length lc)), (2, (i64 most)), (8, (Value.pointer (some ⟨b9, 0, none⟩))), (9, (Value.pointer (some ⟨b29, 0, none⟩))), (10, (i64 ((i : Nat) : Int))), (29, (Value.bool true)), (32, (Value.pointer (some ⟨b9, 0, none⟩))), (33, (Value.pointer (some ⟨b29, 0, none⟩))), (37, (i64 x)), (38, (i64 most))] (by kernel_rfl) rfl (by kernel_rfl) ?_
      refine Dr.call (i := 7) (by kernel_rfl) (by kernel_rfl) (d := (some 39)) (by kernel_rfl) (fun _ => one_calls _ b9 b29 A10 A30 c11 c31 R x most (by omega) (by omega) hokR H61 H62 F63 F64 hne17 ob41 ob40 hne37) ?_
      rintro _ w65 ⟨rfl, K66, H67, H68⟩
      have hok69 := Rdr.Ok.step hokR x most
      have K70 := K60.trans K66 (U := none_) (fun i h1 h2 => h2) (fun i h1 h2 => by have h2 : i = b9 ∨ i = b29 := h2; exfalso; omega)
      clear K60
      have F71 := RdO.keep F63 K66 (fun i _ _ hi hs => by have hs : i = b9 ∨ i = b29 := hs; rcases hs with hs | hs; (have := hne17 i _ _ hi; omega); (have := ob41 i _ _ hi; omega))
      clear F63
      have F72 := RdO.keep F64 K66 (fun i _ _ hi hs => by have hs : i = b9 ∨ i = b29 := hs; rcases hs with hs | hs; (have := ob40 i _ _ hi; omega); (have := hne37 i _ _ hi; omega))
      clear F64
      refine ⟨_, _, rfl, rfl, (K66.mono (fun i _ h => by have h : i = b9 ∨ i = b29 := h; show i = b29 ∨ i = b9; omega)), ?_⟩
      refine Dr.strong (S' := (fun wz => Keeps (fun i => i = b29 ∨ i = b9) w65 wz)) ((Keeps.refl w65).mono (fun _ _ h => h.elim)) (fun wz hx => K66.trans hx (fun i _ h => by have h : i = b9 ∨ i = b29 := h; show i = b29 ∨ i = b9; omega) (fun _ _ h => h)) ?_
      clear K66
      have F73 : RdO w65 A10 c11 (R.step x most).bs := by rw [Rdr.step_bs]; exact F71
      clear F71
      have F74 : RdO w65 A30 c31 (R.step x most).bs := by rw [Rdr.step_bs]; exact F72
      clear F72
      refine Dr.takes (fuel' := 11) (is' := [14, 13, 12, 10, 9, 8, 7, 6, 5, 4, 3, 2, 1, 0]) [8, 9, 10, 12, 13, 14] [(1, (Value.slice LA l.length lc)), (2, (i64 most)), (8, (Value.pointer (some ⟨b9, 0, none⟩))), (9, (Value.pointer (some ⟨b29, 0, none⟩))), (10, (i64 ((i : Nat) : Int))), (29, (Value.bool true)), (41, (Value.bool false)), (42, (Value.pointer (some ⟨b9, 0, none⟩))), (46, (Value.pointer (some ⟨b29, 1, none⟩)))] (by kernel_rfl) rfl (by kernel_rfl) ?_
      refine Dr.float [(1, (Value.slice LA l.length lc)), (2, (i64 most)), (8, (Value.pointer (some ⟨b9, 0, none⟩))), (9, (Value.pointer (some ⟨b29, 0, none⟩))), (10, (i64 ((i : Nat) : Int))), (29, (Value.bool true)), (41, (Value.bool false)), (42, (Value.pointer (some ⟨b9, 0, none⟩))), (47, (i64 (((R.step x most).pos : Nat) : Int)))] 15 ?_
      refine DrB.call (i := 15) (j := 11) (t := 3) (a := ⟨b29, 1, none⟩) (v := (i64 (((R.step x most).pos : Nat) : Int))) (by kernel_rfl) (.inr rfl) (by kernel_rfl) (by kernel_rfl) (by kernel_rfl) (by kernel_rfl) (di := (some 47)) (by kernel_rfl) (by kernel_rfl) (by kernel_rfl) (by kernel_rfl) (dj := (some 43)) (by kernel_rfl) (H68.loads (by kernel_rfl)) ((Keeps.refl _).mono (fun _ _ h => h.elim)) (At_calls _ b9 A10 c11 (R.step x most) hok69 H67 F73 hne17) ?_
      rintro _ w75 ⟨rfl, K76⟩
      have K77 := K70.trans K76 (U := none_) (fun i h1 h2 => h2) (fun i h1 h2 => by exact h2)
      clear K70
      have H78 := H67.keep K76 (fun h => h)
      clear H67
      have H79 := H68.keep K76 (fun h => h)
      clear H68
      have F80 := RdO.keep0 F73 K76
      clear F73
      have F81 := RdO.keep0 F74 K76
      clear F74
      refine ⟨_, _, _, rfl, (K76.mono (fun _ _ h => h.elim)), rfl, rfl, ?_⟩
      refine DrB.strong (S' := (fun wz => Keeps (fun i => i = b29 ∨ i = b9) w75 wz)) ((Keeps.refl w75).mono (fun _ _ h => h.elim)) (fun wz hx => K76.trans hx (fun i _ h => h.elim) (fun _ _ h => h)) ?_
      clear K76
      refine DrB.end_ (t := 3) (a := ⟨b29, 1, none⟩) (v := (i64 (((R.step x most).pos : Nat) : Int))) (R := [(1, (Value.slice LA l.length lc)), (2, (i64 most)), (8, (Value.pointer (some ⟨b9, 0, none⟩))), (9, (Value.pointer (some ⟨b29, 0, none⟩))), (10, (i64 ((i : Nat) : Int))), (29, (Value.bool true)), (41, (Value.bool false)), (43, (i64 (((R.step x most).pos : Nat) : Int))), (47, (i64 (((R.step x most).pos : Nat) : Int)))]) (by kernel_rfl) (by kernel_rfl) (by kernel_rfl) (di := (some 47)) (by kernel_rfl) (by kernel_rfl) (by kernel_rfl) (H79.loads (by kernel_rfl)) ((Keeps.refl _).mono (fun _ _ h => h.elim)) ?_
      refine Dr.takes (fuel' := 6) (is' := [18, 17, 16, 15, 11, 14, 13, 12, 10, 9, 8, 7, 6, 5, 4, 3, 2, 1, 0]) [16, 17, 18] [(1, (Value.slice LA l.length lc)), (2, (i64 most)), (8, (Value.pointer (some ⟨b9, 0, none⟩))), (9, (Value.pointer (some ⟨b29, 0, none⟩))), (10, (i64 ((i : Nat) : Int))), (29, (Value.bool true)), (50, (Value.bool ((((R.step x most).pos : Nat) : Int) != (((R.step x most).pos : Nat) : Int))))] (by kernel_rfl) rfl (by kernel_rfl) ?_
      have h82 : ((((R.step x most).pos : Nat) : Int) != (((R.step x most).pos : Nat) : Int)) = false := by simp
      rw [h82]
      refine Dr.takes (fuel' := 4) (is' := [21, 19, 18, 17, 16, 15, 11, 14, 13, 12, 10, 9, 8, 7, 6, 5, 4, 3, 2, 1, 0]) [19, 21] [(1, (Value.slice LA l.length lc)), (2, (i64 most)), (8, (Value.pointer (some ⟨b9, 0, none⟩))), (9, (Value.pointer (some ⟨b29, 0, none⟩))), (10, (i64 ((i : Nat) : Int))), (29, (Value.bool true)), (50, (Value.bool false)), (51, (Value.pointer (some ⟨b9, 0, none⟩))), (53, (Value.pointer (some ⟨b29, 0, none⟩)))] (by kernel_rfl) rfl (by kernel_rfl) ?_
      refine Dr.call (i := 20) (by kernel_rfl) (by kernel_rfl) (d := (some 52)) (by kernel_rfl) (fun _ => RdEnd_calls _ b9 A10 c11 (R.step x most) hok69 H78 F80 hne17) ?_
      rintro _ w83 ⟨rfl, K84⟩
      have K85 := K77.trans K84 (U := none_) (fun i h1 h2 => h2) (fun i h1 h2 => by exact h2)
      clear K77
      have H86 := H78.keep K84 (fun h => h)
      clear H78
      have H87 := H79.keep K84 (fun h => h)
      clear H79
      have F88 := RdO.keep0 F80 K84
      clear F80
      have F89 := RdO.keep0 F81 K84
      clear F81
      refine ⟨_, _, rfl, rfl, (K84.mono (fun _ _ h => h.elim)), ?_⟩
      refine Dr.strong (S' := (fun wz => Keeps (fun i => i = b29 ∨ i = b9) w83 wz)) ((Keeps.refl w83).mono (fun _ _ h => h.elim)) (fun wz hx => K84.trans hx (fun i _ h => h.elim) (fun _ _ h => h)) ?_
      clear K84
      refine Dr.call (i := 22) (by kernel_rfl) (by kernel_rfl) (d := (some 54)) (by kernel_rfl) (fun _ => RREnd_calls _ b29 A30 c31 (R.step x most) hok69 H87 F89 hne37) ?_
      rintro _ w90 ⟨rfl, K91⟩
      have K92 := K85.trans K91 (U := none_) (fun i h1 h2 => h2) (fun i h1 h2 => by exact h2)
      clear K85
      have H93 := H86.keep K91 (fun h => h)
      clear H86
      have H94 := H87.keep K91 (fun h => h)
      clear H87
      have F95 := RdO.keep0 F88 K91
      clear F88
      have F96 := RdO.keep0 F89 K91
      clear F89
      refine ⟨_, _, rfl, rfl, (K91.mono (fun _ _ h => h.elim)), ?_⟩
      refine Dr.strong (S' := (fun wz => Keeps (fun i => i = b29 ∨ i = b9) w90 wz)) ((Keeps.refl w90).mono (fun _ _ h => h.elim)) (fun wz hx => K91.trans hx (fun i _ h => h.elim) (fun _ _ h => h)) ?_
      clear K91
      refine Dr.takes (fuel' := 0) (is' := [24, 23, 22, 20, 21, 19, 18, 17, 16, 15, 11, 14, 13, 12, 10, 9, 8, 7, 6, 5, 4, 3, 2, 1, 0]) [23, 24] [(1, (Value.slice LA l.length lc)), (2, (i64 most)), (8, (Value.pointer (some ⟨b9, 0, none⟩))), (9, (Value.pointer (some ⟨b29, 0, none⟩))), (10, (i64 ((i : Nat) : Int))), (29, (Value.bool true)), (56, (Value.bool (((R.step x most).end_) != ((R.step x most).end_))))] (by kernel_rfl) rfl (by kernel_rfl) ?_
      refine Dr.done (by kernel_rfl) ?_
      have h97 : (((R.step x most).end_) != ((R.step x most).end_)) = false := by simp
      rw [h97]
      refine q_else (o := .tmp 56) (by kernel_rfl) rfl ?_
      refine q_skip (by kernel_rfl) ?_
      refine q_region (by kernel_rfl) ?_
      refine Ops.regs 2 [(1, (Value.slice LA l.length lc)), (2, (i64 most)), (8, (Value.pointer (some ⟨b9, 0, none⟩))), (9, (Value.pointer (some ⟨b29, 0, none⟩))), (10, (i64 ((i : Nat) : Int))), (29, (Value.bool true)), (31, (i64 (IntKind.i64.wrap (((i : Nat) : Int) + 1)))), (56, (Value.bool false))] (j := 2) (by kernel_rfl) (by kernel_rfl) ?_
      have e98 : IntKind.i64.wrap (((i : Nat) : Int) + 1) = ((i + 1 : Nat) : Int) := by rw [wrap_i64 (by omega) (by omega)]; omega
      rw [e98]
      clear e98
      refine Ops.regs 1 [(1, (Value.slice LA l.length lc)), (2, (i64 most)), (8, (Value.pointer (some ⟨b9, 0, none⟩))), (9, (Value.pointer (some ⟨b29, 0, none⟩))), (10, (i64 ((i + 1 : Nat) : Int))), (29, (Value.bool true)), (56, (Value.bool false))] (j := 3) (by kernel_rfl) (by kernel_rfl) ?_
      refine Ops.keep (R := [(1, (Value.slice LA l.length lc)), (2, (i64 most)), (8, (Value.pointer (some ⟨b9, 0, none⟩))), (9, (Value.pointer (some ⟨b29, 0, none⟩))), (10, (i64 ((i + 1 : Nat) : Int)))]) (by kernel_rfl) ?_
      refine Ops.done (by kernel_rfl) ?_
      exact ⟨(i + 1, (R.step x most)), ⟨rfl, F95, F96, hok69, (by omega), K92, H93, H94⟩, (show 200 - (i + 1) < 200 - i from by omega)⟩
    · rw [h56]
      have p99 : ¬ (((i : Nat) : Int) < 200) := of_decide_eq_false h56
      refine q_exit (id := 0) (by kernel_rfl) ?_
      refine q_seq (by kernel_rfl) ?_
      refine q_region (by kernel_rfl) ?_
      refine Ops.regs 1 [(11, (Value.pointer none))] (j := 1) (by kernel_rfl) (by kernel_rfl) ?_
      refine Ops.done (by kernel_rfl) ?_
      refine q_seq (by kernel_rfl) ?_
      refine q_region (by kernel_rfl) ?_
      refine Ops.regs 1 [(11, (Value.pointer none)), (57, (Value.pointer none))] (j := 1) (by kernel_rfl) (by kernel_rfl) ?_
      refine Ops.call (by kernel_rfl) (d := (some 58)) (by kernel_rfl) (Uint_nil _ ) ?_
      rintro _ w100 ⟨rfl, K101⟩
      refine ⟨_, _, rfl, rfl, ?_⟩
      have K102 := K46.trans K101 (U := none_) (fun i h1 h2 => h2) (fun i h1 h2 => by exact h2)
      clear K46
      have H103 := H47.keep K101 (fun h => h)
      clear H47
      have H104 := H48.keep K101 (fun h => h)
      clear H48
      have F105 := RdO.keep0 hRdA10 K101
      clear hRdA10
      have F106 := RdO.keep0 hRdA30 K101
      clear hRdA30
      clear K101
      refine Ops.regs 3 [(11, (Value.pointer none)), (60, (Value.bool true)), (61, (Value.pointer none))] (j := 5) (by kernel_rfl) (by kernel_rfl) ?_
      refine Ops.call (by kernel_rfl) (d := (some 62)) (by kernel_rfl) (Int_nil _ ) ?_
      rintro _ w107 ⟨rfl, K108⟩
      refine ⟨_, _, rfl, rfl, ?_⟩
      have K109 := K102.trans K108 (U := none_) (fun i h1 h2 => h2) (fun i h1 h2 => by exact h2)
      clear K102
      have H110 := H103.keep K108 (fun h => h)
      clear H103
      have H111 := H104.keep K108 (fun h => h)
      clear H104
      have F112 := RdO.keep0 F105 K108
      clear F105
      have F113 := RdO.keep0 F106 K108
      clear F106
      clear K108
      refine Ops.regs 4 [(11, (Value.pointer none)), (65, (Value.bool true)), (66, (Value.pointer none))] (j := 10) (by kernel_rfl) (by kernel_rfl) ?_
      refine Ops.call (by kernel_rfl) (d := (some 67)) (by kernel_rfl) (Bytes_nil _ ) ?_
      rintro _ w114 ⟨rfl, K115⟩
      refine ⟨_, _, rfl, rfl, ?_⟩
      have K116 := K109.trans K115 (U := none_) (fun i h1 h2 => h2) (fun i h1 h2 => by exact h2)
      clear K109
      have H117 := H110.keep K115 (fun h => h)
      clear H110
      have H118 := H111.keep K115 (fun h => h)
      clear H111
      have F119 := RdO.keep0 F112 K115
      clear F112
      have F120 := RdO.keep0 F113 K115
      clear F113
      clear K115
      refine Ops.regs 5 [(11, (Value.pointer none)), (71, (Value.bool true)), (72, (Value.pointer none))] (j := 16) (by kernel_rfl) (by kernel_rfl) ?_
      refine Ops.call (by kernel_rfl) (d := (some 73)) (by kernel_rfl) (Text_nil _ ) ?_
      rintro _ w121 ⟨rfl, K122⟩
      refine ⟨_, _, rfl, rfl, ?_⟩
      have K123 := K116.trans K122 (U := none_) (fun i h1 h2 => h2) (fun i h1 h2 => by exact h2)
      clear K116
      have H124 := H117.keep K122 (fun h => h)
      clear H117
      have H125 := H118.keep K122 (fun h => h)
      clear H118
      have F126 := RdO.keep0 F119 K122
      clear F119
      have F127 := RdO.keep0 F120 K122
      clear F120
      clear K122
      refine Ops.go (v := (Value.bool (([] : List UInt8) == ([] : List UInt8)))) (by kernel_rfl) (Runs.streq (t := 9) (by kernel_rfl)) (d := (some 74)) (by kernel_rfl) rfl ?_
      refine Ops.regs 2 [(11, (Value.pointer none)), (76, (Value.bool (([] : List UInt8) == ([] : List UInt8))))] (j := 20) (by kernel_rfl) (by kernel_rfl) ?_
      have h128 : (([] : List UInt8) == ([] : List UInt8)) = true := by simp
      rw [h128]
      refine Ops.regs 1 [(11, (Value.pointer none)), (76, (Value.bool true)), (77, (Value.pointer none))] (j := 21) (by kernel_rfl) (by kernel_rfl) ?_
      refine Ops.call (by kernel_rfl) (d := (some 78)) (by kernel_rfl) (Bool_nil _ ) ?_
      rintro _ w129 ⟨rfl, K130⟩
      refine ⟨_, _, rfl, rfl, ?_⟩
      have K131 := K123.trans K130 (U := none_) (fun i h1 h2 => h2) (fun i h1 h2 => by exact h2)
      clear K123
      have H132 := H124.keep K130 (fun h => h)
      clear H124
      have H133 := H125.keep K130 (fun h => h)
      clear H125
      have F134 := RdO.keep0 F126 K130
      clear F126
      have F135 := RdO.keep0 F127 K130
      clear F127
      clear K130
      refine Ops.regs 4 [(11, (Value.pointer none)), (81, (Value.bool true)), (82, (Value.pointer none))] (j := 26) (by kernel_rfl) (by kernel_rfl) ?_
      refine Ops.call (by kernel_rfl) (d := (some 83)) (by kernel_rfl) (Count_nil _ 5) ?_
      rintro _ w136 ⟨rfl, K137⟩
      refine ⟨_, _, rfl, rfl, ?_⟩
      have K138 := K131.trans K137 (U := none_) (fun i h1 h2 => h2) (fun i h1 h2 => by exact h2)
      clear K131
      have H139 := H132.keep K137 (fun h => h)
      clear H132
      have H140 := H133.keep K137 (fun h => h)
      clear H133
      have F141 := RdO.keep0 F134 K137
      clear F134
      have F142 := RdO.keep0 F135 K137
      clear F135
      clear K137
      refine Ops.regs 4 [(11, (Value.pointer none)), (86, (Value.bool true)), (87, (Value.pointer none))] (j := 31) (by kernel_rfl) (by kernel_rfl) ?_
      refine Ops.call (by kernel_rfl) (d := (some 88)) (by kernel_rfl) (End_nil _ ) ?_
      rintro _ w143 ⟨rfl, K144⟩
      refine ⟨_, _, rfl, rfl, ?_⟩
      have K145 := K138.trans K144 (U := none_) (fun i h1 h2 => h2) (fun i h1 h2 => by exact h2)
      clear K138
      have H146 := H139.keep K144 (fun h => h)
      clear H139
      have H147 := H140.keep K144 (fun h => h)
      clear H140
      have F148 := RdO.keep0 F141 K144
      clear F141
      have F149 := RdO.keep0 F142 K144
      clear F142
      clear K144
      refine Ops.regs 4 [(91, (Value.bool true)), (92, (Value.pointer none))] (j := 36) (by kernel_rfl) (by kernel_rfl) ?_
      refine Ops.call (by kernel_rfl) (d := (some 93)) (by kernel_rfl) (At_nil _ ) ?_
      rintro _ w150 ⟨rfl, K151⟩
      refine ⟨_, _, rfl, rfl, ?_⟩
      have K152 := K145.trans K151 (U := none_) (fun i h1 h2 => h2) (fun i h1 h2 => by exact h2)
      clear K145
      have H153 := H146.keep K151 (fun h => h)
      clear H146
      have H154 := H147.keep K151 (fun h => h)
      clear H147
      have F155 := RdO.keep0 F148 K151
      clear F148
      have F156 := RdO.keep0 F149 K151
      clear F149
      clear K151
      refine Ops.regs 3 [(96, (Value.bool true))] (j := 40) (by kernel_rfl) (by kernel_rfl) ?_
      refine Ops.call (by kernel_rfl) (d := (some 97)) (by kernel_rfl) (known_calls _) ?_
      rintro _ w157 ⟨rfl, K158⟩
      refine ⟨_, _, rfl, rfl, ?_⟩
      have K159 := K152.trans K158 (U := none_) (fun i h1 h2 => h2) (fun i h1 h2 => by exact h2)
      clear K152
      have H160 := H153.keep K158 (fun h => h)
      clear H153
      have H161 := H154.keep K158 (fun h => h)
      clear H154
      have F162 := RdO.keep0 F155 K158
      clear F155
      have F163 := RdO.keep0 F156 K158
      clear F156
      clear K158
      refine Ops.regs 2 [(6, (Value.bool true))] (j := 43) (by kernel_rfl) (by kernel_rfl) ?_
      refine Ops.done (by kernel_rfl) ?_
      refine q_ret (by kernel_rfl) ?_
      refine ⟨(Value.bool true), retv_tmp rfl rfl, ?_⟩
      exact ⟨rfl, K159⟩
  · rw [h49]
    have p164 : ¬ (((i : Nat) : Int) < ((l.length : Nat) : Int)) := of_decide_eq_false h49
    refine Ops.regs 3 [(1, (Value.slice LA l.length lc)), (2, (i64 most)), (8, (Value.pointer (some ⟨b9, 0, none⟩))), (9, (Value.pointer (some ⟨b29, 0, none⟩))), (10, (i64 ((i : Nat) : Int))), (29, (Value.bool false))] (j := 8) (by kernel_rfl) (by kernel_rfl) ?_
    refine Ops.done (by kernel_rfl) ?_
    refine q_else (o := .tmp 29) (by kernel_rfl) rfl ?_
    refine q_exit (id := 0) (by kernel_rfl) ?_
    refine q_seq (by kernel_rfl) ?_
    refine q_region (by kernel_rfl) ?_
    refine Ops.regs 1 [(11, (Value.pointer none))] (j := 1) (by kernel_rfl) (by kernel_rfl) ?_
    refine Ops.done (by kernel_rfl) ?_
    refine q_seq (by kernel_rfl) ?_
    refine q_region (by kernel_rfl) ?_
    refine Ops.regs 1 [(11, (Value.pointer none)), (57, (Value.pointer none))] (j := 1) (by kernel_rfl) (by kernel_rfl) ?_
    refine Ops.call (by kernel_rfl) (d := (some 58)) (by kernel_rfl) (Uint_nil _ ) ?_
    rintro _ w165 ⟨rfl, K166⟩
    refine ⟨_, _, rfl, rfl, ?_⟩
    have K167 := K46.trans K166 (U := none_) (fun i h1 h2 => h2) (fun i h1 h2 => by exact h2)
    clear K46
    have H168 := H47.keep K166 (fun h => h)
    clear H47
    have H169 := H48.keep K166 (fun h => h)
    clear H48
    have F170 := RdO.keep0 hRdA10 K166
    clear hRdA10
    have F171 := RdO.keep0 hRdA30 K166
    clear hRdA30
    clear K166
    refine Ops.regs 3 [(11, (Value.pointer none)), (60, (Value.bool true)), (61, (Value.pointer none))] (j := 5) (by kernel_rfl) (by kernel_rfl) ?_
    refine Ops.call (by kernel_rfl) (d := (some 62)) (by kernel_rfl) (Int_nil _ ) ?_
    rintro _ w172 ⟨rfl, K173⟩
    refine ⟨_, _, rfl, rfl, ?_⟩
    have K174 := K167.trans K173 (U := none_) (fun i h1 h2 => h2) (fun i h1 h2 => by exact h2)
    clear K167
    have H175 := H168.keep K173 (fun h => h)
    clear H168
    have H176 := H169.keep K173 (fun h => h)
    clear H169
    have F177 := RdO.keep0 F170 K173
    clear F170
    have F178 := RdO.keep0 F171 K173
    clear F171
    clear K173
    refine Ops.regs 4 [(11, (Value.pointer none)), (65, (Value.bool true)), (66, (Value.pointer none))] (j := 10) (by kernel_rfl) (by kernel_rfl) ?_
    refine Ops.call (by kernel_rfl) (d := (some 67)) (by kernel_rfl) (Bytes_nil _ ) ?_
    rintro _ w179 ⟨rfl, K180⟩
    refine ⟨_, _, rfl, rfl, ?_⟩
    have K181 := K174.trans K180 (U := none_) (fun i h1 h2 => h2) (fun i h1 h2 => by exact h2)
    clear K174
    have H182 := H175.keep K180 (fun h => h)
    clear H175
    have H183 := H176.keep K180 (fun h => h)
    clear H176
    have F184 := RdO.keep0 F177 K180
    clear F177
    have F185 := RdO.keep0 F178 K180
    clear F178
    clear K180
    refine Ops.regs 5 [(11, (Value.pointer none)), (71, (Value.bool true)), (72, (Value.pointer none))] (j := 16) (by kernel_rfl) (by kernel_rfl) ?_
    refine Ops.call (by kernel_rfl) (d := (some 73)) (by kernel_rfl) (Text_nil _ ) ?_
    rintro _ w186 ⟨rfl, K187⟩
    refine ⟨_, _, rfl, rfl, ?_⟩
    have K188 := K181.trans K187 (U := none_) (fun i h1 h2 => h2) (fun i h1 h2 => by exact h2)
    clear K181
    have H189 := H182.keep K187 (fun h => h)
    clear H182
    have H190 := H183.keep K187 (fun h => h)
    clear H183
    have F191 := RdO.keep0 F184 K187
    clear F184
    have F192 := RdO.keep0 F185 K187
    clear F185
    clear K187
    refine Ops.go (v := (Value.bool (([] : List UInt8) == ([] : List UInt8)))) (by kernel_rfl) (Runs.streq (t := 9) (by kernel_rfl)) (d := (some 74)) (by kernel_rfl) rfl ?_
    refine Ops.regs 2 [(11, (Value.pointer none)), (76, (Value.bool (([] : List UInt8) == ([] : List UInt8))))] (j := 20) (by kernel_rfl) (by kernel_rfl) ?_
    have h193 : (([] : List UInt8) == ([] : List UInt8)) = true := by simp
    rw [h193]
    refine Ops.regs 1 [(11, (Value.pointer none)), (76, (Value.bool true)), (77, (Value.pointer none))] (j := 21) (by kernel_rfl) (by kernel_rfl) ?_
    refine Ops.call (by kernel_rfl) (d := (some 78)) (by kernel_rfl) (Bool_nil _ ) ?_
    rintro _ w194 ⟨rfl, K195⟩
    refine ⟨_, _, rfl, rfl, ?_⟩
    have K196 := K188.trans K195 (U := none_) (fun i h1 h2 => h2) (fun i h1 h2 => by exact h2)
    clear K188
    have H197 := H189.keep K195 (fun h => h)
    clear H189
    have H198 := H190.keep K195 (fun h => h)
    clear H190
    have F199 := RdO.keep0 F191 K195
    clear F191
    have F200 := RdO.keep0 F192 K195
    clear F192
    clear K195
    refine Ops.regs 4 [(11, (Value.pointer none)), (81, (Value.bool true)), (82, (Value.pointer none))] (j := 26) (by kernel_rfl) (by kernel_rfl) ?_
    refine Ops.call (by kernel_rfl) (d := (some 83)) (by kernel_rfl) (Count_nil _ 5) ?_
    rintro _ w201 ⟨rfl, K202⟩
    refine ⟨_, _, rfl, rfl, ?_⟩
    have K203 := K196.trans K202 (U := none_) (fun i h1 h2 => h2) (fun i h1 h2 => by exact h2)
    clear K196
    have H204 := H197.keep K202 (fun h => h)
    clear H197
    have H205 := H198.keep K202 (fun h => h)
    clear H198
    have F206 := RdO.keep0 F199 K202
    clear F199
    have F207 := RdO.keep0 F200 K202
    clear F200
    clear K202
    refine Ops.regs 4 [(11, (Value.pointer none)), (86, (Value.bool true)), (87, (Value.pointer none))] (j := 31) (by kernel_rfl) (by kernel_rfl) ?_
    refine Ops.call (by kernel_rfl) (d := (some 88)) (by kernel_rfl) (End_nil _ ) ?_
    rintro _ w208 ⟨rfl, K209⟩
    refine ⟨_, _, rfl, rfl, ?_⟩
    have K210 := K203.trans K209 (U := none_) (fun i h1 h2 => h2) (fun i h1 h2 => by exact h2)
    clear K203
    have H211 := H204.keep K209 (fun h => h)
    clear H204
    have H212 := H205.keep K209 (fun h => h)
    clear H205
    have F213 := RdO.keep0 F206 K209
    clear F206
    have F214 := RdO.keep0 F207 K209
    clear F207
    clear K209
    refine Ops.regs 4 [(91, (Value.bool true)), (92, (Value.pointer none))] (j := 36) (by kernel_rfl) (by kernel_rfl) ?_
    refine Ops.call (by kernel_rfl) (d := (some 93)) (by kernel_rfl) (At_nil _ ) ?_
    rintro _ w215 ⟨rfl, K216⟩
    refine ⟨_, _, rfl, rfl, ?_⟩
    have K217 := K210.trans K216 (U := none_) (fun i h1 h2 => h2) (fun i h1 h2 => by exact h2)
    clear K210
    have H218 := H211.keep K216 (fun h => h)
    clear H211
    have H219 := H212.keep K216 (fun h => h)
    clear H212
    have F220 := RdO.keep0 F213 K216
    clear F213
    have F221 := RdO.keep0 F214 K216
    clear F214
    clear K216
    refine Ops.regs 3 [(96, (Value.bool true))] (j := 40) (by kernel_rfl) (by kernel_rfl) ?_
    refine Ops.call (by kernel_rfl) (d := (some 97)) (by kernel_rfl) (known_calls _) ?_
    rintro _ w222 ⟨rfl, K223⟩
    refine ⟨_, _, rfl, rfl, ?_⟩
    have K224 := K217.trans K223 (U := none_) (fun i h1 h2 => h2) (fun i h1 h2 => by exact h2)
    clear K217
    have H225 := H218.keep K223 (fun h => h)
    clear H218
    have H226 := H219.keep K223 (fun h => h)
    clear H219
    have F227 := RdO.keep0 F220 K223
    clear F220
    have F228 := RdO.keep0 F221 K223
    clear F221
    clear K223
    refine Ops.regs 2 [(6, (Value.bool true))] (j := 43) (by kernel_rfl) (by kernel_rfl) ?_
    refine Ops.done (by kernel_rfl) ?_
    refine q_ret (by kernel_rfl) ?_
    refine ⟨(Value.bool true), retv_tmp rfl rfl, ?_⟩
    exact ⟨rfl, K224⟩
end Go.Proofs.Ytnepjfnkaigakaa
