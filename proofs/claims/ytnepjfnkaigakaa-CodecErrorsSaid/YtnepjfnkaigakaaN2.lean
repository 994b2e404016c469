/- chapter 02: CodecErrors returns true -/
import Derived.Test.YtnepjfnkaigakaaProg
import Derived.Test.YtnepjfnkaigakaaLibArgs
import Derived.Test.YtnepjfnkaigakaaK15
import Derived.Test.YtnepjfnkaigakaaK12
set_option linter.unusedVariables false
namespace Go.Proofs.Ytnepjfnkaigakaa
open Go.Q Go.RowKit

theorem Count01_calls (w : World) (a k : Int) (hk : 0 < k ∧ k ≤ 9223372036854775807) : Calls Try.prog 19 ⟨[(i64 a), (i64 k)]⟩ w (fun e w' => e = .returned (i64 (cnt a k)) ∧ w = w') := by
  have htm := tmod_range a hk.1
  refine q_calls Try.func19 (by kernel_rfl) (by kernel_rfl) ?_
  refine q_seq (by kernel_rfl) ?_
  refine q_region (by kernel_rfl) ?_
  refine Ops.regs 1 [(0, (i64 a)), (1, (i64 k)), (4, (i64 0))] (j := 1) (by kernel_rfl) (by kernel_rfl) ?_
  refine Ops.done (by kernel_rfl) ?_
  refine q_seq (by kernel_rfl) ?_
  refine q_region (by kernel_rfl) ?_
  refine Ops.regs 2 [(0, (i64 a)), (1, (i64 k)), (4, (i64 0)), (5, (i64 a)), (6, (i64 k))] (j := 2) (by kernel_rfl) (by kernel_rfl) ?_
  refine Ops.go (by kernel_rfl) (Runs.int (op := .rem) (t := 3) (x := a) (y := k) (by kernel_rfl) (run_rem (k := IntKind.i64) (by omega))) (d := (some 7)) (by kernel_rfl) rfl ?_
  refine Ops.regs 1 [(0, (i64 ((a : Int).tmod k))), (1, (i64 k)), (4, (i64 0))] (j := 4) (by kernel_rfl) (by kernel_rfl) ?_
  refine Ops.done (by kernel_rfl) ?_
  refine q_seq (by kernel_rfl) ?_
  refine q_seq (by kernel_rfl) ?_
  refine q_region (by kernel_rfl) ?_
  refine Ops.regs 2 [(0, (i64 ((a : Int).tmod k))), (1, (i64 k)), (4, (i64 0)), (9, (Value.bool (decide ((a : Int).tmod k < 0))))] (j := 2) (by kernel_rfl) (by kernel_rfl) ?_
  refine Ops.done (by kernel_rfl) ?_
  refine q_cond (o := .tmp 9) (b := (decide ((a : Int).tmod k < 0))) (by kernel_rfl) rfl (fun h1 => ?_) (fun h1 => ?_)
  · rw [h1]
    have p2 : (a : Int).tmod k < 0 := of_decide_eq_true h1
    refine q_region (by kernel_rfl) ?_
    refine Ops.regs 3 [(0, (i64 ((a : Int).tmod k))), (4, (i64 0)), (12, (i64 (IntKind.i64.wrap (((a : Int).tmod k) + k))))] (j := 3) (by kernel_rfl) (by kernel_rfl) ?_
    have e3 : IntKind.i64.wrap (((a : Int).tmod k) + k) = ((a : Int).tmod k) + k := wrap_i64 (by omega) (by omega)
    rw [e3]
    refine Ops.regs 1 [(0, (i64 (((a : Int).tmod k) + k))), (4, (i64 0))] (j := 4) (by kernel_rfl) (by kernel_rfl) ?_
    refine Ops.done (by kernel_rfl) ?_
    refine q_seq (by kernel_rfl) ?_
    refine q_region (by kernel_rfl) ?_
    refine Ops.regs 2 [(4, (i64 (((a : Int).tmod k) + k)))] (j := 2) (by kernel_rfl) (by kernel_rfl) ?_
    refine Ops.done (by kernel_rfl) ?_
    refine q_ret (by kernel_rfl) ?_
    refine ⟨(i64 (((a : Int).tmod k) + k)), retv_tmp rfl rfl, ?_⟩
    exact ⟨by unfold cnt; first | (rw [if_pos (by omega)]; done) | (rw [if_neg (by omega)]; done), rfl⟩
  · rw [h1]
    have p4 : ¬ ((a : Int).tmod k < 0) := of_decide_eq_false h1
    refine q_skip (by kernel_rfl) ?_
    refine q_seq (by kernel_rfl) ?_
    refine q_region (by kernel_rfl) ?_
    refine Ops.regs 2 [(4, (i64 ((a : Int).tmod k)))] (j := 2) (by kernel_rfl) (by kernel_rfl) ?_
    refine Ops.done (by kernel_rfl) ?_
    refine q_ret (by kernel_rfl) ?_
    refine ⟨(i64 ((a : Int).tmod k)), retv_tmp rfl rfl, ?_⟩
    exact ⟨by unfold cnt; first | (rw [if_pos (by omega)]; done) | (rw [if_neg (by omega)]; done), rfl⟩

set_option maxHeartbeats 4000000 in
theorem Errors_calls (w : World) (B : Option Addr) (bc : Nat) (bs : List UInt8) (LA : Option Addr) (lc : Nat) (l : List Int) (hB : RdB w (.slice B bs.length bc) bs) (hbl : bs.length ≤ 140737488351232) (hL : Rd w 1 (.slice LA l.length lc) (ints l)) (hlr : ∀ x ∈ l, -9223372036854775808 ≤ x ∧ x ≤ 9223372036854775807) : Calls Try.prog 7 ⟨[(Value.slice B bs.length bc), (Value.slice LA l.length lc)]⟩ w (fun e w' => e = .returned (.bool true) ∧ Keeps none_ w w') := by
  have K0 : Keeps none_ w w := Keeps.refl w
  refine q_calls Try.func7 (by kernel_rfl) (by kernel_rfl) ?_
  refine q_seq (by kernel_rfl) ?_
  refine q_region (by kernel_rfl) ?_
  refine Ops.regs 1 [(0, (Value.slice B bs.length bc)), (1, (Value.slice LA l.length lc)), (4, (Value.bool false))] (j := 1) (by kernel_rfl) (by kernel_rfl) ?_
  refine Ops.done (by kernel_rfl) ?_
  refine q_seq (by kernel_rfl) ?_
  refine q_region (by kernel_rfl) ?_
  refine Ops.regs 1 [(0, (Value.slice B bs.length bc)), (1, (Value.slice LA l.length lc)), (4, (Value.bool false)), (10, (Value.slice B bs.length bc))] (j := 1) (by kernel_rfl) (by kernel_rfl) ?_
  refine Ops.call (by kernel_rfl) (d := (some 11)) (by kernel_rfl) (NewReader_calls _ (Value.slice B bs.length bc) bs (hB.keep0 (by omega) K0) (by first | omega | decide)) ?_
  rintro _ w5 ⟨b1, A2, c3, rfl, q4, K6, H7, hr8, hne9, hge10⟩
  have nb1 : w.heap.size ≤ b1 := by have := K0.size; omega
  have hok11 : Rdr.Ok (⟨bs, 0, 0⟩ : Rdr) := ⟨Nat.zero_le _, by show bs.length ≤ _; first | omega | decide⟩
  clear q4 hge10
  refine ⟨_, _, rfl, rfl, ?_⟩
  have K12 := K0.trans K6 (U := none_) (fun i h1 h2 => h2) (fun i h1 h2 => by exact h2)
  clear K0
  clear K6
  refine Ops.regs 1 [(0, (Value.slice B bs.length bc)), (1, (Value.slice LA l.length lc)), (4, (Value.bool false)), (5, (Value.pointer (some ⟨b1, 0, none⟩)))] (j := 3) (by kernel_rfl) (by kernel_rfl) ?_
  refine Ops.done (by kernel_rfl) ?_
  refine q_seq (by kernel_rfl) ?_
  refine q_seq (by kernel_rfl) ?_
  refine q_region (by kernel_rfl) ?_
  refine Ops.regs 2 [(0, (Value.slice B bs.length bc)), (1, (Value.slice LA l.length lc)), (4, (Value.bool false)), (5, (Value.pointer (some ⟨b1, 0, none⟩))), (13, (Value.bool false))] (j := 2) (by kernel_rfl) (by kernel_rfl) ?_
  refine Ops.done (by kernel_rfl) ?_
  refine q_else (o := .tmp 13) (by kernel_rfl) rfl ?_
  refine q_skip (by kernel_rfl) ?_
  refine q_seq (by kernel_rfl) ?_
  refine q_region (by kernel_rfl) ?_
  refine Ops.regs 1 [(0, (Value.slice B bs.length bc)), (1, (Value.slice LA l.length lc)), (4, (Value.bool false)), (5, (Value.pointer (some ⟨b1, 0, none⟩))), (6, (i64 0))] (j := 1) (by kernel_rfl) (by kernel_rfl) ?_
  refine Ops.done (by kernel_rfl) ?_
  refine q_seq (by kernel_rfl) ?_
  refine q_region (by kernel_rfl) ?_
  refine Ops.regs 1 [(0, (Value.slice B bs.length bc)), (1, (Value.slice LA l.length lc)), (4, (Value.bool false)), (5, (Value.pointer (some ⟨b1, 0, none⟩))), (6, (i64 0)), (7, (i64 0))] (j := 1) (by kernel_rfl) (by kernel_rfl) ?_
  refine Ops.done (by kernel_rfl) ?_
  refine q_seq (by kernel_rfl) ?_
  refine q_seq (by kernel_rfl) ?_
  refine q_region (by kernel_rfl) ?_
  refine Ops.regs 1 [(0, (Value.slice B bs.length bc)), (1, (Value.slice LA l.length lc)), (4, (Value.bool false)), (5, (Value.pointer (some ⟨b1, 0, none⟩))), (6, (i64 0)), (7, (i64 0)), (8, (i64 0))] (j := 1) (by kernel_rfl) (by kernel_rfl) ?_
  refine Ops.done (by kernel_rfl) ?_
  refine q_block (id := 0) (by kernel_rfl) ?_
  refine q_keep (R := [(0, (Value.slice B bs.length bc)), (1, (Value.slice LA l.length lc)), (5, (Value.pointer (some ⟨b1, 0, none⟩))), (6, (i64 0)), (7, (i64 0)), (8, (i64 0))]) (by kernel_rfl) ?_
  refine q_loop (fun (gs : Nat × Rdr × Int × Nat) L (wx : World) => match gs with | (i, R, bad, ax) => L = [(0, (Value.slice B bs.length bc)), (1, (Value.slice LA l.length lc)), (5, (Value.pointer (some ⟨b1, 0, none⟩))), (6, (i64 bad)), (7, (i64 ((ax : Nat) : Int))), (8, (i64 ((i : Nat) : Int)))] ∧ RdO wx A2 c3 R.bs ∧ R.Ok ∧ R.bs = bs ∧ i ≤ 60 ∧ (bad ≠ 0 → bad = R.why ∧ R.pos = ax) ∧ ax ≤ R.pos ∧ (bad = 0 → ax = 0) ∧ Keeps none_ w wx ∧ Has wx b1 (rowL (rdrL A2 c3 R) 88)) (fun (gs : Nat × Rdr × Int × Nat) => match gs with | (i, R, bad, ax) => 60 - i) (0, (⟨bs, 0, 0⟩ : Rdr), 0, 0) (by kernel_rfl) ⟨rfl, hr8, hok11, rfl, Nat.zero_le _, (fun h => absurd rfl h), Nat.le_refl _, (fun _ => rfl), K12, H7⟩ ?_
  clear H7 hr8 K12
  rintro ⟨i, R, bad, ax⟩ _ w13 ⟨rfl, hRd, hokR, hbs, hi, hbad, hax, hbad2, K14, H15⟩
  refine q_seq (by kernel_rfl) ?_
  refine q_seq (by kernel_rfl) ?_
  refine q_region (by kernel_rfl) ?_
  refine Ops.regs 5 [(0, (Value.slice B bs.length bc)), (1, (Value.slice LA l.length lc)), (5, (Value.pointer (some ⟨b1, 0, none⟩))), (6, (i64 bad)), (7, (i64 ((ax : Nat) : Int))), (8, (i64 ((i : Nat) : Int))), (18, (Value.bool (decide (((i : Nat) : Int) < ((l.length : Nat) : Int)))))] (j := 5) (by kernel_rfl) (by kernel_rfl) ?_
  refine Ops.split (decide (((i : Nat) : Int) < ((l.length : Nat) : Int))) (fun h16 => ?_) (fun h16 => ?_)
  · rw [h16]
    have p17 : ((i : Nat) : Int) < ((l.length : Nat) : Int) := of_decide_eq_true h16
    obtain ⟨kb18, ko19, hA20⟩ := Rd.addr hL (by omega)
    obtain ⟨x, hx21⟩ : ∃ y, l[i]? = some y := ⟨_, List.getElem?_eq_getElem (by omega)⟩
    have hx22 : (ints l)[i]? = some (i64 x) := by rw [ints, List.getElem?_map, hx21]; rfl
    have hrx := hlr x (List.mem_of_getElem? hx21)
    refine Ops.regs 3 [(0, (Value.slice B bs.length bc)), (1, (Value.slice LA l.length lc)), (5, (Value.pointer (some ⟨b1, 0, none⟩))), (6, (i64 bad)), (7, (i64 ((ax : Nat) : Int))), (8, (i64 ((i : Nat) : Int))), (21, (Value.bool (decide (((i : Nat) : Int) < 60))))] (j := 8) (by kernel_rfl) (by kernel_rfl) ?_
    refine Ops.done (by kernel_rfl) ?_
    refine q_cond (o := .tmp 21) (b := (decide (((i : Nat) : Int) < 60))) (by kernel_rfl) rfl (fun h23 => ?_) (fun h23 => ?_)
    · rw [h23]
      have p24 : ((i : Nat) : Int) < 60 := of_decide_eq_true h23
      refine q_skip (by kernel_rfl) ?_
      refine q_seq (by kernel_rfl) ?_
      refine q_block (id := 1) (by kernel_rfl) ?_
      refine q_seq (by kernel_rfl) ?_
      refine q_seq (by kernel_rfl) ?_
      refine q_region (by kernel_rfl) ?_
      refine Ops.regs 2 [(0, (Value.slice B bs.length bc)), (1, (Value.slice LA l.length lc)), (5, (Value.pointer (some ⟨b1, 0, none⟩))), (6, (i64 bad)), (7, (i64 ((ax : Nat) : Int))), (8, (i64 ((i : Nat) : Int))), (21, (Value.bool true)), (24, (Value.slice LA l.length lc)), (25, (i64 ((i : Nat) : Int)))] (j := 2) (by kernel_rfl) (by kernel_rfl) ?_
      refine Ops.go (by kernel_rfl) (Runs.ixSliceE (k := IntKind.i64) (t := 34) (len := l.length) (cap := lc) (s := 1) (off' := ko19 + i) (i := ((i : Nat) : Int)) hA20 (by kernel_rfl) (by kernel_rfl) (by omega) (by omega) (by omega)) (d := (some 26)) (by kernel_rfl) rfl ?_
      refine Ops.go (v := (i64 x)) (by kernel_rfl) (Runs.load (t := 3) (a := ⟨kb18, ko19 + i, none⟩) (by kernel_rfl) (Rd.ld1 (Rd.keep0 (by omega) hL K14) (by kernel_rfl) hA20 hx22)) (d := (some 27)) (by kernel_rfl) rfl ?_
      refine Ops.call (by kernel_rfl) (d := (some 28)) (by kernel_rfl) (Count01_calls _ x 5 (by omega)) ?_
      rintro _ _ ⟨rfl, rfl⟩
      have hc25 := cnt_range x (k := 5) (by omega)
      refine ⟨_, _, rfl, rfl, ?_⟩
      refine Ops.done (by kernel_rfl) ?_
      refine q_block (id := 2) (by kernel_rfl) ?_
      refine q_seq (by kernel_rfl) ?_
      refine q_region (by kernel_rfl) ?_
      refine Ops.regs 2 [(0, (Value.slice B bs.length bc)), (1, (Value.slice LA l.length lc)), (5, (Value.pointer (some ⟨b1, 0, none⟩))), (6, (i64 bad)), (7, (i64 ((ax : Nat) : Int))), (8, (i64 ((i : Nat) : Int))), (21, (Value.bool true)), (28, (i64 (cnt x 5))), (31, (Value.bool ((cnt x 5) == 0)))] (j := 2) (by kernel_rfl) (by kernel_rfl) ?_
      refine Ops.done (by kernel_rfl) ?_
      refine q_cond (o := .tmp 31) (b := ((cnt x 5) == 0)) (by kernel_rfl) rfl (fun h26 => ?_) (fun h26 => ?_)
      · rw [h26]
        have p27 : cnt x 5 = 0 := of_beq_t h26
        refine q_region (by kernel_rfl) ?_
        refine Ops.regs 1 [(0, (Value.slice B bs.length bc)), (1, (Value.slice LA l.length lc)), (5, (Value.pointer (some ⟨b1, 0, none⟩))), (6, (i64 bad)), (7, (i64 ((ax : Nat) : Int))), (8, (i64 ((i : Nat) : Int))), (21, (Value.bool true)), (28, (i64 (cnt x 5))), (31, (Value.bool true)), (33, (Value.pointer (some ⟨b1, 0, none⟩)))] (j := 1) (by kernel_rfl) (by kernel_rfl) ?_
        refine Ops.call (by kernel_rfl) (d := (some 34)) (by kernel_rfl) (RdUint_calls _ b1 A2 c3 R hokR H15 hRd hne9 ) ?_
        rintro _ w28 ⟨rfl, K29, H30⟩
        have hok31 : (R.uint).2.Ok := Rdr.Ok.uint hokR
        have hu32 := Rdr.uint_lt R
        have hgo := Rdr.goes_uint R
        have hes := Rdr.end_spec ((R.uint).2)
        have hgb := hgo.bs
        have hgm := hgo.mono
        have hgp := hgo.pos
        have hgw := hgo.why
        have hgk := hok31.pos
        rw [hgb, hbs] at hgk
        refine ⟨_, _, rfl, rfl, ?_⟩
        have K33 := K14.trans K29 (U := none_) (fun i h1 h2 => h2) (fun i h1 h2 => by have h2 : i = b1 := h2; exfalso; omega)
        clear K14
        have F34 := RdO.keep hRd K29 (fun i _ _ hi hs => by have hs : i = b1 := hs; have := hne9 i _ _ hi; omega)
        clear hRd
        clear K29
        have F35 : RdO w28 A2 c3 (R.uint).2.bs := by rw [Rdr.uint_bs]; exact F34
        clear F34
        refine Ops.done (by kernel_rfl) ?_
        refine q_seq (by kernel_rfl) ?_
        refine q_region (by kernel_rfl) ?_
        refine Ops.regs 1 [(0, (Value.slice B bs.length bc)), (1, (Value.slice LA l.length lc)), (5, (Value.pointer (some ⟨b1, 0, none⟩))), (6, (i64 bad)), (7, (i64 ((ax : Nat) : Int))), (8, (i64 ((i : Nat) : Int))), (21, (Value.bool true)), (28, (i64 (cnt x 5))), (31, (Value.bool true)), (47, (Value.pointer (some ⟨b1, 0, none⟩)))] (j := 1) (by kernel_rfl) (by kernel_rfl) ?_
        refine Ops.call (by kernel_rfl) (d := (some 48)) (by kernel_rfl) (RdEnd_calls _ b1 A2 c3 ((R.uint).2) hok31 H30 F35 hne9) ?_
        rintro _ w36 ⟨rfl, K37⟩
        refine ⟨_, _, rfl, rfl, ?_⟩
        have K38 := K33.trans K37 (U := none_) (fun i h1 h2 => h2) (fun i h1 h2 => by exact h2)
        clear K33
        have H39 := H30.keep K37 (fun h => h)
        clear H30
        have F40 := RdO.keep0 F35 K37
        clear F35
        clear K37
        refine Ops.regs 1 [(0, (Value.slice B bs.length bc)), (1, (Value.slice LA l.length lc)), (5, (Value.pointer (some ⟨b1, 0, none⟩))), (6, (i64 bad)), (7, (i64 ((ax : Nat) : Int))), (8, (i64 ((i : Nat) : Int))), (9, (i64 (((R.uint).2).end_))), (21, (Value.bool true)), (28, (i64 (cnt x 5))), (31, (Value.bool true))] (j := 3) (by kernel_rfl) (by kernel_rfl) ?_
        refine Ops.done (by kernel_rfl) ?_
        refine q_seq (by kernel_rfl) ?_
        refine q_seq (by kernel_rfl) ?_
        refine q_region (by kernel_rfl) ?_
        refine Ops.regs 3 [(0, (Value.slice B bs.length bc)), (1, (Value.slice LA l.length lc)), (5, (Value.pointer (some ⟨b1, 0, none⟩))), (6, (i64 bad)), (7, (i64 ((ax : Nat) : Int))), (8, (i64 ((i : Nat) : Int))), (9, (i64 (((R.uint).2).end_))), (21, (Value.bool true)), (28, (i64 (cnt x 5))), (31, (Value.bool true)), (51, (Value.bool (bad != 0)))] (j := 3) (by kernel_rfl) (by kernel_rfl) ?_
        refine Ops.split (bad != 0) (fun h41 => ?_) (fun h41 => ?_)
        · rw [h41]
          have p42 : ¬ (bad = 0) := of_bne_t h41
          refine Ops.regs 4 [(0, (Value.slice B bs.length bc)), (1, (Value.slice LA l.length lc)), (5, (Value.pointer (some ⟨b1, 0, none⟩))), (6, (i64 bad)), (7, (i64 ((ax : Nat) : Int))), (8, (i64 ((i : Nat) : Int))), (9, (i64 (((R.uint).2).end_))), (21, (Value.bool true)), (28, (i64 (cnt x 5))), (31, (Value.bool true)), (51, (Value.bool true)), (55, (Value.bool ((((R.uint).2).end_) != bad)))] (j := 7) (by kernel_rfl) (by kernel_rfl) ?_
          have h43 : ((((R.uint).2).end_) != bad) = false := bne_f (by omega)
          rw [h43]
          refine Ops.regs 1 [(0, (Value.slice B bs.length bc)), (1, (Value.slice LA l.length lc)), (5, (Value.pointer (some ⟨b1, 0, none⟩))), (6, (i64 bad)), (7, (i64 ((ax : Nat) : Int))), (8, (i64 ((i : Nat) : Int))), (9, (i64 (((R.uint).2).end_))), (21, (Value.bool true)), (28, (i64 (cnt x 5))), (31, (Value.bool true)), (51, (Value.bool true)), (55, (Value.bool false)), (56, (Value.pointer (some ⟨b1, 0, none⟩)))] (j := 8) (by kernel_rfl) (by kernel_rfl) ?_
          refine Ops.call (by kernel_rfl) (d := (some 57)) (by kernel_rfl) (At_calls _ b1 A2 c3 ((R.uint).2) hok31 H39 F40 hne9) ?_
          rintro _ w44 ⟨rfl, K45⟩
          refine ⟨_, _, rfl, rfl, ?_⟩
          have K46 := K38.trans K45 (U := none_) (fun i h1 h2 => h2) (fun i h1 h2 => by exact h2)
          clear K38
          have H47 := H39.keep K45 (fun h => h)
          clear H39
          have F48 := RdO.keep0 F40 K45
          clear F40
          clear K45
          refine Ops.regs 4 [(0, (Value.slice B bs.length bc)), (1, (Value.slice LA l.length lc)), (5, (Value.pointer (some ⟨b1, 0, none⟩))), (6, (i64 bad)), (7, (i64 ((ax : Nat) : Int))), (8, (i64 ((i : Nat) : Int))), (9, (i64 (((R.uint).2).end_))), (21, (Value.bool true)), (28, (i64 (cnt x 5))), (31, (Value.bool true)), (61, (Value.bool (((((R.uint).2).pos : Nat) : Int) != ((ax : Nat) : Int))))] (j := 13) (by kernel_rfl) (by kernel_rfl) ?_
          refine Ops.done (by kernel_rfl) ?_
          have h49 : (((((R.uint).2).pos : Nat) : Int) != ((ax : Nat) : Int)) = false := bne_f (by omega)
          rw [h49]
          refine q_else (o := .tmp 61) (by kernel_rfl) rfl ?_
          refine q_skip (by kernel_rfl) ?_
          refine q_seq (by kernel_rfl) ?_
          refine q_seq (by kernel_rfl) ?_
          refine q_region (by kernel_rfl) ?_
          refine Ops.regs 3 [(0, (Value.slice B bs.length bc)), (1, (Value.slice LA l.length lc)), (5, (Value.pointer (some ⟨b1, 0, none⟩))), (6, (i64 bad)), (7, (i64 ((ax : Nat) : Int))), (8, (i64 ((i : Nat) : Int))), (9, (i64 (((R.uint).2).end_))), (21, (Value.bool true)), (28, (i64 (cnt x 5))), (31, (Value.bool true)), (61, (Value.bool false)), (64, (Value.bool ((((R.uint).2).end_) != 0)))] (j := 3) (by kernel_rfl) (by kernel_rfl) ?_
          refine Ops.split ((((R.uint).2).end_) != 0) (fun h50 => ?_) (fun h50 => ?_)
          · rw [h50]
            have p51 : ¬ (((R.uint).2).end_ = 0) := of_bne_t h50
            refine Ops.regs 3 [(0, (Value.slice B bs.length bc)), (1, (Value.slice LA l.length lc)), (5, (Value.pointer (some ⟨b1, 0, none⟩))), (6, (i64 bad)), (7, (i64 ((ax : Nat) : Int))), (8, (i64 ((i : Nat) : Int))), (9, (i64 (((R.uint).2).end_))), (21, (Value.bool true)), (28, (i64 (cnt x 5))), (31, (Value.bool true)), (61, (Value.bool false)), (67, (Value.bool ((((R.uint).2).end_) != 11)))] (j := 6) (by kernel_rfl) (by kernel_rfl) ?_
            refine Ops.done (by kernel_rfl) ?_
            refine q_cond (o := .tmp 67) (b := ((((R.uint).2).end_) != 11)) (by kernel_rfl) rfl (fun h52 => ?_) (fun h52 => ?_)
            · rw [h52]
              have p53 : ¬ (((R.uint).2).end_ = 11) := of_bne_t h52
              refine q_seq (by kernel_rfl) ?_
              refine q_region (by kernel_rfl) ?_
              refine Ops.regs 2 [(0, (Value.slice B bs.length bc)), (1, (Value.slice LA l.length lc)), (5, (Value.pointer (some ⟨b1, 0, none⟩))), (6, (i64 (((R.uint).2).end_))), (7, (i64 ((ax : Nat) : Int))), (8, (i64 ((i : Nat) : Int))), (9, (i64 (((R.uint).2).end_))), (21, (Value.bool true)), (28, (i64 (cnt x 5))), (31, (Value.bool true)), (61, (Value.bool false)), (67, (Value.bool true))] (j := 2) (by kernel_rfl) (by kernel_rfl) ?_
              refine Ops.done (by kernel_rfl) ?_
              refine q_region (by kernel_rfl) ?_
              refine Ops.regs 1 [(0, (Value.slice B bs.length bc)), (1, (Value.slice LA l.length lc)), (5, (Value.pointer (some ⟨b1, 0, none⟩))), (6, (i64 (((R.uint).2).end_))), (7, (i64 ((ax : Nat) : Int))), (8, (i64 ((i : Nat) : Int))), (9, (i64 (((R.uint).2).end_))), (21, (Value.bool true)), (28, (i64 (cnt x 5))), (31, (Value.bool true)), (61, (Value.bool false)), (67, (Value.bool true)), (69, (Value.pointer (some ⟨b1, 0, none⟩)))] (j := 1) (by kernel_rfl) (by kernel_rfl) ?_
              refine Ops.call (by kernel_rfl) (d := (some 70)) (by kernel_rfl) (At_calls _ b1 A2 c3 ((R.uint).2) hok31 H47 F48 hne9) ?_
              rintro _ w54 ⟨rfl, K55⟩
              refine ⟨_, _, rfl, rfl, ?_⟩
              have K56 := K46.trans K55 (U := none_) (fun i h1 h2 => h2) (fun i h1 h2 => by exact h2)
              clear K46
              have H57 := H47.keep K55 (fun h => h)
              clear H47
              have F58 := RdO.keep0 F48 K55
              clear F48
              clear K55
              refine Ops.regs 1 [(0, (Value.slice B bs.length bc)), (1, (Value.slice LA l.length lc)), (5, (Value.pointer (some ⟨b1, 0, none⟩))), (6, (i64 (((R.uint).2).end_))), (7, (i64 ((((R.uint).2).pos : Nat) : Int))), (8, (i64 ((i : Nat) : Int))), (9, (i64 (((R.uint).2).end_))), (21, (Value.bool true)), (28, (i64 (cnt x 5))), (31, (Value.bool true)), (61, (Value.bool false)), (67, (Value.bool true))] (j := 3) (by kernel_rfl) (by kernel_rfl) ?_
              refine Ops.done (by kernel_rfl) ?_
              refine q_seq (by kernel_rfl) ?_
              refine q_region (by kernel_rfl) ?_
              refine Ops.regs 1 [(0, (Value.slice B bs.length bc)), (1, (Value.slice LA l.length lc)), (5, (Value.pointer (some ⟨b1, 0, none⟩))), (6, (i64 (((R.uint).2).end_))), (7, (i64 ((((R.uint).2).pos : Nat) : Int))), (8, (i64 ((i : Nat) : Int))), (9, (i64 (((R.uint).2).end_))), (21, (Value.bool true)), (28, (i64 (cnt x 5))), (31, (Value.bool true)), (61, (Value.bool false)), (67, (Value.bool true)), (71, (Value.pointer (some ⟨b1, 0, none⟩)))] (j := 1) (by kernel_rfl) (by kernel_rfl) ?_
              refine Ops.call (by kernel_rfl) (d := (some 72)) (by kernel_rfl) (At_calls _ b1 A2 c3 ((R.uint).2) hok31 H57 F58 hne9) ?_
              rintro _ w59 ⟨rfl, K60⟩
              refine ⟨_, _, rfl, rfl, ?_⟩
              have K61 := K56.trans K60 (U := none_) (fun i h1 h2 => h2) (fun i h1 h2 => by exact h2)
              clear K56
              have H62 := H57.keep K60 (fun h => h)
              clear H57
              have F63 := RdO.keep0 F58 K60
              clear F58
              clear K60
              refine Ops.regs 3 [(0, (Value.slice B bs.length bc)), (1, (Value.slice LA l.length lc)), (5, (Value.pointer (some ⟨b1, 0, none⟩))), (6, (i64 (((R.uint).2).end_))), (7, (i64 ((((R.uint).2).pos : Nat) : Int))), (8, (i64 ((i : Nat) : Int))), (9, (i64 (((R.uint).2).end_))), (21, (Value.bool true)), (28, (i64 (cnt x 5))), (31, (Value.bool true)), (61, (Value.bool false)), (67, (Value.bool true)), (75, (Value.bool (decide (((((R.uint).2).pos : Nat) : Int) < ((((R.uint).2).pos : Nat) : Int)))))] (j := 5) (by kernel_rfl) (by kernel_rfl) ?_
              have h64 : (decide (((((R.uint).2).pos : Nat) : Int) < ((((R.uint).2).pos : Nat) : Int))) = false := decide_eq_false (by omega)
              rw [h64]
              refine Ops.regs 1 [(0, (Value.slice B bs.length bc)), (1, (Value.slice LA l.length lc)), (5, (Value.pointer (some ⟨b1, 0, none⟩))), (6, (i64 (((R.uint).2).end_))), (7, (i64 ((((R.uint).2).pos : Nat) : Int))), (8, (i64 ((i : Nat) : Int))), (9, (i64 (((R.uint).2).end_))), (21, (Value.bool true)), (28, (i64 (cnt x 5))), (31, (Value.bool true)), (61, (Value.bool false)), (67, (Value.bool true)), (75, (Value.bool false)), (76, (Value.pointer (some ⟨b1, 0, none⟩)))] (j := 6) (by kernel_rfl) (by kernel_rfl) ?_
              refine Ops.call (by kernel_rfl) (d := (some 77)) (by kernel_rfl) (At_calls _ b1 A2 c3 ((R.uint).2) hok31 H62 F63 hne9) ?_
              rintro _ w65 ⟨rfl, K66⟩
              refine ⟨_, _, rfl, rfl, ?_⟩
              have K67 := K61.trans K66 (U := none_) (fun i h1 h2 => h2) (fun i h1 h2 => by exact h2)
              clear K61
              have H68 := H62.keep K66 (fun h => h)
              clear H62
              have F69 := RdO.keep0 F63 K66
              clear F63
              clear K66
              refine Ops.regs 4 [(0, (Value.slice B bs.length bc)), (1, (Value.slice LA l.length lc)), (5, (Value.pointer (some ⟨b1, 0, none⟩))), (6, (i64 (((R.uint).2).end_))), (7, (i64 ((((R.uint).2).pos : Nat) : Int))), (8, (i64 ((i : Nat) : Int))), (9, (i64 (((R.uint).2).end_))), (21, (Value.bool true)), (28, (i64 (cnt x 5))), (31, (Value.bool true)), (61, (Value.bool false)), (67, (Value.bool true)), (81, (Value.bool (decide (((((R.uint).2).pos : Nat) : Int) > ((bs.length : Nat) : Int)))))] (j := 11) (by kernel_rfl) (by kernel_rfl) ?_
              refine Ops.done (by kernel_rfl) ?_
              have h70 : (decide (((((R.uint).2).pos : Nat) : Int) > ((bs.length : Nat) : Int))) = false := decide_eq_false (by omega)
              rw [h70]
              refine q_else (o := .tmp 81) (by kernel_rfl) rfl ?_
              refine q_skip (by kernel_rfl) ?_
              refine q_region (by kernel_rfl) ?_
              refine Ops.regs 2 [(0, (Value.slice B bs.length bc)), (1, (Value.slice LA l.length lc)), (5, (Value.pointer (some ⟨b1, 0, none⟩))), (6, (i64 (((R.uint).2).end_))), (7, (i64 ((((R.uint).2).pos : Nat) : Int))), (8, (i64 ((i : Nat) : Int))), (9, (i64 (((R.uint).2).end_))), (21, (Value.bool true)), (23, (i64 (IntKind.i64.wrap (((i : Nat) : Int) + 1)))), (28, (i64 (cnt x 5))), (31, (Value.bool true)), (61, (Value.bool false)), (67, (Value.bool true)), (81, (Value.bool false))] (j := 2) (by kernel_rfl) (by kernel_rfl) ?_
              have e71 : IntKind.i64.wrap (((i : Nat) : Int) + 1) = ((i + 1 : Nat) : Int) := by rw [wrap_i64 (by omega) (by omega)]; omega
              rw [e71]
              clear e71
              refine Ops.regs 1 [(0, (Value.slice B bs.length bc)), (1, (Value.slice LA l.length lc)), (5, (Value.pointer (some ⟨b1, 0, none⟩))), (6, (i64 (((R.uint).2).end_))), (7, (i64 ((((R.uint).2).pos : Nat) : Int))), (8, (i64 ((i + 1 : Nat) : Int))), (9, (i64 (((R.uint).2).end_))), (21, (Value.bool true)), (28, (i64 (cnt x 5))), (31, (Value.bool true)), (61, (Value.bool false)), (67, (Value.bool true)), (81, (Value.bool false))] (j := 3) (by kernel_rfl) (by kernel_rfl) ?_
              refine Ops.keep (R := [(0, (Value.slice B bs.length bc)), (1, (Value.slice LA l.length lc)), (5, (Value.pointer (some ⟨b1, 0, none⟩))), (6, (i64 (((R.uint).2).end_))), (7, (i64 ((((R.uint).2).pos : Nat) : Int))), (8, (i64 ((i + 1 : Nat) : Int)))]) (by kernel_rfl) ?_
              refine Ops.done (by kernel_rfl) ?_
              exact ⟨(i + 1, (R.uint).2, ((R.uint).2).end_, ((R.uint).2).pos), ⟨rfl, F69, hok31, (hgb.trans hbs), (by omega), (by omega), (by omega), (by omega), K67, H68⟩, (show 60 - (i + 1) < 60 - i from by omega)⟩
            · rw [h52]
              have p72 : ((R.uint).2).end_ = 11 := of_bne_f h52
              refine q_skip (by kernel_rfl) ?_
              refine q_seq (by kernel_rfl) ?_
              refine q_region (by kernel_rfl) ?_
              refine Ops.regs 1 [(0, (Value.slice B bs.length bc)), (1, (Value.slice LA l.length lc)), (5, (Value.pointer (some ⟨b1, 0, none⟩))), (6, (i64 bad)), (7, (i64 ((ax : Nat) : Int))), (8, (i64 ((i : Nat) : Int))), (9, (i64 (((R.uint).2).end_))), (21, (Value.bool true)), (28, (i64 (cnt x 5))), (31, (Value.bool true)), (61, (Value.bool false)), (67, (Value.bool false)), (71, (Value.pointer (some ⟨b1, 0, none⟩)))] (j := 1) (by kernel_rfl) (by kernel_rfl) ?_
              refine Ops.call (by kernel_rfl) (d := (some 72)) (by kernel_rfl) (At_calls _ b1 A2 c3 ((R.uint).2) hok31 H47 F48 hne9) ?_
              rintro _ w73 ⟨rfl, K74⟩
              refine ⟨_, _, rfl, rfl, ?_⟩
              have K75 := K46.trans K74 (U := none_) (fun i h1 h2 => h2) (fun i h1 h2 => by exact h2)
              clear K46
              have H76 := H47.keep K74 (fun h => h)
              clear H47
              have F77 := RdO.keep0 F48 K74
              clear F48
              clear K74
              refine Ops.regs 3 [(0, (Value.slice B bs.length bc)), (1, (Value.slice LA l.length lc)), (5, (Value.pointer (some ⟨b1, 0, none⟩))), (6, (i64 bad)), (7, (i64 ((ax : Nat) : Int))), (8, (i64 ((i : Nat) : Int))), (9, (i64 (((R.uint).2).end_))), (21, (Value.bool true)), (28, (i64 (cnt x 5))), (31, (Value.bool true)), (61, (Value.bool false)), (67, (Value.bool false)), (75, (Value.bool (decide (((((R.uint).2).pos : Nat) : Int) < ((ax : Nat) : Int)))))] (j := 5) (by kernel_rfl) (by kernel_rfl) ?_
              have h78 : (decide (((((R.uint).2).pos : Nat) : Int) < ((ax : Nat) : Int))) = false := decide_eq_false (by omega)
              rw [h78]
              refine Ops.regs 1 [(0, (Value.slice B bs.length bc)), (1, (Value.slice LA l.length lc)), (5, (Value.pointer (some ⟨b1, 0, none⟩))), (6, (i64 bad)), (7, (i64 ((ax : Nat) : Int))), (8, (i64 ((i : Nat) : Int))), (9, (i64 (((R.uint).2).end_))), (21, (Value.bool true)), (28, (i64 (cnt x 5))), (31, (Value.bool true)), (61, (Value.bool false)), (67, (Value.bool false)), (75, (Value.bool false)), (76, (Value.pointer (some ⟨b1, 0, none⟩)))] (j := 6) (by kernel_rfl) (by kernel_rfl) ?_
              refine Ops.call (by kernel_rfl) (d := (some 77)) (by kernel_rfl) (At_calls _ b1 A2 c3 ((R.uint).2) hok31 H76 F77 hne9) ?_
              rintro _ w79 ⟨rfl, K80⟩
              refine ⟨_, _, rfl, rfl, ?_⟩
              have K81 := K75.trans K80 (U := none_) (fun i h1 h2 => h2) (fun i h1 h2 => by exact h2)
              clear K75
              have H82 := H76.keep K80 (fun h => h)
              clear H76
              have F83 := RdO.keep0 F77 K80
              clear F77
              clear K80
              refine Ops.regs 4 [(0, (Value.slice B bs.length bc)), (1, (Value.slice LA l.length lc)), (5, (Value.pointer (some ⟨b1, 0, none⟩))), (6, (i64 bad)), (7, (i64 ((ax : Nat) : Int))), (8, (i64 ((i : Nat) : Int))), (9, (i64 (((R.uint).2).end_))), (21, (Value.bool true)), (28, (i64 (cnt x 5))), (31, (Value.bool true)), (61, (Value.bool false)), (67, (Value.bool false)), (81, (Value.bool (decide (((((R.uint).2).pos : Nat) : Int) > ((bs.length : Nat) : Int)))))] (j := 11) (by kernel_rfl) (by kernel_rfl) ?_
              refine Ops.done (by kernel_rfl) ?_
              have h84 : (decide (((((R.uint).2).pos : Nat) : Int) > ((bs.length : Nat) : Int))) = false := decide_eq_false (by omega)
              rw [h84]
              refine q_else (o := .tmp 81) (by kernel_rfl) rfl ?_
              refine q_skip (by kernel_rfl) ?_
              refine q_region (by kernel_rfl) ?_
              refine Ops.regs 2 [(0, (Value.slice B bs.length bc)), (1, (Value.slice LA l.length lc)), (5, (Value.pointer (some ⟨b1, 0, none⟩))), (6, (i64 bad)), (7, (i64 ((ax : Nat) : Int))), (8, (i64 ((i : Nat) : Int))), (9, (i64 (((R.uint).2).end_))), (21, (Value.bool true)), (23, (i64 (IntKind.i64.wrap (((i : Nat) : Int) + 1)))), (28, (i64 (cnt x 5))), (31, (Value.bool true)), (61, (Value.bool false)), (67, (Value.bool false)), (81, (Value.bool false))] (j := 2) (by kernel_rfl) (by kernel_rfl) ?_
              have e85 : IntKind.i64.wrap (((i : Nat) : Int) + 1) = ((i + 1 : Nat) : Int) := by rw [wrap_i64 (by omega) (by omega)]; omega
              rw [e85]
              clear e85
              refine Ops.regs 1 [(0, (Value.slice B bs.length bc)), (1, (Value.slice LA l.length lc)), (5, (Value.pointer (some ⟨b1, 0, none⟩))), (6, (i64 bad)), (7, (i64 ((ax : Nat) : Int))), (8, (i64 ((i + 1 : Nat) : Int))), (9, (i64 (((R.uint).2).end_))), (21, (Value.bool true)), (28, (i64 (cnt x 5))), (31, (Value.bool true)), (61, (Value.bool false)), (67, (Value.bool false)), (81, (Value.bool false))] (j := 3) (by kernel_rfl) (by kernel_rfl) ?_
              refine Ops.keep (R := [(0, (Value.slice B bs.length bc)), (1, (Value.slice LA l.length lc)), (5, (Value.pointer (some ⟨b1, 0, none⟩))), (6, (i64 bad)), (7, (i64 ((ax : Nat) : Int))), (8, (i64 ((i + 1 : Nat) : Int)))]) (by kernel_rfl) ?_
              refine Ops.done (by kernel_rfl) ?_
              exact ⟨(i + 1, (R.uint).2, bad, ax), ⟨rfl, F83, hok31, (hgb.trans hbs), (by omega), (by omega), (by omega), (by omega), K81, H82⟩, (show 60 - (i + 1) < 60 - i from by omega)⟩
          · rw [h50]
            have p86 : ((R.uint).2).end_ = 0 := of_bne_f h50
            refine Ops.regs 3 [(0, (Value.slice B bs.length bc)), (1, (Value.slice LA l.length lc)), (5, (Value.pointer (some ⟨b1, 0, none⟩))), (6, (i64 bad)), (7, (i64 ((ax : Nat) : Int))), (8, (i64 ((i : Nat) : Int))), (9, (i64 (((R.uint).2).end_))), (21, (Value.bool true)), (28, (i64 (cnt x 5))), (31, (Value.bool true)), (61, (Value.bool false)), (67, (Value.bool false))] (j := 6) (by kernel_rfl) (by kernel_rfl) ?_
            refine Ops.done (by kernel_rfl) ?_
            refine q_else (o := .tmp 67) (by kernel_rfl) rfl ?_
            refine q_skip (by kernel_rfl) ?_
            refine q_seq (by kernel_rfl) ?_
            refine q_region (by kernel_rfl) ?_
            refine Ops.regs 1 [(0, (Value.slice B bs.length bc)), (1, (Value.slice LA l.length lc)), (5, (Value.pointer (some ⟨b1, 0, none⟩))), (6, (i64 bad)), (7, (i64 ((ax : Nat) : Int))), (8, (i64 ((i : Nat) : Int))), (9, (i64 (((R.uint).2).end_))), (21, (Value.bool true)), (28, (i64 (cnt x 5))), (31, (Value.bool true)), (61, (Value.bool false)), (67, (Value.bool false)), (71, (Value.pointer (some ⟨b1, 0, none⟩)))] (j := 1) (by kernel_rfl) (by kernel_rfl) ?_
            refine Ops.call (by kernel_rfl) (d := (some 72)) (by kernel_rfl) (At_calls _ b1 A2 c3 ((R.uint).2) hok31 H47 F48 hne9) ?_
            rintro _ w87 ⟨rfl, K88⟩
            refine ⟨_, _, rfl, rfl, ?_⟩
            have K89 := K46.trans K88 (U := none_) (fun i h1 h2 => h2) (fun i h1 h2 => by exact h2)
            clear K46
            have H90 := H47.keep K88 (fun h => h)
            clear H47
            have F91 := RdO.keep0 F48 K88
            clear F48
            clear K88
            refine Ops.regs 3 [(0, (Value.slice B bs.length bc)), (1, (Value.slice LA l.length lc)), (5, (Value.pointer (some ⟨b1, 0, none⟩))), (6, (i64 bad)), (7, (i64 ((ax : Nat) : Int))), (8, (i64 ((i : Nat) : Int))), (9, (i64 (((R.uint).2).end_))), (21, (Value.bool true)), (28, (i64 (cnt x 5))), (31, (Value.bool true)), (61, (Value.bool false)), (67, (Value.bool false)), (75, (Value.bool (decide (((((R.uint).2).pos : Nat) : Int) < ((ax : Nat) : Int)))))] (j := 5) (by kernel_rfl) (by kernel_rfl) ?_
            have h92 : (decide (((((R.uint).2).pos : Nat) : Int) < ((ax : Nat) : Int))) = false := decide_eq_false (by omega)
            rw [h92]
            refine Ops.regs 1 [(0, (Value.slice B bs.length bc)), (1, (Value.slice LA l.length lc)), (5, (Value.pointer (some ⟨b1, 0, none⟩))), (6, (i64 bad)), (7, (i64 ((ax : Nat) : Int))), (8, (i64 ((i : Nat) : Int))), (9, (i64 (((R.uint).2).end_))), (21, (Value.bool true)), (28, (i64 (cnt x 5))), (31, (Value.bool true)), (61, (Value.bool false)), (67, (Value.bool false)), (75, (Value.bool false)), (76, (Value.pointer (some ⟨b1, 0, none⟩)))] (j := 6) (by kernel_rfl) (by kernel_rfl) ?_
            refine Ops.call (by kernel_rfl) (d := (some 77)) (by kernel_rfl) (At_calls _ b1 A2 c3 ((R.uint).2) hok31 H90 F91 hne9) ?_
            rintro _ w93 ⟨rfl, K94⟩
            refine ⟨_, _, rfl, rfl, ?_⟩
            have K95 := K89.trans K94 (U := none_) (fun i h1 h2 => h2) (fun i h1 h2 => by exact h2)
            clear K89
            have H96 := H90.keep K94 (fun h => h)
            clear H90
            have F97 := RdO.keep0 F91 K94
            clear F91
            clear K94
            refine Ops.regs 4 [(0, (Value.slice B bs.length bc)), (1, (Value.slice LA l.length lc)), (5, (Value.pointer (some ⟨b1, 0, none⟩))), (6, (i64 bad)), (7, (i64 ((ax : Nat) : Int))), (8, (i64 ((i : Nat) : Int))), (9, (i64 (((R.uint).2).end_))), (21, (Value.bool true)), (28, (i64 (cnt x 5))), (31, (Value.bool true)), (61, (Value.bool false)), (67, (Value.bool false)), (81, (Value.bool (decide (((((R.uint).2).pos : Nat) : Int) > ((bs.length : Nat) : Int)))))] (j := 11) (by kernel_rfl) (by kernel_rfl) ?_
            refine Ops.done (by kernel_rfl) ?_
            have h98 : (decide (((((R.uint).2).pos : Nat) : Int) > ((bs.length : Nat) : Int))) = false := decide_eq_false (by omega)
            rw [h98]
            refine q_else (o := .tmp 81) (by kernel_rfl) rfl ?_
            refine q_skip (by kernel_rfl) ?_
            refine q_region (by kernel_rfl) ?_
            refine Ops.regs 2 [(0, (Value.slice B bs.length bc)), (1, (Value.slice LA l.length lc)), (5, (Value.pointer (some ⟨b1, 0, none⟩))), (6, (i64 bad)), (7, (i64 ((ax : Nat) : Int))), (8, (i64 ((i : Nat) : Int))), (9, (i64 (((R.uint).2).end_))), (21, (Value.bool true)), (23, (i64 (IntKind.i64.wrap (((i : Nat) : Int) + 1)))), (28, (i64 (cnt x 5))), (31, (Value.bool true)), (61, (Value.bool false)), (67, (Value.bool false)), (81, (Value.bool false))] (j := 2) (by kernel_rfl) (by kernel_rfl) ?_
            have e99 : IntKind.i64.wrap (((i : Nat) : Int) + 1) = ((i + 1 : Nat) : Int) := by rw [wrap_i64 (by omega) (by omega)]; omega
            rw [e99]
            clear e99
            refine Ops.regs 1 [(0, (Value.slice B bs.length bc)), (1, (Value.slice LA l.length lc)), (5, (Value.pointer (some ⟨b1, 0, none⟩))), (6, (i64 bad)), (7, (i64 ((ax : Nat) : Int))), (8, (i64 ((i + 1 : Nat) : Int))), (9, (i64 (((R.uint).2).end_))), (21, (Value.bool true)), (28, (i64 (cnt x 5))), (31, (Value.bool true)), (61, (Value.bool false)), (67, (Value.bool false)), (81, (Value.bool false))] (j := 3) (by kernel_rfl) (by kernel_rfl) ?_
            refine Ops.keep (R := [(0, (Value.slice B bs.length bc)), (1, (Value.slice LA l.length lc)), (5, (Value.pointer (some ⟨b1, 0, none⟩))), (6, (i64 bad)), (7, (i64 ((ax : Nat) : Int))), (8, (i64 ((i + 1 : Nat) : Int)))]) (by kernel_rfl) ?_
            refine Ops.done (by kernel_rfl) ?_
            exact ⟨(i + 1, (R.uint).2, bad, ax), ⟨rfl, F97, hok31, (hgb.trans hbs), (by omega), (by omega), (by omega), (by omega), K95, H96⟩, (show 60 - (i + 1) < 60 - i from by omega)⟩
        · rw [h41]
          have p100 : bad = 0 := of_bne_f h41
          refine Ops.regs 10 [(0, (Value.slice B bs.length bc)), (1, (Value.slice LA l.length lc)), (5, (Value.pointer (some ⟨b1, 0, none⟩))), (6, (i64 bad)), (7, (i64 ((ax : Nat) : Int))), (8, (i64 ((i : Nat) : Int))), (9, (i64 (((R.uint).2).end_))), (21, (Value.bool true)), (28, (i64 (cnt x 5))), (31, (Value.bool true)), (61, (Value.bool false))] (j := 13) (by kernel_rfl) (by kernel_rfl) ?_
          refine Ops.done (by kernel_rfl) ?_
          refine q_else (o := .tmp 61) (by kernel_rfl) rfl ?_
          refine q_skip (by kernel_rfl) ?_
          refine q_seq (by kernel_rfl) ?_
          refine q_seq (by kernel_rfl) ?_
          refine q_region (by kernel_rfl) ?_
          refine Ops.regs 3 [(0, (Value.slice B bs.length bc)), (1, (Value.slice LA l.length lc)), (5, (Value.pointer (some ⟨b1, 0, none⟩))), (6, (i64 bad)), (7, (i64 ((ax : Nat) : Int))), (8, (i64 ((i : Nat) : Int))), (9, (i64 (((R.uint).2).end_))), (21, (Value.bool true)), (28, (i64 (cnt x 5))), (31, (Value.bool true)), (61, (Value.bool false)), (64, (Value.bool ((((R.uint).2).end_) != 0)))] (j := 3) (by kernel_rfl) (by kernel_rfl) ?_
          refine Ops.split ((((R.uint).2).end_) != 0) (fun h101 => ?_) (fun h101 => ?_)
          · rw [h101]
            have p102 : ¬ (((R.uint).2).end_ = 0) := of_bne_t h101
            refine Ops.regs 3 [(0, (Value.slice B bs.length bc)), (1, (Value.slice LA l.length lc)), (5, (Value.pointer (some ⟨b1, 0, none⟩))), (6, (i64 bad)), (7, (i64 ((ax : Nat) : Int))), (8, (i64 ((i : Nat) : Int))), (9, (i64 (((R.uint).2).end_))), (21, (Value.bool true)), (28, (i64 (cnt x 5))), (31, (Value.bool true)), (61, (Value.bool false)), (67, (Value.bool ((((R.uint).2).end_) != 11)))] (j := 6) (by kernel_rfl) (by kernel_rfl) ?_
            refine Ops.done (by kernel_rfl) ?_
            refine q_cond (o := .tmp 67) (b := ((((R.uint).2).end_) != 11)) (by kernel_rfl) rfl (fun h103 => ?_) (fun h103 => ?_)
            · rw [h103]
              have p104 : ¬ (((R.uint).2).end_ = 11) := of_bne_t h103
              refine q_seq (by kernel_rfl) ?_
              refine q_region (by kernel_rfl) ?_
              refine Ops.regs 2 [(0, (Value.slice B bs.length bc)), (1, (Value.slice LA l.length lc)), (5, (Value.pointer (some ⟨b1, 0, none⟩))), (6, (i64 (((R.uint).2).end_))), (7, (i64 ((ax : Nat) : Int))), (8, (i64 ((i : Nat) : Int))), (9, (i64 (((R.uint).2).end_))), (21, (Value.bool true)), (28, (i64 (cnt x 5))), (31, (Value.bool true)), (61, (Value.bool false)), (67, (Value.bool true))] (j := 2) (by kernel_rfl) (by kernel_rfl) ?_
              refine Ops.done (by kernel_rfl) ?_
              refine q_region (by kernel_rfl) ?_
              refine Ops.regs 1 [(0, (Value.slice B bs.length bc)), (1, (Value.slice LA l.length lc)), (5, (Value.pointer (some ⟨b1, 0, none⟩))), (6, (i64 (((R.uint).2).end_))), (7, (i64 ((ax : Nat) : Int))), (8, (i64 ((i : Nat) : Int))), (9, (i64 (((R.uint).2).end_))), (21, (Value.bool true)), (28, (i64 (cnt x 5))), (31, (Value.bool true)), (61, (Value.bool false)), (67, (Value.bool true)), (69, (Value.pointer (some ⟨b1, 0, none⟩)))] (j := 1) (by kernel_rfl) (by kernel_rfl) ?_
              refine Ops.call (by kernel_rfl) (d := (some 70)) (by kernel_rfl) (At_calls _ b1 A2 c3 ((R.uint).2) hok31 H39 F40 hne9) ?_
              rintro _ w105 ⟨rfl, K106⟩
              refine ⟨_, _, rfl, rfl, ?_⟩
              have K107 := K38.trans K106 (U := none_) (fun i h1 h2 => h2) (fun i h1 h2 => by exact h2)
              clear K38
              have H108 := H39.keep K106 (fun h => h)
              clear H39
              have F109 := RdO.keep0 F40 K106
              clear F40
              clear K106
              refine Ops.regs 1 [(0, (Value.slice B bs.length bc)), (1, (Value.slice LA l.length lc)), (5, (Value.pointer (some ⟨b1, 0, none⟩))), (6, (i64 (((R.uint).2).end_))), (7, (i64 ((((R.uint).2).pos : Nat) : Int))), (8, (i64 ((i : Nat) : Int))), (9, (i64 (((R.uint).2).end_))), (21, (Value.bool true)), (28, (i64 (cnt x 5))), (31, (Value.bool true)), (61, (Value.bool false)), (67, (Value.bool true))] (j := 3) (by kernel_rfl) (by kernel_rfl) ?_
              refine Ops.done (by kernel_rfl) ?_
              refine q_seq (by kernel_rfl) ?_
              refine q_region (by kernel_rfl) ?_
              refine Ops.regs 1 [(0, (Value.slice B bs.length bc)), (1, (Value.slice LA l.length lc)), (5, (Value.pointer (some ⟨b1, 0, none⟩))), (6, (i64 (((R.uint).2).end_))), (7, (i64 ((((R.uint).2).pos : Nat) : Int))), (8, (i64 ((i : Nat) : Int))), (9, (i64 (((R.uint).2).end_))), (21, (Value.bool true)), (28, (i64 (cnt x 5))), (31, (Value.bool true)), (61, (Value.bool false)), (67, (Value.bool true)), (71, (Value.pointer (some ⟨b1, 0, none⟩)))] (j := 1) (by kernel_rfl) (by kernel_rfl) ?_
              refine Ops.call (by kernel_rfl) (d := (some 72)) (by kernel_rfl) (At_calls _ b1 A2 c3 ((R.uint).2) hok31 H108 F109 hne9) ?_
              rintro _ w110 ⟨rfl, K111⟩
              refine ⟨_, _, rfl, rfl, ?_⟩
              have K112 := K107.trans K111 (U := none_) (fun i h1 h2 => h2) (fun i h1 h2 => by exact h2)
              clear K107
              have H113 := H108.keep K111 (fun h => h)
              clear H108
              have F114 := RdO.keep0 F109 K111
              clear F109
              clear K111
              refine Ops.regs 3 [(0, (Value.slice B bs.length bc)), (1, (Value.slice LA l.length lc)), (5, (Value.pointer (some ⟨b1, 0, none⟩))), (6, (i64 (((R.uint).2).end_))), (7, (i64 ((((R.uint).2).pos : Nat) : Int))), (8, (i64 ((i : Nat) : Int))), (9, (i64 (((R.uint).2).end_))), (21, (Value.bool true)), (28, (i64 (cnt x 5))), (31, (Value.bool true)), (61, (Value.bool false)), (67, (Value.bool true)), (75, (Value.bool (decide (((((R.uint).2).pos : Nat) : Int) < ((((R.uint).2).pos : Nat) : Int)))))] (j := 5) (by kernel_rfl) (by kernel_rfl) ?_
              have h115 : (decide (((((R.uint).2).pos : Nat) : Int) < ((((R.uint).2).pos : Nat) : Int))) = false := decide_eq_false (by omega)
              rw [h115]
              refine Ops.regs 1 [(0, (Value.slice B bs.length bc)), (1, (Value.slice LA l.length lc)), (5, (Value.pointer (some ⟨b1, 0, none⟩))), (6, (i64 (((R.uint).2).end_))), (7, (i64 ((((R.uint).2).pos : Nat) : Int))), (8, (i64 ((i : Nat) : Int))), (9, (i64 (((R.uint).2).end_))), (21, (Value.bool true)), (28, (i64 (cnt x 5))), (31, (Value.bool true)), (61, (Value.bool false)), (67, (Value.bool true)), (75, (Value.bool false)), (76, (Value.pointer (some ⟨b1, 0, none⟩)))] (j := 6) (by kernel_rfl) (by kernel_rfl) ?_
              refine Ops.call (by kernel_rfl) (d := (some 77)) (by kernel_rfl) (At_calls _ b1 A2 c3 ((R.uint).2) hok31 H113 F114 hne9) ?_
              rintro _ w116 ⟨rfl, K117⟩
              refine ⟨_, _, rfl, rfl, ?_⟩
              have K118 := K112.trans K117 (U := none_) (fun i h1 h2 => h2) (fun i h1 h2 => by exact h2)
              clear K112
              have H119 := H113.keep K117 (fun h => h)
              clear H113
              have F120 := RdO.keep0 F114 K117
              clear F114
              clear K117
              refine Ops.regs 4 [(0, (Value.slice B bs.length bc)), (1, (Value.slice LA l.length lc)), (5, (Value.pointer (some ⟨b1, 0, none⟩))), (6, (i64 (((R.uint).2).end_))), (7, (i64 ((((R.uint).2).pos : Nat) : Int))), (8, (i64 ((i : Nat) : Int))), (9, (i64 (((R.uint).2).end_))), (21, (Value.bool true)), (28, (i64 (cnt x 5))), (31, (Value.bool true)), (61, (Value.bool false)), (67, (Value.bool true)), (81, (Value.bool (decide (((((R.uint).2).pos : Nat) : Int) > ((bs.length : Nat) : Int)))))] (j := 11) (by kernel_rfl) (by kernel_rfl) ?_
              refine Ops.done (by kernel_rfl) ?_
              have h121 : (decide (((((R.uint).2).pos : Nat) : Int) > ((bs.length : Nat) : Int))) = false := decide_eq_false (by omega)
              rw [h121]
              refine q_else (o := .tmp 81) (by kernel_rfl) rfl ?_
              refine q_skip (by kernel_rfl) ?_
              refine q_region (by kernel_rfl) ?_
              refine Ops.regs 2 [(0, (Value.slice B bs.length bc)), (1, (Value.slice LA l.length lc)), (5, (Value.pointer (some ⟨b1, 0, none⟩))), (6, (i64 (((R.uint).2).end_))), (7, (i64 ((((R.uint).2).pos : Nat) : Int))), (8, (i64 ((i : Nat) : Int))), (9, (i64 (((R.uint).2).end_))), (21, (Value.bool true)), (23, (i64 (IntKind.i64.wrap (((i : Nat) : Int) + 1)))), (28, (i64 (cnt x 5))), (31, (Value.bool true)), (61, (Value.bool false)), (67, (Value.bool true)), (81, (Value.bool false))] (j := 2) (by kernel_rfl) (by kernel_rfl) ?_
              have e122 : IntKind.i64.wrap (((i : Nat) : Int) + 1) = ((i + 1 : Nat) : Int) := by rw [wrap_i64 (by omega) (by omega)]; omega
              rw [e122]
              clear e122
              refine Ops.regs 1 [(0, (Value.slice B bs.length bc)), (1, (Value.slice LA l.length lc)), (5, (Value.pointer (some ⟨b1, 0, none⟩))), (6, (i64 (((R.uint).2).end_))), (7, (i64 ((((R.uint).2).pos : Nat) : Int))), (8, (i64 ((i + 1 : Nat) : Int))), (9, (i64 (((R.uint).2).end_))), (21, (Value.bool true)), (28, (i64 (cnt x 5))), (31, (Value.bool true)), (61, (Value.bool false)), (67, (Value.bool true)), (81, (Value.bool false))] (j := 3) (by kernel_rfl) (by kernel_rfl) ?_
              refine Ops.keep (R := [(0, (Value.slice B bs.length bc)), (1, (Value.slice LA l.length lc)), (5, (Value.pointer (some ⟨b1, 0, none⟩))), (6, (i64 (((R.uint).2).end_))), (7, (i64 ((((R.uint).2).pos : Nat) : Int))), (8, (i64 ((i + 1 : Nat) : Int)))]) (by kernel_rfl) ?_
              refine Ops.done (by kernel_rfl) ?_
              exact ⟨(i + 1, (R.uint).2, ((R.uint).2).end_, ((R.uint).2).pos), ⟨rfl, F120, hok31, (hgb.trans hbs), (by omega), (by omega), (by omega), (by omega), K118, H119⟩, (show 60 - (i + 1) < 60 - i from by omega)⟩
            · rw [h103]
              have p123 : ((R.uint).2).end_ = 11 := of_bne_f h103
              refine q_skip (by kernel_rfl) ?_
              refine q_seq (by kernel_rfl) ?_
              refine q_region (by kernel_rfl) ?_
              refine Ops.regs 1 [(0, (Value.slice B bs.length bc)), (1, (Value.slice LA l.length lc)), (5, (Value.pointer (some ⟨b1, 0, none⟩))), (6, (i64 bad)), (7, (i64 ((ax : Nat) : Int))), (8, (i64 ((i : Nat) : Int))), (9, (i64 (((R.uint).2).end_))), (21, (Value.bool true)), (28, (i64 (cnt x 5))), (31, (Value.bool true)), (61, (Value.bool false)), (67, (Value.bool false)), (71, (Value.pointer (some ⟨b1, 0, none⟩)))] (j := 1) (by kernel_rfl) (by kernel_rfl) ?_
              refine Ops.call (by kernel_rfl) (d := (some 72)) (by kernel_rfl) (At_calls _ b1 A2 c3 ((R.uint).2) hok31 H39 F40 hne9) ?_
              rintro _ w124 ⟨rfl, K125⟩
              refine ⟨_, _, rfl, rfl, ?_⟩
              have K126 := K38.trans K125 (U := none_) (fun i h1 h2 => h2) (fun i h1 h2 => by exact h2)
              clear K38
              have H127 := H39.keep K125 (fun h => h)
              clear H39
              have F128 := RdO.keep0 F40 K125
              clear F40
              clear K125
              refine Ops.regs 3 [(0, (Value.slice B bs.length bc)), (1, (Value.slice LA l.length lc)), (5, (Value.pointer (some ⟨b1, 0, none⟩))), (6, (i64 bad)), (7, (i64 ((ax : Nat) : Int))), (8, (i64 ((i : Nat) : Int))), (9, (i64 (((R.uint).2).end_))), (21, (Value.bool true)), (28, (i64 (cnt x 5))), (31, (Value.bool true)), (61, (Value.bool false)), (67, (Value.bool false)), (75, (Value.bool (decide (((((R.uint).2).pos : Nat) : Int) < ((ax : Nat) : Int)))))] (j := 5) (by kernel_rfl) (by kernel_rfl) ?_
              have h129 : (decide (((((R.uint).2).pos : Nat) : Int) < ((ax : Nat) : Int))) = false := decide_eq_false (by omega)
              rw [h129]
              refine Ops.regs 1 [(0, (Value.slice B bs.length bc)), (1, (Value.slice LA l.length lc)), (5, (Value.pointer (some ⟨b1, 0, none⟩))), (6, (i64 bad)), (7, (i64 ((ax : Nat) : Int))), (8, (i64 ((i : Nat) : Int))), (9, (i64 (((R.uint).2).end_))), (21, (Value.bool true)), (28, (i64 (cnt x 5))), (31, (Value.bool true)), (61, (Value.bool false)), (67, (Value.bool false)), (75, (Value.bool false)), (76, (Value.pointer (some ⟨b1, 0, none⟩)))] (j := 6) (by kernel_rfl) (by kernel_rfl) ?_
              refine Ops.call (by kernel_rfl) (d := (some 77)) (by kernel_rfl) (At_calls _ b1 A2 c3 ((R.uint).2) hok31 H127 F128 hne9) ?_
              rintro _ w130 ⟨rfl, K131⟩
              refine ⟨_, _, rfl, rfl, ?_⟩
              have K132 := K126.trans K131 (U := none_) (fun i h1 h2 => h2) (fun i h1 h2 => by exact h2)
              clear K126
              have H133 := H127.keep K131 (fun h => h)
              clear H127
              have F134 := RdO.keep0 F128 K131
              clear F128
              clear K131
              refine Ops.regs 4 [(0, (Value.slice B bs.length bc)), (1, (Value.slice LA l.length lc)), (5, (Value.pointer (some ⟨b1, 0, none⟩))), (6, (i64 bad)), (7, (i64 ((ax : Nat) : Int))), (8, (i64 ((i : Nat) : Int))), (9, (i64 (((R.uint).2).end_))), (21, (Value.bool true)), (28, (i64 (cnt x 5))), (31, (Value.bool true)), (61, (Value.bool false)), (67, (Value.bool false)), (81, (Value.bool (decide (((((R.uint).2).pos : Nat) : Int) > ((bs.length : Nat) : Int)))))] (j := 11) (by kernel_rfl) (by kernel_rfl) ?_
              refine Ops.done (by kernel_rfl) ?_
              have h135 : (decide (((((R.uint).2).pos : Nat) : Int) > ((bs.length : Nat) : Int))) = false := decide_eq_false (by omega)
              rw [h135]
              refine q_else (o := .tmp 81) (by kernel_rfl) rfl ?_
              refine q_skip (by kernel_rfl) ?_
              refine q_region (by kernel_rfl) ?_
              refine Ops.regs 2 [(0, (Value.slice B bs.length bc)), (1, (Value.slice LA l.length lc)), (5, (Value.pointer (some ⟨b1, 0, none⟩))), (6, (i64 bad)), (7, (i64 ((ax : Nat) : Int))), (8, (i64 ((i : Nat) : Int))), (9, (i64 (((R.uint).2).end_))), (21, (Value.bool true)), (23, (i64 (IntKind.i64.wrap (((i : Nat) : Int) + 1)))), (28, (i64 (cnt x 5))), (31, (Value.bool true)), (61, (Value.bool false)), (67, (Value.bool false)), (81, (Value.bool false))] (j := 2) (by kernel_rfl) (by kernel_rfl) ?_
              have e136 : IntKind.i64.wrap (((i : Nat) : Int) + 1) = ((i + 1 : Nat) : Int) := by rw [wrap_i64 (by omega) (by omega)]; omega
              rw [e136]
              clear e136
              refine Ops.regs 1 [(0, (Value.slice B bs.length bc)), (1, (Value.slice LA l.length lc)), (5, (Value.pointer (some ⟨b1, 0, none⟩))), (6, (i64 bad)), (7, (i64 ((ax : Nat) : Int))), (8, (i64 ((i + 1 : Nat) : Int))), (9, (i64 (((R.uint).2).end_))), (21, (Value.bool true)), (28, (i64 (cnt x 5))), (31, (Value.bool true)), (61, (Value.bool false)), (67, (Value.bool false)), (81, (Value.bool false))] (j := 3) (by kernel_rfl) (by kernel_rfl) ?_
              refine Ops.keep (R := [(0, (Value.slice B bs.length bc)), (1, (Value.slice LA l.length lc)), (5, (Value.pointer (some ⟨b1, 0, none⟩))), (6, (i64 bad)), (7, (i64 ((ax : Nat) : Int))), (8, (i64 ((i + 1 : Nat) : Int)))]) (by kernel_rfl) ?_
              refine Ops.done (by kernel_rfl) ?_
              exact ⟨(i + 1, (R.uint).2, bad, ax), ⟨rfl, F134, hok31, (hgb.trans hbs), (by omega), (by omega), (by omega), (by omega), K132, H133⟩, (show 60 - (i + 1) < 60 - i from by omega)⟩
          · rw [h101]
            have p137 : ((R.uint).2).end_ = 0 := of_bne_f h101
            refine Ops.regs 3 [(0, (Value.slice B bs.length bc)), (1, (Value.slice LA l.length lc)), (5, (Value.pointer (some ⟨b1, 0, none⟩))), (6, (i64 bad)), (7, (i64 ((ax : Nat) : Int))), (8, (i64 ((i : Nat) : Int))), (9, (i64 (((R.uint).2).end_))), (21, (Value.bool true)), (28, (i64 (cnt x 5))), (31, (Value.bool true)), (61, (Value.bool false)), (67, (Value.bool false))] (j := 6) (by kernel_rfl) (by kernel_rfl) ?_
            refine Ops.done (by kernel_rfl) ?_
            refine q_else (o := .tmp 67) (by kernel_rfl) rfl ?_
            refine q_skip (by kernel_rfl) ?_
            refine q_seq (by kernel_rfl) ?_
            refine q_region (by kernel_rfl) ?_
            refine Ops.regs 1 [(0, (Value.slice B bs.length bc)), (1, (Value.slice LA l.length lc)), (5, (Value.pointer (some ⟨b1, 0, none⟩))), (6, (i64 bad)), (7, (i64 ((ax : Nat) : Int))), (8, (i64 ((i : Nat) : Int))), (9, (i64 (((R.uint).2).end_))), (21, (Value.bool true)), (28, (i64 (cnt x 5))), (31, (Value.bool true)), (61, (Value.bool false)), (67, (Value.bool false)), (71, (Value.pointer (some ⟨b1, 0, none⟩)))] (j := 1) (by kernel_rfl) (by kernel_rfl) ?_
            refine Ops.call (by kernel_rfl) (d := (some 72)) (by kernel_rfl) (At_calls _ b1 A2 c3 ((R.uint).2) hok31 H39 F40 hne9) ?_
            rintro _ w138 ⟨rfl, K139⟩
            refine ⟨_, _, rfl, rfl, ?_⟩
            have K140 := K38.trans K139 (U := none_) (fun i h1 h2 => h2) (fun i h1 h2 => by exact h2)
            clear K38
            have H141 := H39.keep K139 (fun h => h)
            clear H39
            have F142 := RdO.keep0 F40 K139
            clear F40
            clear K139
            refine Ops.regs 3 [(0, (Value.slice B bs.length bc)), (1, (Value.slice LA l.length lc)), (5, (Value.pointer (some ⟨b1, 0, none⟩))), (6, (i64 bad)), (7, (i64 ((ax : Nat) : Int))), (8, (i64 ((i : Nat) : Int))), (9, (i64 (((R.uint).2).end_))), (21, (Value.bool true)), (28, (i64 (cnt x 5))), (31, (Value.bool true)), (61, (Value.bool false)), (67, (Value.bool false)), (75, (Value.bool (decide (((((R.uint).2).pos : Nat) : Int) < ((ax : Nat) : Int)))))] (j := 5) (by kernel_rfl) (by kernel_rfl) ?_
            have h143 : (decide (((((R.uint).2).pos : Nat) : Int) < ((ax : Nat) : Int))) = false := decide_eq_false (by omega)
            rw [h143]
            refine Ops.regs 1 [(0, (Value.slice B bs.length bc)), (1, (Value.slice LA l.length lc)), (5, (Value.pointer (some ⟨b1, 0, none⟩))), (6, (i64 bad)), (7, (i64 ((ax : Nat) : Int))), (8, (i64 ((i : Nat) : Int))), (9, (i64 (((R.uint).2).end_))), (21, (Value.bool true)), (28, (i64 (cnt x 5))), (31, (Value.bool true)), (61, (Value.bool false)), (67, (Value.bool false)), (75, (Value.bool false)), (76, (Value.pointer (some ⟨b1, 0, none⟩)))] (j := 6) (by kernel_rfl) (by kernel_rfl) ?_
            refine Ops.call (by kernel_rfl) (d := (some 77)) (by kernel_rfl) (At_calls _ b1 A2 c3 ((R.uint).2) hok31 H141 F142 hne9) ?_
            rintro _ w144 ⟨rfl, K145⟩
            refine ⟨_, _, rfl, rfl, ?_⟩
            have K146 := K140.trans K145 (U := none_) (fun i h1 h2 => h2) (fun i h1 h2 => by exact h2)
            clear K140
            have H147 := H141.keep K145 (fun h => h)
            clear H141
            have F148 := RdO.keep0 F142 K145
            clear F142
            clear K145
            refine Ops.regs 4 [(0, (Value.slice B bs.length bc)), (1, (Value.slice LA l.length lc)), (5, (Value.pointer (some ⟨b1, 0, none⟩))), (6, (i64 bad)), (7, (i64 ((ax : Nat) : Int))), (8, (i64 ((i : Nat) : Int))), (9, (i64 (((R.uint).2).end_))), (21, (Value.bool true)), (28, (i64 (cnt x 5))), (31, (Value.bool true)), (61, (Value.bool false)), (67, (Value.bool false)), (81, (Value.bool (decide (((((R.uint).2).pos : Nat) : Int) > ((bs.length : Nat) : Int)))))] (j := 11) (by kernel_rfl) (by kernel_rfl) ?_
            refine Ops.done (by kernel_rfl) ?_
            have h149 : (decide (((((R.uint).2).pos : Nat) : Int) > ((bs.length : Nat) : Int))) = false := decide_eq_false (by omega)
            rw [h149]
            refine q_else (o := .tmp 81) (by kernel_rfl) rfl ?_
            refine q_skip (by kernel_rfl) ?_
            refine q_region (by kernel_rfl) ?_
            refine Ops.regs 2 [(0, (Value.slice B bs.length bc)), (1, (Value.slice LA l.length lc)), (5, (Value.pointer (some ⟨b1, 0, none⟩))), (6, (i64 bad)), (7, (i64 ((ax : Nat) : Int))), (8, (i64 ((i : Nat) : Int))), (9, (i64 (((R.uint).2).end_))), (21, (Value.bool true)), (23, (i64 (IntKind.i64.wrap (((i : Nat) : Int) + 1)))), (28, (i64 (cnt x 5))), (31, (Value.bool true)), (61, (Value.bool false)), (67, (Value.bool false)), (81, (Value.bool false))] (j := 2) (by kernel_rfl) (by kernel_rfl) ?_
            have e150 : IntKind.i64.wrap (((i : Nat) : Int) + 1) = ((i + 1 : Nat) : Int) := by rw [wrap_i64 (by omega) (by omega)]; omega
            rw [e150]
            clear e150
            refine Ops.regs 1 [(0, (Value.slice B bs.length bc)), (1, (Value.slice LA l.length lc)), (5, (Value.pointer (some ⟨b1, 0, none⟩))), (6, (i64 bad)), (7, (i64 ((ax : Nat) : Int))), (8, (i64 ((i + 1 : Nat) : Int))), (9, (i64 (((R.uint).2).end_))), (21, (Value.bool true)), (28, (i64 (cnt x 5))), (31, (Value.bool true)), (61, (Value.bool false)), (67, (Value.bool false)), (81, (Value.bool false))] (j := 3) (by kernel_rfl) (by kernel_rfl) ?_
            refine Ops.keep (R := [(0, (Value.slice B bs.length bc)), (1, (Value.slice LA l.length lc)), (5, (Value.pointer (some ⟨b1, 0, none⟩))), (6, (i64 bad)), (7, (i64 ((ax : Nat) : Int))), (8, (i64 ((i + 1 : Nat) : Int)))]) (by kernel_rfl) ?_
            refine Ops.done (by kernel_rfl) ?_
            exact ⟨(i + 1, (R.uint).2, bad, ax), ⟨rfl, F148, hok31, (hgb.trans hbs), (by omega), (by omega), (by omega), (by omega), K146, H147⟩, (show 60 - (i + 1) < 60 - i from by omega)⟩
      · rw [h26]
        have p151 : ¬ (cnt x 5 = 0) := of_beq_f h26
        refine q_seq (by kernel_rfl) ?_
        refine q_region (by kernel_rfl) ?_
        refine Ops.regs 2 [(0, (Value.slice B bs.length bc)), (1, (Value.slice LA l.length lc)), (5, (Value.pointer (some ⟨b1, 0, none⟩))), (6, (i64 bad)), (7, (i64 ((ax : Nat) : Int))), (8, (i64 ((i : Nat) : Int))), (21, (Value.bool true)), (28, (i64 (cnt x 5))), (31, (Value.bool false)), (35, (Value.bool ((cnt x 5) == 1)))] (j := 2) (by kernel_rfl) (by kernel_rfl) ?_
        refine Ops.done (by kernel_rfl) ?_
        refine q_cond (o := .tmp 35) (b := ((cnt x 5) == 1)) (by kernel_rfl) rfl (fun h152 => ?_) (fun h152 => ?_)
        · rw [h152]
          have p153 : cnt x 5 = 1 := of_beq_t h152
          refine q_region (by kernel_rfl) ?_
          refine Ops.regs 1 [(0, (Value.slice B bs.length bc)), (1, (Value.slice LA l.length lc)), (5, (Value.pointer (some ⟨b1, 0, none⟩))), (6, (i64 bad)), (7, (i64 ((ax : Nat) : Int))), (8, (i64 ((i : Nat) : Int))), (21, (Value.bool true)), (28, (i64 (cnt x 5))), (31, (Value.bool false)), (35, (Value.bool true)), (37, (Value.pointer (some ⟨b1, 0, none⟩)))] (j := 1) (by kernel_rfl) (by kernel_rfl) ?_
          refine Ops.call (by kernel_rfl) (d := (some 38)) (by kernel_rfl) (RdBool_calls _ b1 A2 c3 R hokR H15 hRd hne9 ) ?_
          rintro _ w154 ⟨rfl, K155, H156⟩
          have hok157 : (R.bool_).2.Ok := Rdr.Ok.bool_ hokR
          have hgo := Rdr.goes_bool R
          have hes := Rdr.end_spec ((R.bool_).2)
          have hgb := hgo.bs
          have hgm := hgo.mono
          have hgp := hgo.pos
          have hgw := hgo.why
          have hgk := hok157.pos
          rw [hgb, hbs] at hgk
          refine ⟨_, _, rfl, rfl, ?_⟩
          have K158 := K14.trans K155 (U := none_) (fun i h1 h2 => h2) (fun i h1 h2 => by have h2 : i = b1 := h2; exfalso; omega)
          clear K14
          have F159 := RdO.keep hRd K155 (fun i _ _ hi hs => by have hs : i = b1 := hs; have := hne9 i _ _ hi; omega)
          clear hRd
          clear K155
          have F160 : RdO w154 A2 c3 (R.bool_).2.bs := by rw [Rdr.bool_bs]; exact F159
          clear F159
          refine Ops.done (by kernel_rfl) ?_
          refine q_seq (by kernel_rfl) ?_
          refine q_region (by kernel_rfl) ?_
          refine Ops.regs 1 [(0, (Value.slice B bs.length bc)), (1, (Value.slice LA l.length lc)), (5, (Value.pointer (some ⟨b1, 0, none⟩))), (6, (i64 bad)), (7, (i64 ((ax : Nat) : Int))), (8, (i64 ((i : Nat) : Int))), (21, (Value.bool true)), (28, (i64 (cnt x 5))), (31, (Value.bool false)), (35, (Value.bool true)), (47, (Value.pointer (some ⟨b1, 0, none⟩)))] (j := 1) (by kernel_rfl) (by kernel_rfl) ?_
          refine Ops.call (by kernel_rfl) (d := (some 48)) (by kernel_rfl) (RdEnd_calls _ b1 A2 c3 ((R.bool_).2) hok157 H156 F160 hne9) ?_
          rintro _ w161 ⟨rfl, K162⟩
          refine ⟨_, _, rfl, rfl, ?_⟩
          have K163 := K158.trans K162 (U := none_) (fun i h1 h2 => h2) (fun i h1 h2 => by exact h2)
          clear K158
          have H164 := H156.keep K162 (fun h => h)
          clear H156
          have F165 := RdO.keep0 F160 K162
          clear F160
          clear K162
          refine Ops.regs 1 [(0, (Value.slice B bs.length bc)), (1, (Value.slice LA l.length lc)), (5, (Value.pointer (some ⟨b1, 0, none⟩))), (6, (i64 bad)), (7, (i64 ((ax : Nat) : Int))), (8, (i64 ((i : Nat) : Int))), (9, (i64 (((R.bool_).2).end_))), (21, (Value.bool true)), (28, (i64 (cnt x 5))), (31, (Value.bool false)), (35, (Value.bool true))] (j := 3) (by kernel_rfl) (by kernel_rfl) ?_
          refine Ops.done (by kernel_rfl) ?_
          refine q_seq (by kernel_rfl) ?_
          refine q_seq (by kernel_rfl) ?_
          refine q_region (by kernel_rfl) ?_
          refine Ops.regs 3 [(0, (Value.slice B bs.length bc)), (1, (Value.slice LA l.length lc)), (5, (Value.pointer (some ⟨b1, 0, none⟩))), (6, (i64 bad)), (7, (i64 ((ax : Nat) : Int))), (8, (i64 ((i : Nat) : Int))), (9, (i64 (((R.bool_).2).end_))), (21, (Value.bool true)), (28, (i64 (cnt x 5))), (31, (Value.bool false)), (35, (Value.bool true)), (51, (Value.bool (bad != 0)))] (j := 3) (by kernel_rfl) (by kernel_rfl) ?_
          refine Ops.split (bad != 0) (fun h166 => ?_) (fun h166 => ?_)
          · rw [h166]
            have p167 : ¬ (bad = 0) := of_bne_t h166
            refine Ops.regs 4 [(0, (Value.slice B bs.length bc)), (1, (Value.slice LA l.length lc)), (5, (Value.pointer (some ⟨b1, 0, none⟩))), (6, (i64 bad)), (7, (i64 ((ax : Nat) : Int))), (8, (i64 ((i : Nat) : Int))), (9, (i64 (((R.bool_).2).end_))), (21, (Value.bool true)), (28, (i64 (cnt x 5))), (31, (Value.bool false)), (35, (Value.bool true)), (51, (Value.bool true)), (55, (Value.bool ((((R.bool_).2).end_) != bad)))] (j := 7) (by kernel_rfl) (by kernel_rfl) ?_
            have h168 : ((((R.bool_).2).end_) != bad) = false := bne_f (by omega)
            rw [h168]
            refine Ops.regs 1 [(0, (Value.slice B bs.length bc)), (1, (Value.slice LA l.length lc)), (5, (Value.pointer (some ⟨b1, 0, none⟩))), (6, (i64 bad)), (7, (i64 ((ax : Nat) : Int))), (8, (i64 ((i : Nat) : Int))), (9, (i64 (((R.bool_).2).end_))), (21, (Value.bool true)), (28, (i64 (cnt x 5))), (31, (Value.bool false)), (35, (Value.bool true)), (51, (Value.bool true)), (55, (Value.bool false)), (56, (Value.pointer (some ⟨b1, 0, none⟩)))] (j := 8) (by kernel_rfl) (by kernel_rfl) ?_
            refine Ops.call (by kernel_rfl) (d := (some 57)) (by kernel_rfl) (At_calls _ b1 A2 c3 ((R.bool_).2) hok157 H164 F165 hne9) ?_
            rintro _ w169 ⟨rfl, K170⟩
            refine ⟨_, _, rfl, rfl, ?_⟩
            have K171 := K163.trans K170 (U := none_) (fun i h1 h2 => h2) (fun i h1 h2 => by exact h2)
            clear K163
            have H172 := H164.keep K170 (fun h => h)
            clear H164
            have F173 := RdO.keep0 F165 K170
            clear F165
            clear K170
            refine Ops.regs 4 [(0, (Value.slice B bs.length bc)), (1, (Value.slice LA l.length lc)), (5, (Value.pointer (some ⟨b1, 0, none⟩))), (6, (i64 bad)), (7, (i64 ((ax : Nat) : Int))), (8, (i64 ((i : Nat) : Int))), (9, (i64 (((R.bool_).2).end_))), (21, (Value.bool true)), (28, (i64 (cnt x 5))), (31, (Value.bool false)), (35, (Value.bool true)), (61, (Value.bool (((((R.bool_).2).pos : Nat) : Int) != ((ax : Nat) : Int))))] (j := 13) (by kernel_rfl) (by kernel_rfl) ?_
            refine Ops.done (by kernel_rfl) ?_
            have h174 : (((((R.bool_).2).pos : Nat) : Int) != ((ax : Nat) : Int)) = false := bne_f (by omega)
            rw [h174]
            refine q_else (o := .tmp 61) (by kernel_rfl) rfl ?_
            refine q_skip (by kernel_rfl) ?_
            refine q_seq (by kernel_rfl) ?_
            refine q_seq (by kernel_rfl) ?_
            refine q_region (by kernel_rfl) ?_
            refine Ops.regs 3 [(0, (Value.slice B bs.length bc)), (1, (Value.slice LA l.length lc)), (5, (Value.pointer (some ⟨b1, 0, none⟩))), (6, (i64 bad)), (7, (i64 ((ax : Nat) : Int))), (8, (i64 ((i : Nat) : Int))), (9, (i64 (((R.bool_).2).end_))), (21, (Value.bool true)), (28, (i64 (cnt x 5))), (31, (Value.bool false)), (35, (Value.bool true)), (61, (Value.bool false)), (64, (Value.bool ((((R.bool_).2).end_) != 0)))] (j := 3) (by kernel_rfl) (by kernel_rfl) ?_
            refine Ops.split ((((R.bool_).2).end_) != 0) (fun h175 => ?_) (fun h175 => ?_)
            · rw [h175]
              have p176 : ¬ (((R.bool_).2).end_ = 0) := of_bne_t h175
              refine Ops.regs 3 [(0, (Value.slice B bs.length bc)), (1, (Value.slice LA l.length lc)), (5, (Value.pointer (some ⟨b1, 0, none⟩))), (6, (i64 bad)), (7, (i64 ((ax : Nat) : Int))), (8, (i64 ((i : Nat) : Int))), (9, (i64 (((R.bool_).2).end_))), (21, (Value.bool true)), (28, (i64 (cnt x 5))), (31, (Value.bool false)), (35, (Value.bool true)), (61, (Value.bool false)), (67, (Value.bool ((((R.bool_).2).end_) != 11)))] (j := 6) (by kernel_rfl) (by kernel_rfl) ?_
              refine Ops.done (by kernel_rfl) ?_
              refine q_cond (o := .tmp 67) (b := ((((R.bool_).2).end_) != 11)) (by kernel_rfl) rfl (fun h177 => ?_) (fun h177 => ?_)
              · rw [h177]
                have p178 : ¬ (((R.bool_).2).end_ = 11) := of_bne_t h177
                refine q_seq (by kernel_rfl) ?_
                refine q_region (by kernel_rfl) ?_
                refine Ops.regs 2 [(0, (Value.slice B bs.length bc)), (1, (Value.slice LA l.length lc)), (5, (Value.pointer (some ⟨b1, 0, none⟩))), (6, (i64 (((R.bool_).2).end_))), (7, (i64 ((ax : Nat) : Int))), (8, (i64 ((i : Nat) : Int))), (9, (i64 (((R.bool_).2).end_))), (21, (Value.bool true)), (28, (i64 (cnt x 5))), (31, (Value.bool false)), (35, (Value.bool true)), (61, (Value.bool false)), (67, (Value.bool true))] (j := 2) (by kernel_rfl) (by kernel_rfl) ?_
                refine Ops.done (by kernel_rfl) ?_
                refine q_region (by kernel_rfl) ?_
                refine Ops.regs 1 [(0, (Value.slice B bs.length bc)), (1, (Value.slice LA l.length lc)), (5, (Value.pointer (some ⟨b1, 0, none⟩))), (6, (i64 (((R.bool_).2).end_))), (7, (i64 ((ax : Nat) : Int))), (8, (i64 ((i : Nat) : Int))), (9, (i64 (((R.bool_).2).end_))), (21, (Value.bool true)), (28, (i64 (cnt x 5))), (31, (Value.bool false)), (35, (Value.bool true)), (61, (Value.bool false)), (67, (Value.bool true)), (69, (Value.pointer (some ⟨b1, 0, none⟩)))] (j := 1) (by kernel_rfl) (by kernel_rfl) ?_
                refine Ops.call (by kernel_rfl) (d := (some 70)) (by kernel_rfl) (At_calls _ b1 A2 c3 ((R.bool_).2) hok157 H172 F173 hne9) ?_
                rintro _ w179 ⟨rfl, K180⟩
                refine ⟨_, _, rfl, rfl, ?_⟩
                have K181 := K171.trans K180 (U := none_) (fun i h1 h2 => h2) (fun i h1 h2 => by exact h2)
                clear K171
                have H182 := H172.keep K180 (fun h => h)
                clear H172
                have F183 := RdO.keep0 F173 K180
                clear F173
                clear K180
                refine Ops.regs 1 [(0, (Value.slice B bs.length bc)), (1, (Value.slice LA l.length lc)), (5, (Value.pointer (some ⟨b1, 0, none⟩))), (6, (i64 (((R.bool_).2).end_))), (7, (i64 ((((R.bool_).2).pos : Nat) : Int))), (8, (i64 ((i : Nat) : Int))), (9, (i64 (((R.bool_).2).end_))), (21, (Value.bool true)), (28, (i64 (cnt x 5))), (31, (Value.bool false)), (35, (Value.bool true)), (61, (Value.bool false)), (67, (Value.bool true))] (j := 3) (by kernel_rfl) (by kernel_rfl) ?_
                refine Ops.done (by kernel_rfl) ?_
                refine q_seq (by kernel_rfl) ?_
                refine q_region (by kernel_rfl) ?_
                refine Ops.regs 1 [(0, (Value.slice B bs.length bc)), (1, (Value.slice LA l.length lc)), (5, (Value.pointer (some ⟨b1, 0, none⟩))), (6, (i64 (((R.bool_).2).end_))), (7, (i64 ((((R.bool_).2).pos : Nat) : Int))), (8, (i64 ((i : Nat) : Int))), (9, (i64 (((R.bool_).2).end_))), (21, (Value.bool true)), (28, (i64 (cnt x 5))), (31, (Value.bool false)), (35, (Value.bool true)), (61, (Value.bool false)), (67, (Value.bool true)), (71, (Value.pointer (some ⟨b1, 0, none⟩)))] (j := 1) (by kernel_rfl) (by kernel_rfl) ?_
                refine Ops.call (by kernel_rfl) (d := (some 72)) (by kernel_rfl) (At_calls _ b1 A2 c3 ((R.bool_).2) hok157 H182 F183 hne9) ?_
                rintro _ w184 ⟨rfl, K185⟩
                refine ⟨_, _, rfl, rfl, ?_⟩
                have K186 := K181.trans K185 (U := none_) (fun i h1 h2 => h2) (fun i h1 h2 => by exact h2)
                clear K181
                have H187 := H182.keep K185 (fun h => h)
                clear H182
                have F188 := RdO.keep0 F183 K185
                clear F183
                clear K185
                refine Ops.regs 3 [(0, (Value.slice B bs.length bc)), (1, (Value.slice LA l.length lc)), (5, (Value.pointer (some ⟨b1, 0, none⟩))), (6, (i64 (((R.bool_).2).end_))), (7, (i64 ((((R.bool_).2).pos : Nat) : Int))), (8, (i64 ((i : Nat) : Int))), (9, (i64 (((R.bool_).2).end_))), (21, (Value.bool true)), (28, (i64 (cnt x 5))), (31, (Value.bool false)), (35, (Value.bool true)), (61, (Value.bool false)), (67, (Value.bool true)), (75, (Value.bool (decide (((((R.bool_).2).pos : Nat) : Int) < ((((R.bool_).2).pos : Nat) : Int)))))] (j := 5) (by kernel_rfl) (by kernel_rfl) ?_
                have h189 : (decide (((((R.bool_).2).pos : Nat) : Int) < ((((R.bool_).2).pos : Nat) : Int))) = false := decide_eq_false (by omega)
                rw [h189]
                refine Ops.regs 1 [(0, (Value.slice B bs.length bc)), (1, (Value.slice LA l.length lc)), (5, (Value.pointer (some ⟨b1, 0, none⟩))), (6, (i64 (((R.bool_).2).end_))), (7, (i64 ((((R.bool_).2).pos : Nat) : Int))), (8, (i64 ((i : Nat) : Int))), (9, (i64 (((R.bool_).2).end_))), (21, (Value.bool true)), (28, (i64 (cnt x 5))), (31, (Value.bool false)), (35, (Value.bool true)), (61, (Value.bool false)), (67, (Value.bool true)), (75, (Value.bool false)), (76, (Value.pointer (some ⟨b1, 0, none⟩)))] (j := 6) (by kernel_rfl) (by kernel_rfl) ?_
                refine Ops.call (by kernel_rfl) (d := (some 77)) (by kernel_rfl) (At_calls _ b1 A2 c3 ((R.bool_).2) hok157 H187 F188 hne9) ?_
                rintro _ w190 ⟨rfl, K191⟩
                refine ⟨_, _, rfl, rfl, ?_⟩
                have K192 := K186.trans K191 (U := none_) (fun i h1 h2 => h2) (fun i h1 h2 => by exact h2)
                clear K186
                have H193 := H187.keep K191 (fun h => h)
                clear H187
                have F194 := RdO.keep0 F188 K191
                clear F188
                clear K191
                refine Ops.regs 4 [(0, (Value.slice B bs.length bc)), (1, (Value.slice LA l.length lc)), (5, (Value.pointer (some ⟨b1, 0, none⟩))), (6, (i64 (((R.bool_).2).end_))), (7, (i64 ((((R.bool_).2).pos : Nat) : Int))), (8, (i64 ((i : Nat) : Int))), (9, (i64 (((R.bool_).2).end_))), (21, (Value.bool true)), (28, (i64 (cnt x 5))), (31, (Value.bool false)), (35, (Value.bool true)), (61, (Value.bool false)), (67, (Value.bool true)), (81, (Value.bool (decide (((((R.bool_).2).pos : Nat) : Int) > ((bs.length : Nat) : Int)))))] (j := 11) (by kernel_rfl) (by kernel_rfl) ?_
                refine Ops.done (by kernel_rfl) ?_
                have h195 : (decide (((((R.bool_).2).pos : Nat) : Int) > ((bs.length : Nat) : Int))) = false := decide_eq_false (by omega)
                rw [h195]
                refine q_else (o := .tmp 81) (by kernel_rfl) rfl ?_
                refine q_skip (by kernel_rfl) ?_
                refine q_region (by kernel_rfl) ?_
                refine Ops.regs 2 [(0, (Value.slice B bs.length bc)), (1, (Value.slice LA l.length lc)), (5, (Value.pointer (some ⟨b1, 0, none⟩))), (6, (i64 (((R.bool_).2).end_))), (7, (i64 ((((R.bool_).2).pos : Nat) : Int))), (8, (i64 ((i : Nat) : Int))), (9, (i64 (((R.bool_).2).end_))), (21, (Value.bool true)), (23, (i64 (IntKind.i64.wrap (((i : Nat) : Int) + 1)))), (28, (i64 (cnt x 5))), (31, (Value.bool false)), (35, (Value.bool true)), (61, (Value.bool false)), (67, (Value.bool true)), (81, (Value.bool false))] (j := 2) (by kernel_rfl) (by kernel_rfl) ?_
                have e196 : IntKind.i64.wrap (((i : Nat) : Int) + 1) = ((i + 1 : Nat) : Int) := by rw [wrap_i64 (by omega) (by omega)]; omega
                rw [e196]
                clear e196
                refine Ops.regs 1 [(0, (Value.slice B bs.length bc)), (1, (Value.slice LA l.length lc)), (5, (Value.pointer (some ⟨b1, 0, none⟩))), (6, (i64 (((R.bool_).2).end_))), (7, (i64 ((((R.bool_).2).pos : Nat) : Int))), (8, (i64 ((i + 1 : Nat) : Int))), (9, (i64 (((R.bool_).2).end_))), (21, (Value.bool true)), (28, (i64 (cnt x 5))), (31, (Value.bool false)), (35, (Value.bool true)), (61, (Value.bool false)), (67, (Value.bool true)), (81, (Value.bool false))] (j := 3) (by kernel_rfl) (by kernel_rfl) ?_
                refine Ops.keep (R := [(0, (Value.slice B bs.length bc)), (1, (Value.slice LA l.length lc)), (5, (Value.pointer (some ⟨b1, 0, none⟩))), (6, (i64 (((R.bool_).2).end_))), (7, (i64 ((((R.bool_).2).pos : Nat) : Int))), (8, (i64 ((i + 1 : Nat) : Int)))]) (by kernel_rfl) ?_
                refine Ops.done (by kernel_rfl) ?_
                exact ⟨(i + 1, (R.bool_).2, ((R.bool_).2).end_, ((R.bool_).2).pos), ⟨rfl, F194, hok157, (hgb.trans hbs), (by omega), (by omega), (by omega), (by omega), K192, H193⟩, (show 60 - (i + 1) < 60 - i from by omega)⟩
              · rw [h177]
                have p197 : ((R.bool_).2).end_ = 11 := of_bne_f h177
                refine q_skip (by kernel_rfl) ?_
                refine q_seq (by kernel_rfl) ?_
                refine q_region (by kernel_rfl) ?_
                refine Ops.regs 1 [(0, (Value.slice B bs.length bc)), (1, (Value.slice LA l.length lc)), (5, (Value.pointer (some ⟨b1, 0, none⟩))), (6, (i64 bad)), (7, (i64 ((ax : Nat) : Int))), (8, (i64 ((i : Nat) : Int))), (9, (i64 (((R.bool_).2).end_))), (21, (Value.bool true)), (28, (i64 (cnt x 5))), (31, (Value.bool false)), (35, (Value.bool true)), (61, (Value.bool false)), (67, (Value.bool false)), (71, (Value.pointer (some ⟨b1, 0, none⟩)))] (j := 1) (by kernel_rfl) (by kernel_rfl) ?_
                refine Ops.call (by kernel_rfl) (d := (some 72)) (by kernel_rfl) (At_calls _ b1 A2 c3 ((R.bool_).2) hok157 H172 F173 hne9) ?_
                rintro _ w198 ⟨rfl, K199⟩
                refine ⟨_, _, rfl, rfl, ?_⟩
                have K200 := K171.trans K199 (U := none_) (fun i h1 h2 => h2) (fun i h1 h2 => by exact h2)
                clear K171
                have H201 := H172.keep K199 (fun h => h)
                clear H172
                have F202 := RdO.keep0 F173 K199
                clear F173
                clear K199
                refine Ops.regs 3 [(0, (Value.slice B bs.length bc)), (1, (Value.slice LA l.length lc)), (5, (Value.pointer (some ⟨b1, 0, none⟩))), (6, (i64 bad)), (7, (i64 ((ax : Nat) : Int))), (8, (i64 ((i : Nat) : Int))), (9, (i64 (((R.bool_).2).end_))), (21, (Value.bool true)), (28, (i64 (cnt x 5))), (31, (Value.bool false)), (35, (Value.bool true)), (61, (Value.bool false)), (67, (Value.bool false)), (75, (Value.bool (decide (((((R.bool_).2).pos : Nat) : Int) < ((ax : Nat) : Int)))))] (j := 5) (by kernel_rfl) (by kernel_rfl) ?_
                have h203 : (decide (((((R.bool_).2).pos : Nat) : Int) < ((ax : Nat) : Int))) = false := decide_eq_false (by omega)
                rw [h203]
                refine Ops.regs 1 [(0, (Value.slice B bs.length bc)), (1, (Value.slice LA l.length lc)), (5, (Value.pointer (some ⟨b1, 0, none⟩))), (6, (i64 bad)), (7, (i64 ((ax : Nat) : Int))), (8, (i64 ((i : Nat) : Int))), (9, (i64 (((R.bool_).2).end_))), (21, (Value.bool true)), (28, (i64 (cnt x 5))), (31, (Value.bool false)), (35, (Value.bool true)), (61, (Value.bool false)), (67, (Value.bool false)), (75, (Value.bool false)), (76, (Value.pointer (some ⟨b1, 0, none⟩)))] (j := 6) (by kernel_rfl) (by kernel_rfl) ?_
                refine Ops.call (by kernel_rfl) (d := (some 77)) (by kernel_rfl) (At_calls _ b1 A2 c3 ((R.bool_).2) hok157 H201 F202 hne9) ?_
                rintro _ w204 ⟨rfl, K205⟩
                refine ⟨_, _, rfl, rfl, ?_⟩
                have K206 := K200.trans K205 (U := none_) (fun i h1 h2 => h2) (fun i h1 h2 => by exact h2)
                clear K200
                have H207 := H201.keep K205 (fun h => h)
                clear H201
                have F208 := RdO.keep0 F202 K205
                clear F202
                clear K205
                refine Ops.regs 4 [(0, (Value.slice B bs.length bc)), (1, (Value.slice LA l.length lc)), (5, (Value.pointer (some ⟨b1, 0, none⟩))), (6, (i64 bad)), (7, (i64 ((ax : Nat) : Int))), (8, (i64 ((i : Nat) : Int))), (9, (i64 (((R.bool_).2).end_))), (21, (Value.bool true)), (28, (i64 (cnt x 5))), (31, (Value.bool false)), (35, (Value.bool true)), (61, (Value.bool false)), (67, (Value.bool false)), (81, (Value.bool (decide (((((R.bool_).2).pos : Nat) : Int) > ((bs.length : Nat) : Int)))))] (j := 11) (by kernel_rfl) (by kernel_rfl) ?_
                refine Ops.done (by kernel_rfl) ?_
                have h209 : (decide (((((R.bool_).2).pos : Nat) : Int) > ((bs.length : Nat) : Int))) = false := decide_eq_false (by omega)
                rw [h209]
                refine q_else (o := .tmp 81) (by kernel_rfl) rfl ?_
                refine q_skip (by kernel_rfl) ?_
                refine q_region (by kernel_rfl) ?_
                refine Ops.regs 2 [(0, (Value.slice B bs.length bc)), (1, (Value.slice LA l.length lc)), (5, (Value.pointer (some ⟨b1, 0, none⟩))), (6, (i64 bad)), (7, (i64 ((ax : Nat) : Int))), (8, (i64 ((i : Nat) : Int))), (9, (i64 (((R.bool_).2).end_))), (21, (Value.bool true)), (23, (i64 (IntKind.i64.wrap (((i : Nat) : Int) + 1)))), (28, (i64 (cnt x 5))), (31, (Value.bool false)), (35, (Value.bool true)), (61, (Value.bool false)), (67, (Value.bool false)), (81, (Value.bool false))] (j := 2) (by kernel_rfl) (by kernel_rfl) ?_
                have e210 : IntKind.i64.wrap (((i : Nat) : Int) + 1) = ((i + 1 : Nat) : Int) := by rw [wrap_i64 (by omega) (by omega)]; omega
                rw [e210]
                clear e210
                refine Ops.regs 1 [(0, (Value.slice B bs.length bc)), (1, (Value.slice LA l.length lc)), (5, (Value.pointer (some ⟨b1, 0, none⟩))), (6, (i64 bad)), (7, (i64 ((ax : Nat) : Int))), (8, (i64 ((i + 1 : Nat) : Int))), (9, (i64 (((R.bool_).2).end_))), (21, (Value.bool true)), (28, (i64 (cnt x 5))), (31, (Value.bool false)), (35, (Value.bool true)), (61, (Value.bool false)), (67, (Value.bool false)), (81, (Value.bool false))] (j := 3) (by kernel_rfl) (by kernel_rfl) ?_
                refine Ops.keep (R := [(0, (Value.slice B bs.length bc)), (1, (Value.slice LA l.length lc)), (5, (Value.pointer (some ⟨b1, 0, none⟩))), (6, (i64 bad)), (7, (i64 ((ax : Nat) : Int))), (8, (i64 ((i + 1 : Nat) : Int)))]) (by kernel_rfl) ?_
                refine Ops.done (by kernel_rfl) ?_
                exact ⟨(i + 1, (R.bool_).2, bad, ax), ⟨rfl, F208, hok157, (hgb.trans hbs), (by omega), (by omega), (by omega), (by omega), K206, H207⟩, (show 60 - (i + 1) < 60 - i from by omega)⟩
            · rw [h175]
              have p211 : ((R.bool_).2).end_ = 0 := of_bne_f h175
              refine Ops.regs 3 [(0, (Value.slice B bs.length bc)), (1, (Value.slice LA l.length lc)), (5, (Value.pointer (some ⟨b1, 0, none⟩))), (6, (i64 bad)), (7, (i64 ((ax : Nat) : Int))), (8, (i64 ((i : Nat) : Int))), (9, (i64 (((R.bool_).2).end_))), (21, (Value.bool true)), (28, (i64 (cnt x 5))), (31, (Value.bool false)), (35, (Value.bool true)), (61, (Value.bool false)), (67, (Value.bool false))] (j := 6) (by kernel_rfl) (by kernel_rfl) ?_
              refine Ops.done (by kernel_rfl) ?_
              refine q_else (o := .tmp 67) (by kernel_rfl) rfl ?_
              refine q_skip (by kernel_rfl) ?_
              refine q_seq (by kernel_rfl) ?_
              refine q_region (by kernel_rfl) ?_
              refine Ops.regs 1 [(0, (Value.slice B bs.length bc)), (1, (Value.slice LA l.length lc)), (5, (Value.pointer (some ⟨b1, 0, none⟩))), (6, (i64 bad)), (7, (i64 ((ax : Nat) : Int))), (8, (i64 ((i : Nat) : Int))), (9, (i64 (((R.bool_).2).end_))), (21, (Value.bool true)), (28, (i64 (cnt x 5))), (31, (Value.bool false)), (35, (Value.bool true)), (61, (Value.bool false)), (67, (Value.bool false)), (71, (Value.pointer (some ⟨b1, 0, none⟩)))] (j := 1) (by kernel_rfl) (by kernel_rfl) ?_
              refine Ops.call (by kernel_rfl) (d := (some 72)) (by kernel_rfl) (At_calls _ b1 A2 c3 ((R.bool_).2) hok157 H172 F173 hne9) ?_
              rintro _ w212 ⟨rfl, K213⟩
              refine ⟨_, _, rfl, rfl, ?_⟩
              have K214 := K171.trans K213 (U := none_) (fun i h1 h2 => h2) (fun i h1 h2 => by exact h2)
              clear K171
              have H215 := H172.keep K213 (fun h => h)
              clear H172
              have F216 := RdO.keep0 F173 K213
              clear F173
              clear K213
              refine Ops.regs 3 [(0, (Value.slice B bs.length bc)), (1, (Value.slice LA l.length lc)), (5, (Value.pointer (some ⟨b1, 0, none⟩))), (6, (i64 bad)), (7, (i64 ((ax : Nat) : Int))), (8, (i64 ((i : Nat) : Int))), (9, (i64 (((R.bool_).2).end_))), (21, (Value.bool true)), (28, (i64 (cnt x 5))), (31, (Value.bool false)), (35, (Value.bool true)), (61, (Value.bool false)), (67, (Value.bool false)), (75, (Value.bool (decide (((((R.bool_).2).pos : Nat) : Int) < ((ax : Nat) : Int)))))] (j := 5) (by kernel_rfl) (by kernel_rfl) ?_
              have h217 : (decide (((((R.bool_).2).pos : Nat) : Int) < ((ax : Nat) : Int))) = false := decide_eq_false (by omega)
              rw [h217]
              refine Ops.regs 1 [(0, (Value.slice B bs.length bc)), (1, (Value.slice LA l.length lc)), (5, (Value.pointer (some ⟨b1, 0, none⟩))), (6, (i64 bad)), (7, (i64 ((ax : Nat) : Int))), (8, (i64 ((i : Nat) : Int))), (9, (i64 (((R.bool_).2).end_))), (21, (Value.bool true)), (28, (i64 (cnt x 5))), (31, (Value.bool false)), (35, (Value.bool true)), (61, (Value.bool false)), (67, (Value.bool false)), (75, (Value.bool false)), (76, (Value.pointer (some ⟨b1, 0, none⟩)))] (j := 6) (by kernel_rfl) (by kernel_rfl) ?_
              refine Ops.call (by kernel_rfl) (d := (some 77)) (by kernel_rfl) (At_calls _ b1 A2 c3 ((R.bool_).2) hok157 H215 F216 hne9) ?_
              rintro _ w218 ⟨rfl, K219⟩
              refine ⟨_, _, rfl, rfl, ?_⟩
              have K220 := K214.trans K219 (U := none_) (fun i h1 h2 => h2) (fun i h1 h2 => by exact h2)
              clear K214
              have H221 := H215.keep K219 (fun h => h)
              clear H215
              have F222 := RdO.keep0 F216 K219
              clear F216
              clear K219
              refine Ops.regs 4 [(0, (Value.slice B bs.length bc)), (1, (Value.slice LA l.length lc)), (5, (Value.pointer (some ⟨b1, 0, none⟩))), (6, (i64 bad)), (7, (i64 ((ax : Nat) : Int))), (8, (i64 ((i : Nat) : Int))), (9, (i64 (((R.bool_).2).end_))), (21, (Value.bool true)), (28, (i64 (cnt x 5))), (31, (Value.bool false)), (35, (Value.bool true)), (61, (Value.bool false)), (67, (Value.bool false)), (81, (Value.bool (decide (((((R.bool_).2).pos : Nat) : Int) > ((bs.length : Nat) : Int)))))] (j := 11) (by kernel_rfl) (by kernel_rfl) ?_
              refine Ops.done (by kernel_rfl) ?_
              have h223 : (decide (((((R.bool_).2).pos : Nat) : Int) > ((bs.length : Nat) : Int))) = false := decide_eq_false (by omega)
              rw [h223]
              refine q_else (o := .tmp 81) (by kernel_rfl) rfl ?_
              refine q_skip (by kernel_rfl) ?_
              refine q_region (by kernel_rfl) ?_
              refine Ops.regs 2 [(0, (Value.slice B bs.length bc)), (1, (Value.slice LA l.length lc)), (5, (Value.pointer (some ⟨b1, 0, none⟩))), (6, (i64 bad)), (7, (i64 ((ax : Nat) : Int))), (8, (i64 ((i : Nat) : Int))), (9, (i64 (((R.bool_).2).end_))), (21, (Value.bool true)), (23, (i64 (IntKind.i64.wrap (((i : Nat) : Int) + 1)))), (28, (i64 (cnt x 5))), (31, (Value.bool false)), (35, (Value.bool true)), (61, (Value.bool false)), (67, (Value.bool false)), (81, (Value.bool false))] (j := 2) (by kernel_rfl) (by kernel_rfl) ?_
              have e224 : IntKind.i64.wrap (((i : Nat) : Int) + 1) = ((i + 1 : Nat) : Int) := by rw [wrap_i64 (by omega) (by omega)]; omega
              rw [e224]
              clear e224
              refine Ops.regs 1 [(0, (Value.slice B bs.length bc)), (1, (Value.slice LA l.length lc)), (5, (Value.pointer (some ⟨b1, 0, none⟩))), (6, (i64 bad)), (7, (i64 ((ax : Nat) : Int))), (8, (i64 ((i + 1 : Nat) : Int))), (9, (i64 (((R.bool_).2).end_))), (21, (Value.bool true)), (28, (i64 (cnt x 5))), (31, (Value.bool false)), (35, (Value.bool true)), (61, (Value.bool false)), (67, (Value.bool false)), (81, (Value.bool false))] (j := 3) (by kernel_rfl) (by kernel_rfl) ?_
              refine Ops.keep (R := [(0, (Value.slice B bs.length bc)), (1, (Value.slice LA l.length lc)), (5, (Value.pointer (some ⟨b1, 0, none⟩))), (6, (i64 bad)), (7, (i64 ((ax : Nat) : Int))), (8, (i64 ((i + 1 : Nat) : Int)))]) (by kernel_rfl) ?_
              refine Ops.done (by kernel_rfl) ?_
              exact ⟨(i + 1, (R.bool_).2, bad, ax), ⟨rfl, F222, hok157, (hgb.trans hbs), (by omega), (by omega), (by omega), (by omega), K220, H221⟩, (show 60 - (i + 1) < 60 - i from by omega)⟩
          · rw [h166]
            have p225 : bad = 0 := of_bne_f h166
            refine Ops.regs 10 [(0, (Value.slice B bs.length bc)), (1, (Value.slice LA l.length lc)), (5, (Value.pointer (some ⟨b1, 0, none⟩))), (6, (i64 bad)), (7, (i64 ((ax : Nat) : Int))), (8, (i64 ((i : Nat) : Int))), (9, (i64 (((R.bool_).2).end_))), (21, (Value.bool true)), (28, (i64 (cnt x 5))), (31, (Value.bool false)), (35, (Value.bool true)), (61, (Value.bool false))] (j := 13) (by kernel_rfl) (by kernel_rfl) ?_
            refine Ops.done (by kernel_rfl) ?_
            refine q_else (o := .tmp 61) (by kernel_rfl) rfl ?_
            refine q_skip (by kernel_rfl) ?_
            refine q_seq (by kernel_rfl) ?_
            refine q_seq (by kernel_rfl) ?_
            refine q_region (by kernel_rfl) ?_
            refine Ops.regs 3 [(0, (Value.slice B bs.length bc)), (1, (Value.slice LA l.length lc)), (5, (Value.pointer (some ⟨b1, 0, none⟩))), (6, (i64 bad)), (7, (i64 ((ax : Nat) : Int))), (8, (i64 ((i : Nat) : Int))), (9, (i64 (((R.bool_).2).end_))), (21, (Value.bool true)), (28, (i64 (cnt x 5))), (31, (Value.bool false)), (35, (Value.bool true)), (61, (Value.bool false)), (64, (Value.bool ((((R.bool_).2).end_) != 0)))] (j := 3) (by kernel_rfl) (by kernel_rfl) ?_
            refine Ops.split ((((R.bool_).2).end_) != 0) (fun h226 => ?_) (fun h226 => ?_)
            · rw [h226]
              have p227 : ¬ (((R.bool_).2).end_ = 0) := of_bne_t h226
              refine Ops.regs 3 [(0, (Value.slice B bs.length bc)), (1, (Value.slice LA l.length lc)), (5, (Value.pointer (some ⟨b1, 0, none⟩))), (6, (i64 bad)), (7, (i64 ((ax : Nat) : Int))), (8, (i64 ((i : Nat) : Int))), (9, (i64 (((R.bool_).2).end_))), (21, (Value.bool true)), (28, (i64 (cnt x 5))), (31, (Value.bool false)), (35, (Value.bool true)), (61, (Value.bool false)), (67, (Value.bool ((((R.bool_).2).end_) != 11)))] (j := 6) (by kernel_rfl) (by kernel_rfl) ?_
              refine Ops.done (by kernel_rfl) ?_
              refine q_cond (o := .tmp 67) (b := ((((R.bool_).2).end_) != 11)) (by kernel_rfl) rfl (fun h228 => ?_) (fun h228 => ?_)
              · rw [h228]
                have p229 : ¬ (((R.bool_).2).end_ = 11) := of_bne_t h228
                refine q_seq (by kernel_rfl) ?_
                refine q_region (by kernel_rfl) ?_
                refine Ops.regs 2 [(0, (Value.slice B bs.length bc)), (1, (Value.slice LA l.length lc)), (5, (Value.pointer (some ⟨b1, 0, none⟩))), (6, (i64 (((R.bool_).2).end_))), (7, (i64 ((ax : Nat) : Int))), (8, (i64 ((i : Nat) : Int))), (9, (i64 (((R.bool_).2).end_))), (21, (Value.bool true)), (28, (i64 (cnt x 5))), (31, (Value.bool false)), (35, (Value.bool true)), (61, (Value.bool false)), (67, (Value.bool true))] (j := 2) (by kernel_rfl) (by kernel_rfl) ?_
                refine Ops.done (by kernel_rfl) ?_
                refine q_region (by kernel_rfl) ?_
                refine Ops.regs 1 [(0, (Value.slice B bs.length bc)), (1, (Value.slice LA l.length lc)), (5, (Value.pointer (some ⟨b1, 0, none⟩))), (6, (i64 (((R.bool_).2).end_))), (7, (i64 ((ax : Nat) : Int))), (8, (i64 ((i : Nat) : Int))), (9, (i64 (((R.bool_).2).end_))), (21, (Value.bool true)), (28, (i64 (cnt x 5))), (31, (Value.bool false)), (35, (Value.bool true)), (61, (Value.bool false)), (67, (Value.bool true)), (69, (Value.pointer (some ⟨b1, 0, none⟩)))] (j := 1) (by kernel_rfl) (by kernel_rfl) ?_
                refine Ops.call (by kernel_rfl) (d := (some 70)) (by kernel_rfl) (At_calls _ b1 A2 c3 ((R.bool_).2) hok157 H164 F165 hne9) ?_
                rintro _ w230 ⟨rfl, K231⟩
                refine ⟨_, _, rfl, rfl, ?_⟩
                have K232 := K163.trans K231 (U := none_) (fun i h1 h2 => h2) (fun i h1 h2 => by exact h2)
                clear K163
                have H233 := H164.keep K231 (fun h => h)
                clear H164
                have F234 := RdO.keep0 F165 K231
                clear F165
                clear K231
                refine Ops.regs 1 [(0, (Value.slice B bs.length bc)), (1, (Value.slice LA l.length lc)), (5, (Value.pointer (some ⟨b1, 0, none⟩))), (6, (i64 (((R.bool_).2).end_))), (7, (i64 ((((R.bool_).2).pos : Nat) : Int))), (8, (i64 ((i : Nat) : Int))), (9, (i64 (((R.bool_).2).end_))), (21, (Value.bool true)), (28, (i64 (cnt x 5))), (31, (Value.bool false)), (35, (Value.bool true)), (61, (Value.bool false)), (67, (Value.bool true))] (j := 3) (by kernel_rfl) (by kernel_rfl) ?_
                refine Ops.done (by kernel_rfl) ?_
                refine q_seq (by kernel_rfl) ?_
                refine q_region (by kernel_rfl) ?_
                refine Ops.regs 1 [(0, (Value.slice B bs.length bc)), (1, (Value.slice LA l.length lc)), (5, (Value.pointer (some ⟨b1, 0, none⟩))), (6, (i64 (((R.bool_).2).end_))), (7, (i64 ((((R.bool_).2).pos : Nat) : Int))), (8, (i64 ((i : Nat) : Int))), (9, (i64 (((R.bool_).2).end_))), (21, (Value.bool true)), (28, (i64 (cnt x 5))), (31, (Value.bool false)), (35, (Value.bool true)), (61, (Value.bool false)), (67, (Value.bool true)), (71, (Value.pointer (some ⟨b1, 0, none⟩)))] (j := 1) (by kernel_rfl) (by kernel_rfl) ?_
                refine Ops.call (by kernel_rfl) (d := (some 72)) (by kernel_rfl) (At_calls _ b1 A2 c3 ((R.bool_).2) hok157 H233 F234 hne9) ?_
                rintro _ w235 ⟨rfl, K236⟩
                refine ⟨_, _, rfl, rfl, ?_⟩
                have K237 := K232.trans K236 (U := none_) (fun i h1 h2 => h2) (fun i h1 h2 => by exact h2)
                clear K232
                have H238 := H233.keep K236 (fun h => h)
                clear H233
                have F239 := RdO.keep0 F234 K236
                clear F234
                clear K236
                refine Ops.regs 3 [(0, (Value.slice B bs.length bc)), (1, (Value.slice LA l.length lc)), (5, (Value.pointer (some ⟨b1, 0, none⟩))), (6, (i64 (((R.bool_).2).end_))), (7, (i64 ((((R.bool_).2).pos : Nat) : Int))), (8, (i64 ((i : Nat) : Int))), (9, (i64 (((R.bool_).2).end_))), (21, (Value.bool true)), (28, (i64 (cnt x 5))), (31, (Value.bool false)), (35, (Value.bool true)), (61, (Value.bool false)), (67, (Value.bool true)), (75, (Value.bool (decide (((((R.bool_).2).pos : Nat) : Int) < ((((R.bool_).2).pos : Nat) : Int)))))] (j := 5) (by kernel_rfl) (by kernel_rfl) ?_
                have h240 : (decide (((((R.bool_).2).pos : Nat) : Int) < ((((R.bool_).2).pos : Nat) : Int))) = false := decide_eq_false (by omega)
                rw [h240]
                refine Ops.regs 1 [(0, (Value.slice B bs.length bc)), (1, (Value.slice LA l.length lc)), (5, (Value.pointer (some ⟨b1, 0, none⟩))), (6, (i64 (((R.bool_).2).end_))), (7, (i64 ((((R.bool_).2).pos : Nat) : Int))), (8, (i64 ((i : Nat) : Int))), (9, (i64 (((R.bool_).2).end_))), (21, (Value.bool true)), (28, (i64 (cnt x 5))), (31, (Value.bool false)), (35, (Value.bool true)), (61, (Value.bool false)), (67, (Value.bool true)), (75, (Value.bool false)), (76, (Value.pointer (some ⟨b1, 0, none⟩)))] (j := 6) (by kernel_rfl) (by kernel_rfl) ?_
                refine Ops.call (by kernel_rfl) (d := (some 77)) (by kernel_rfl) (At_calls _ b1 A2 c3 ((R.bool_).2) hok157 H238 F239 hne9) ?_
                rintro _ w241 ⟨rfl, K242⟩
                refine ⟨_, _, rfl, rfl, ?_⟩
                have K243 := K237.trans K242 (U := none_) (fun i h1 h2 => h2) (fun i h1 h2 => by exact h2)
                clear K237
                have H244 := H238.keep K242 (fun h => h)
                clear H238
                have F245 := RdO.keep0 F239 K242
                clear F239
                clear K242
                refine Ops.regs 4 [(0, (Value.slice B bs.length bc)), (1, (Value.slice LA l.length lc)), (5, (Value.pointer (some ⟨b1, 0, none⟩))), (6, (i64 (((R.bool_).2).end_))), (7, (i64 ((((R.bool_).2).pos : Nat) : Int))), (8, (i64 ((i : Nat) : Int))), (9, (i64 (((R.bool_).2).end_))), (21, (Value.bool true)), (28, (i64 (cnt x 5))), (31, (Value.bool false)), (35, (Value.bool true)), (61, (Value.bool false)), (67, (Value.bool true)), (81, (Value.bool (decide (((((R.bool_).2).pos : Nat) : Int) > ((bs.length : Nat) : Int)))))] (j := 11) (by kernel_rfl) (by kernel_rfl) ?_
                refine Ops.done (by kernel_rfl) ?_
                have h246 : (decide (((((R.bool_).2).pos : Nat) : Int) > ((bs.length : Nat) : Int))) = false := decide_eq_false (by omega)
                rw [h246]
                refine q_else (o := .tmp 81) (by kernel_rfl) rfl ?_
                refine q_skip (by kernel_rfl) ?_
                refine q_region (by kernel_rfl) ?_
                refine Ops.regs 2 [(0, (Value.slice B bs.length bc)), (1, (Value.slice LA l.length lc)), (5, (Value.pointer (some ⟨b1, 0, none⟩))), (6, (i64 (((R.bool_).2).end_))), (7, (i64 ((((R.bool_).2).pos : Nat) : Int))), (8, (i64 ((i : Nat) : Int))), (9, (i64 (((R.bool_).2).end_))), (21, (Value.bool true)), (23, (i64 (IntKind.i64.wrap (((i : Nat) : Int) + 1)))), (28, (i64 (cnt x 5))), (31, (Value.bool false)), (35, (Value.bool true)), (61, (Value.bool false)), (67, (Value.bool true)), (81, (Value.bool false))] (j := 2) (by kernel_rfl) (by kernel_rfl) ?_
                have e247 : IntKind.i64.wrap (((i : Nat) : Int) + 1) = ((i + 1 : Nat) : Int) := by rw [wrap_i64 (by omega) (by omega)]; omega
                rw [e247]
                clear e247
                refine Ops.regs 1 [(0, (Value.slice B bs.length bc)), (1, (Value.slice LA l.length lc)), (5, (Value.pointer (some ⟨b1, 0, none⟩))), (6, (i64 (((R.bool_).2).end_))), (7, (i64 ((((R.bool_).2).pos : Nat) : Int))), (8, (i64 ((i + 1 : Nat) : Int))), (9, (i64 (((R.bool_).2).end_))), (21, (Value.bool true)), (28, (i64 (cnt x 5))), (31, (Value.bool false)), (35, (Value.bool true)), (61, (Value.bool false)), (67, (Value.bool true)), (81, (Value.bool false))] (j := 3) (by kernel_rfl) (by kernel_rfl) ?_
                refine Ops.keep (R := [(0, (Value.slice B bs.length bc)), (1, (Value.slice LA l.length lc)), (5, (Value.pointer (some ⟨b1, 0, none⟩))), (6, (i64 (((R.bool_).2).end_))), (7, (i64 ((((R.bool_).2).pos : Nat) : Int))), (8, (i64 ((i + 1 : Nat) : Int)))]) (by kernel_rfl) ?_
                refine Ops.done (by kernel_rfl) ?_
                exact ⟨(i + 1, (R.bool_).2, ((R.bool_).2).end_, ((R.bool_).2).pos), ⟨rfl, F245, hok157, (hgb.trans hbs), (by omega), (by omega), (by omega), (by omega), K243, H244⟩, (show 60 - (i + 1) < 60 - i from by omega)⟩
              · rw [h228]
                have p248 : ((R.bool_).2).end_ = 11 := of_bne_f h228
                refine q_skip (by kernel_rfl) ?_
                refine q_seq (by kernel_rfl) ?_
                refine q_region (by kernel_rfl) ?_
                refine Ops.regs 1 [(0, (Value.slice B bs.length bc)), (1, (Value.slice LA l.length lc)), (5, (Value.pointer (some ⟨b1, 0, none⟩))), (6, (i64 bad)), (7, (i64 ((ax : Nat) : Int))), (8, (i64 ((i : Nat) : Int))), (9, (i64 (((R.bool_).2).end_))), (21, (Value.bool true)), (28, (i64 (cnt x 5))), (31, (Value.bool false)), (35, (Value.bool true)), (61, (Value.bool false)), (67, (Value.bool false)), (71, (Value.pointer (some ⟨b1, 0, none⟩)))] (j := 1) (by kernel_rfl) (by kernel_rfl) ?_
                refine Ops.call (by kernel_rfl) (d := (some 72)) (by kernel_rfl) (At_calls _ b1 A2 c3 ((R.bool_).2) hok157 H164 F165 hne9) ?_
                rintro _ w249 ⟨rfl, K250⟩
                refine ⟨_, _, rfl, rfl, ?_⟩
                have K251 := K163.trans K250 (U := none_) (fun i h1 h2 => h2) (fun i h1 h2 => by exact h2)
                clear K163
                have H252 := H164.keep K250 (fun h => h)
                clear H164
                have F253 := RdO.keep0 F165 K250
                clear F165
                clear K250
                refine Ops.regs 3 [(0, (Value.slice B bs.length bc)), (1, (Value.slice LA l.length lc)), (5, (Value.pointer (some ⟨b1, 0, none⟩))), (6, (i64 bad)), (7, (i64 ((ax : Nat) : Int))), (8, (i64 ((i : Nat) : Int))), (9, (i64 (((R.bool_).2).end_))), (21, (Value.bool true)), (28, (i64 (cnt x 5))), (31, (Value.bool false)), (35, (Value.bool true)), (61, (Value.bool false)), (67, (Value.bool false)), (75, (Value.bool (decide (((((R.bool_).2).pos : Nat) : Int) < ((ax : Nat) : Int)))))] (j := 5) (by kernel_rfl) (by kernel_rfl) ?_
                have h254 : (decide (((((R.bool_).2).pos : Nat) : Int) < ((ax : Nat) : Int))) = false := decide_eq_false (by omega)
                rw [h254]
                refine Ops.regs 1 [(0, (Value.slice B bs.length bc)), (1, (Value.slice LA l.length lc)), (5, (Value.pointer (some ⟨b1, 0, none⟩))), (6, (i64 bad)), (7, (i64 ((ax : Nat) : Int))), (8, (i64 ((i : Nat) : Int))), (9, (i64 (((R.bool_).2).end_))), (21, (Value.bool true)), (28, (i64 (cnt x 5))), (31, (Value.bool false)), (35, (Value.bool true)), (61, (Value.bool false)), (67, (Value.bool false)), (75, (Value.bool false)), (76, (Value.pointer (some ⟨b1, 0, none⟩)))] (j := 6) (by kernel_rfl) (by kernel_rfl) ?_
                refine Ops.call (by kernel_rfl) (d := (some 77)) (by kernel_rfl) (At_calls _ b1 A2 c3 ((R.bool_).2) hok157 H252 F253 hne9) ?_
                rintro _ w255 ⟨rfl, K256⟩
                refine ⟨_, _, rfl, rfl, ?_⟩
                have K257 := K251.trans K256 (U := none_) (fun i h1 h2 => h2) (fun i h1 h2 => by exact h2)
                clear K251
                have H258 := H252.keep K256 (fun h => h)
                clear H252
                have F259 := RdO.keep0 F253 K256
                clear F253
                clear K256
                refine Ops.regs 4 [(0, (Value.slice B bs.length bc)), (1, (Value.slice LA l.length lc)), (5, (Value.pointer (some ⟨b1, 0, none⟩))), (6, (i64 bad)), (7, (i64 ((ax : Nat) : Int))), (8, (i64 ((i : Nat) : Int))), (9, (i64 (((R.bool_).2).end_))), (21, (Value.bool true)), (28, (i64 (cnt x 5))), (31, (Value.bool false)), (35, (Value.bool true)), (61, (Value.bool false)), (67, (Value.bool false)), (81, (Value.bool (decide (((((R.bool_).2).pos : Nat) : Int) > ((bs.length : Nat) : Int)))))] (j := 11) (by kernel_rfl) (by kernel_rfl) ?_
                refine Ops.done (by kernel_rfl) ?_
                have h260 : (decide (((((R.bool_).2).pos : Nat) : Int) > ((bs.length : Nat) : Int))) = false := decide_eq_false (by omega)
                rw [h260]
                refine q_else (o := .tmp 81) (by kernel_rfl) rfl ?_
                refine q_skip (by kernel_rfl) ?_
                refine q_region (by kernel_rfl) ?_
                refine Ops.regs 2 [(0, (Value.slice B bs.length bc)), (1, (Value.slice LA l.length lc)), (5, (Value.pointer (some ⟨b1, 0, none⟩))), (6, (i64 bad)), (7, (i64 ((ax : Nat) : Int))), (8, (i64 ((i : Nat) : Int))), (9, (i64 (((R.bool_).2).end_))), (21, (Value.bool true)), (23, (i64 (IntKind.i64.wrap (((i : Nat) : Int) + 1)))), (28, (i64 (cnt x 5))), (31, (Value.bool false)), (35, (Value.bool true)), (61, (Value.bool false)), (67, (Value.bool false)), (81, (Value.bool false))] (j := 2) (by kernel_rfl) (by kernel_rfl) ?_
                have e261 : IntKind.i64.wrap (((i : Nat) : Int) + 1) = ((i + 1 : Nat) : Int) := by rw [wrap_i64 (by omega) (by omega)]; omega
                rw [e261]
                clear e261
                refine Ops.regs 1 [(0, (Value.slice B bs.length bc)), (1, (Value.slice LA l.length lc)), (5, (Value.pointer (some ⟨b1, 0, none⟩))), (6, (i64 bad)), (7, (i64 ((ax : Nat) : Int))), (8, (i64 ((i + 1 : Nat) : Int))), (9, (i64 (((R.bool_).2).end_))), (21, (Value.bool true)), (28, (i64 (cnt x 5))), (31, (Value.bool false)), (35, (Value.bool true)), (61, (Value.bool false)), (67, (Value.bool false)), (81, (Value.bool false))] (j := 3) (by kernel_rfl) (by kernel_rfl) ?_
                refine Ops.keep (R := [(0, (Value.slice B bs.length bc)), (1, (Value.slice LA l.length lc)), (5, (Value.pointer (some ⟨b1, 0, none⟩))), (6, (i64 bad)), (7, (i64 ((ax : Nat) : Int))), (8, (i64 ((i + 1 : Nat) : Int)))]) (by kernel_rfl) ?_
                refine Ops.done (by kernel_rfl) ?_
                exact ⟨(i + 1, (R.bool_).2, bad, ax), ⟨rfl, F259, hok157, (hgb.trans hbs), (by omega), (by omega), (by omega), (by omega), K257, H258⟩, (show 60 - (i + 1) < 60 - i from by omega)⟩
            · rw [h226]
              have p262 : ((R.bool_).2).end_ = 0 := of_bne_f h226
              refine Ops.regs 3 [(0, (Value.slice B bs.length bc)), (1, (Value.slice LA l.length lc)), (5, (Value.pointer (some ⟨b1, 0, none⟩))), (6, (i64 bad)), (7, (i64 ((ax : Nat) : Int))), (8, (i64 ((i : Nat) : Int))), (9, (i64 (((R.bool_).2).end_))), (21, (Value.bool true)), (28, (i64 (cnt x 5))), (31, (Value.bool false)), (35, (Value.bool true)), (61, (Value.bool false)), (67, (Value.bool false))] (j := 6) (by kernel_rfl) (by kernel_rfl) ?_
              refine Ops.done (by kernel_rfl) ?_
              refine q_else (o := .tmp 67) (by kernel_rfl) rfl ?_
              refine q_skip (by kernel_rfl) ?_
              refine q_seq (by kernel_rfl) ?_
              refine q_region (by kernel_rfl) ?_
              refine Ops.regs 1 [(0, (Value.slice B bs.length bc)), (1, (Value.slice LA l.length lc)), (5, (Value.pointer (some ⟨b1, 0, none⟩))), (6, (i64 bad)), (7, (i64 ((ax : Nat) : Int))), (8, (i64 ((i : Nat) : Int))), (9, (i64 (((R.bool_).2).end_))), (21, (Value.bool true)), (28, (i64 (cnt x 5))), (31, (Value.bool false)), (35, (Value.bool true)), (61, (Value.bool false)), (67, (Value.bool false)), (71, (Value.pointer (some ⟨b1, 0, none⟩)))] (j := 1) (by kernel_rfl) (by kernel_rfl) ?_
              refine Ops.call (by kernel_rfl) (d := (some 72)) (by kernel_rfl) (At_calls _ b1 A2 c3 ((R.bool_).2) hok157 H164 F165 hne9) ?_
              rintro _ w263 ⟨rfl, K264⟩
              refine ⟨_, _, rfl, rfl, ?_⟩
              have K265 := K163.trans K264 (U := none_) (fun i h1 h2 => h2) (fun i h1 h2 => by exact h2)
              clear K163
              have H266 := H164.keep K264 (fun h => h)
              clear H164
              have F267 := RdO.keep0 F165 K264
              clear F165
              clear K264
              refine Ops.regs 3 [(0, (Value.slice B bs.length bc)), (1, (Value.slice LA l.length lc)), (5, (Value.pointer (some ⟨b1, 0, none⟩))), (6, (i64 bad)), (7, (i64 ((ax : Nat) : Int))), (8, (i64 ((i : Nat) : Int))), (9, (i64 (((R.bool_).2).end_))), (21, (Value.bool true)), (28, (i64 (cnt x 5))), (31, (Value.bool false)), (35, (Value.bool true)), (61, (Value.bool false)), (67, (Value.bool false)), (75, (Value.bool (decide (((((R.bool_).2).pos : Nat) : Int) < ((ax : Nat) : Int)))))] (j := 5) (by kernel_rfl) (by kernel_rfl) ?_
              have h268 : (decide (((((R.bool_).2).pos : Nat) : Int) < ((ax : Nat) : Int))) = false := decide_eq_false (by omega)
              rw [h268]
              refine Ops.regs 1 [(0, (Value.slice B bs.length bc)), (1, (Value.slice LA l.length lc)), (5, (Value.pointer (some ⟨b1, 0, none⟩))), (6, (i64 bad)), (7, (i64 ((ax : Nat) : Int))), (8, (i64 ((i : Nat) : Int))), (9, (i64 (((R.bool_).2).end_))), (21, (Value.bool true)), (28, (i64 (cnt x 5))), (31, (Value.bool false)), (35, (Value.bool true)), (61, (Value.bool false)), (67, (Value.bool false)), (75, (Value.bool false)), (76, (Value.pointer (some ⟨b1, 0, none⟩)))] (j := 6) (by kernel_rfl) (by kernel_rfl) ?_
              refine Ops.call (by kernel_rfl) (d := (some 77)) (by kernel_rfl) (At_calls _ b1 A2 c3 ((R.bool_).2) hok157 H266 F267 hne9) ?_
              rintro _ w269 ⟨rfl, K270⟩
              refine ⟨_, _, rfl, rfl, ?_⟩
              have K271 := K265.trans K270 (U := none_) (fun i h1 h2 => h2) (fun i h1 h2 => by exact h2)
              clear K265
              have H272 := H266.keep K270 (fun h => h)
              clear H266
              have F273 := RdO.keep0 F267 K270
              clear F267
              clear K270
              refine Ops.regs 4 [(0, (Value.slice B bs.length bc)), (1, (Value.slice LA l.length lc)), (5, (Value.pointer (some ⟨b1, 0, none⟩))), (6, (i64 bad)), (7, (i64 ((ax : Nat) : Int))), (8, (i64 ((i : Nat) : Int))), (9, (i64 (((R.bool_).2).end_))), (21, (Value.bool true)), (28, (i64 (cnt x 5))), (31, (Value.bool false)), (35, (Value.bool true)), (61, (Value.bool false)), (67, (Value.bool false)), (81, (Value.bool (decide (((((R.bool_).2).pos : Nat) : Int) > ((bs.length : Nat) : Int)))))] (j := 11) (by kernel_rfl) (by kernel_rfl) ?_
              refine Ops.done (by kernel_rfl) ?_
              have h274 : (decide (((((R.bool_).2).pos : Nat) : Int) > ((bs.length : Nat) : Int))) = false := decide_eq_false (by omega)
              rw [h274]
              refine q_else (o := .tmp 81) (by kernel_rfl) rfl ?_
              refine q_skip (by kernel_rfl) ?_
              refine q_region (by kernel_rfl) ?_
              refine Ops.regs 2 [(0, (Value.slice B bs.length bc)), (1, (Value.slice LA l.length lc)), (5, (Value.pointer (some ⟨b1, 0, none⟩))), (6, (i64 bad)), (7, (i64 ((ax : Nat) : Int))), (8, (i64 ((i : Nat) : Int))), (9, (i64 (((R.bool_).2).end_))), (21, (Value.bool true)), (23, (i64 (IntKind.i64.wrap (((i : Nat) : Int) + 1)))), (28, (i64 (cnt x 5))), (31, (Value.bool false)), (35, (Value.bool true)), (61, (Value.bool false)), (67, (Value.bool false)), (81, (Value.bool false))] (j := 2) (by kernel_rfl) (by kernel_rfl) ?_
              have e275 : IntKind.i64.wrap (((i : Nat) : Int) + 1) = ((i + 1 : Nat) : Int) := by rw [wrap_i64 (by omega) (by omega)]; omega
              rw [e275]
              clear e275
              refine Ops.regs 1 [(0, (Value.slice B bs.length bc)), (1, (Value.slice LA l.length lc)), (5, (Value.pointer (some ⟨b1, 0, none⟩))), (6, (i64 bad)), (7, (i64 ((ax : Nat) : Int))), (8, (i64 ((i + 1 : Nat) : Int))), (9, (i64 (((R.bool_).2).end_))), (21, (Value.bool true)), (28, (i64 (cnt x 5))), (31, (Value.bool false)), (35, (Value.bool true)), (61, (Value.bool false)), (67, (Value.bool false)), (81, (Value.bool false))] (j := 3) (by kernel_rfl) (by kernel_rfl) ?_
              refine Ops.keep (R := [(0, (Value.slice B bs.length bc)), (1, (Value.slice LA l.length lc)), (5, (Value.pointer (some ⟨b1, 0, none⟩))), (6, (i64 bad)), (7, (i64 ((ax : Nat) : Int))), (8, (i64 ((i + 1 : Nat) : Int)))]) (by kernel_rfl) ?_
              refine Ops.done (by kernel_rfl) ?_
              exact ⟨(i + 1, (R.bool_).2, bad, ax), ⟨rfl, F273, hok157, (hgb.trans hbs), (by omega), (by omega), (by omega), (by omega), K271, H272⟩, (show 60 - (i + 1) < 60 - i from by omega)⟩
        · rw [h152]
          have p276 : ¬ (cnt x 5 = 1) := of_beq_f h152
          refine q_seq (by kernel_rfl) ?_
          refine q_region (by kernel_rfl) ?_
          refine Ops.regs 2 [(0, (Value.slice B bs.length bc)), (1, (Value.slice LA l.length lc)), (5, (Value.pointer (some ⟨b1, 0, none⟩))), (6, (i64 bad)), (7, (i64 ((ax : Nat) : Int))), (8, (i64 ((i : Nat) : Int))), (21, (Value.bool true)), (28, (i64 (cnt x 5))), (31, (Value.bool false)), (35, (Value.bool false)), (39, (Value.bool ((cnt x 5) == 2)))] (j := 2) (by kernel_rfl) (by kernel_rfl) ?_
          refine Ops.done (by kernel_rfl) ?_
          refine q_cond (o := .tmp 39) (b := ((cnt x 5) == 2)) (by kernel_rfl) rfl (fun h277 => ?_) (fun h277 => ?_)
          · rw [h277]
            have p278 : cnt x 5 = 2 := of_beq_t h277
            refine q_region (by kernel_rfl) ?_
            refine Ops.regs 1 [(0, (Value.slice B bs.length bc)), (1, (Value.slice LA l.length lc)), (5, (Value.pointer (some ⟨b1, 0, none⟩))), (6, (i64 bad)), (7, (i64 ((ax : Nat) : Int))), (8, (i64 ((i : Nat) : Int))), (21, (Value.bool true)), (28, (i64 (cnt x 5))), (31, (Value.bool false)), (35, (Value.bool false)), (39, (Value.bool true)), (41, (Value.pointer (some ⟨b1, 0, none⟩)))] (j := 1) (by kernel_rfl) (by kernel_rfl) ?_
            refine Ops.call (by kernel_rfl) (d := (some 42)) (by kernel_rfl) (RdText_calls _ b1 A2 c3 R hokR H15 hRd hne9 ) ?_
            rintro _ w279 ⟨rfl, K280, H281⟩
            have hok282 : (R.bytes).2.Ok := Rdr.Ok.bytes hokR
            have hu283 := Rdr.bytes_le hokR
            have hgo := Rdr.goes_bytes R
            have hes := Rdr.end_spec ((R.bytes).2)
            have hgb := hgo.bs
            have hgm := hgo.mono
            have hgp := hgo.pos
            have hgw := hgo.why
            have hgk := hok282.pos
            rw [hgb, hbs] at hgk
            refine ⟨_, _, rfl, rfl, ?_⟩
            have K284 := K14.trans K280 (U := none_) (fun i h1 h2 => h2) (fun i h1 h2 => by have h2 : i = b1 := h2; exfalso; omega)
            clear K14
            have F285 := RdO.keep hRd K280 (fun i _ _ hi hs => by have hs : i = b1 := hs; have := hne9 i _ _ hi; omega)
            clear hRd
            clear K280
            have F286 : RdO w279 A2 c3 (R.bytes).2.bs := by rw [Rdr.bytes_bs]; exact F285
            clear F285
            refine Ops.done (by kernel_rfl) ?_
            refine q_seq (by kernel_rfl) ?_
            refine q_region (by kernel_rfl) ?_
            refine Ops.regs 1 [(0, (Value.slice B bs.length bc)), (1, (Value.slice LA l.length lc)), (5, (Value.pointer (some ⟨b1, 0, none⟩))), (6, (i64 bad)), (7, (i64 ((ax : Nat) : Int))), (8, (i64 ((i : Nat) : Int))), (21, (Value.bool true)), (28, (i64 (cnt x 5))), (31, (Value.bool false)), (35, (Value.bool false)), (39, (Value.bool true)), (47, (Value.pointer (some ⟨b1, 0, none⟩)))] (j := 1) (by kernel_rfl) (by kernel_rfl) ?_
            refine Ops.call (by kernel_rfl) (d := (some 48)) (by kernel_rfl) (RdEnd_calls _ b1 A2 c3 ((R.bytes).2) hok282 H281 F286 hne9) ?_
            rintro _ w287 ⟨rfl, K288⟩
            refine ⟨_, _, rfl, rfl, ?_⟩
            have K289 := K284.trans K288 (U := none_) (fun i h1 h2 => h2) (fun i h1 h2 => by exact h2)
            clear K284
            have H290 := H281.keep K288 (fun h => h)
            clear H281
            have F291 := RdO.keep0 F286 K288
            clear F286
            clear K288
            refine Ops.regs 1 [(0, (Value.slice B bs.length bc)), (1, (Value.slice LA l.length lc)), (5, (Value.pointer (some ⟨b1, 0, none⟩))), (6, (i64 bad)), (7, (i64 ((ax : Nat) : Int))), (8, (i64 ((i : Nat) : Int))), (9, (i64 (((R.bytes).2).end_))), (21, (Value.bool true)), (28, (i64 (cnt x 5))), (31, (Value.bool false)), (35, (Value.bool false)), (39, (Value.bool true))] (j := 3) (by kernel_rfl) (by kernel_rfl) ?_
            refine Ops.done (by kernel_rfl) ?_
            refine q_seq (by kernel_rfl) ?_
            refine q_seq (by kernel_rfl) ?_
            refine q_region (by kernel_rfl) ?_
            refine Ops.regs 3 [(0, (Value.slice B bs.length bc)), (1, (Value.slice LA l.length lc)), (5, (Value.pointer (some ⟨b1, 0, none⟩))), (6, (i64 bad)), (7, (i64 ((ax : Nat) : Int))), (8, (i64 ((i : Nat) : Int))), (9, (i64 (((R.bytes).2).end_))), (21, (Value.bool true)), (28, (i64 (cnt x 5))), (31, (Value.bool false)), (35, (Value.bool false)), (39, (Value.bool true)), (51, (Value.bool (bad != 0)))] (j := 3) (by kernel_rfl) (by kernel_rfl) ?_
            refine Ops.split (bad != 0) (fun h292 => ?_) (fun h292 => ?_)
            · rw [h292]
              have p293 : ¬ (bad = 0) := of_bne_t h292
              refine Ops.regs 4 [(0, (Value.slice B bs.length bc)), (1, (Value.slice LA l.length lc)), (5, (Value.pointer (some ⟨b1, 0, none⟩))), (6, (i64 bad)), (7, (i64 ((ax : Nat) : Int))), (8, (i64 ((i : Nat) : Int))), (9, (i64 (((R.bytes).2).end_))), (21, (Value.bool true)), (28, (i64 (cnt x 5))), (31, (Value.bool false)), (35, (Value.bool false)), (39, (Value.bool true)), (51, (Value.bool true)), (55, (Value.bool ((((R.bytes).2).end_) != bad)))] (j := 7) (by kernel_rfl) (by kernel_rfl) ?_
              have h294 : ((((R.bytes).2).end_) != bad) = false := bne_f (by omega)
              rw [h294]
              refine Ops.regs 1 [(0, (Value.slice B bs.length bc)), (1, (Value.slice LA l.length lc)), (5, (Value.pointer (some ⟨b1, 0, none⟩))), (6, (i64 bad)), (7, (i64 ((ax : Nat) : Int))), (8, (i64 ((i : Nat) : Int))), (9, (i64 (((R.bytes).2).end_))), (21, (Value.bool true)), (28, (i64 (cnt x 5))), (31, (Value.bool false)), (35, (Value.bool false)), (39, (Value.bool true)), (51, (Value.bool true)), (55, (Value.bool false)), (56, (Value.pointer (some ⟨b1, 0, none⟩)))] (j := 8) (by kernel_rfl) (by kernel_rfl) ?_
              refine Ops.call (by kernel_rfl) (d := (some 57)) (by kernel_rfl) (At_calls _ b1 A2 c3 ((R.bytes).2) hok282 H290 F291 hne9) ?_
              rintro _ w295 ⟨rfl, K296⟩
              refine ⟨_, _, rfl, rfl, ?_⟩
              have K297 := K289.trans K296 (U := none_) (fun i h1 h2 => h2) (fun i h1 h2 => by exact h2)
              clear K289
              have H298 := H290.keep K296 (fun h => h)
              clear H290
              have F299 := RdO.keep0 F291 K296
              clear F291
              clear K296
              refine Ops.regs 4 [(0, (Value.slice B bs.length bc)), (1, (Value.slice LA l.length lc)), (5, (Value.pointer (some ⟨b1, 0, none⟩))), (6, (i64 bad)), (7, (i64 ((ax : Nat) : Int))), (8, (i64 ((i : Nat) : Int))), (9, (i64 (((R.bytes).2).end_))), (21, (Value.bool true)), (28, (i64 (cnt x 5))), (31, (Value.bool false)), (35, (Value.bool false)), (39, (Value.bool true)), (61, (Value.bool (((((R.bytes).2).pos : Nat) : Int) != ((ax : Nat) : Int))))] (j := 13) (by kernel_rfl) (by kernel_rfl) ?_
              refine Ops.done (by kernel_rfl) ?_
              have h300 : (((((R.bytes).2).pos : Nat) : Int) != ((ax : Nat) : Int)) = false := bne_f (by omega)
              rw [h300]
              refine q_else (o := .tmp 61) (by kernel_rfl) rfl ?_
              refine q_skip (by kernel_rfl) ?_
              refine q_seq (by kernel_rfl) ?_
              refine q_seq (by kernel_rfl) ?_
              refine q_region (by kernel_rfl) ?_
              refine Ops.regs 3 [(0, (Value.slice B bs.length bc)), (1, (Value.slice LA l.length lc)), (5, (Value.pointer (some ⟨b1, 0, none⟩))), (6, (i64 bad)), (7, (i64 ((ax : Nat) : Int))), (8, (i64 ((i : Nat) : Int))), (9, (i64 (((R.bytes).2).end_))), (21, (Value.bool true)), (28, (i64 (cnt x 5))), (31, (Value.bool false)), (35, (Value.bool false)), (39, (Value.bool true)), (61, (Value.bool false)), (64, (Value.bool ((((R.bytes).2).end_) != 0)))] (j := 3) (by kernel_rfl) (by kernel_rfl) ?_
              refine Ops.split ((((R.bytes).2).end_) != 0) (fun h301 => ?_) (fun h301 => ?_)
              · rw [h301]
                have p302 : ¬ (((R.bytes).2).end_ = 0) := of_bne_t h301
                refine Ops.regs 3 [(0, (Value.slice B bs.length bc)), (1, (Value.slice LA l.length lc)), (5, (Value.pointer (some ⟨b1, 0, none⟩))), (6, (i64 bad)), (7, (i64 ((ax : Nat) : Int))), (8, (i64 ((i : Nat) : Int))), (9, (i64 (((R.bytes).2).end_))), (21, (Value.bool true)), (28, (i64 (cnt x 5))), (31, (Value.bool false)), (35, (Value.bool false)), (39, (Value.bool true)), (61, (Value.bool false)), (67, (Value.bool ((((R.bytes).2).end_) != 11)))] (j := 6) (by kernel_rfl) (by kernel_rfl) ?_
                refine Ops.done (by kernel_rfl) ?_
                refine q_cond (o := .tmp 67) (b := ((((R.bytes).2).end_) != 11)) (by kernel_rfl) rfl (fun h303 => ?_) (fun h303 => ?_)
                · rw [h303]
                  have p304 : ¬ (((R.bytes).2).end_ = 11) := of_bne_t h303
                  refine q_seq (by kernel_rfl) ?_
                  refine q_region (by kernel_rfl) ?_
                  refine Ops.regs 2 [(0, (Value.slice B bs.length bc)), (1, (Value.slice LA l.length lc)), (5, (Value.pointer (some ⟨b1, 0, none⟩))), (6, (i64 (((R.bytes).2).end_))), (7, (i64 ((ax : Nat) : Int))), (8, (i64 ((i : Nat) : Int))), (9, (i64 (((R.bytes).2).end_))), (21, (Value.bool true)), (28, (i64 (cnt x 5))), (31, (Value.bool false)), (35, (Value.bool false)), (39, (Value.bool true)), (61, (Value.bool false)), (67, (Value.bool true))] (j := 2) (by kernel_rfl) (by kernel_rfl) ?_
                  refine Ops.done (by kernel_rfl) ?_
                  refine q_region (by kernel_rfl) ?_
                  refine Ops.regs 1 [(0, (Value.slice B bs.length bc)), (1, (Value.slice LA l.length lc)), (5, (Value.pointer (some ⟨b1, 0, none⟩))), (6, (i64 (((R.bytes).2).end_))), (7, (i64 ((ax : Nat) : Int))), (8, (i64 ((i : Nat) : Int))), (9, (i64 (((R.bytes).2).end_))), (21, (Value.bool true)), (28, (i64 (cnt x 5))), (31, (Value.bool false)), (35, (Value.bool false)), (39, (Value.bool true)), (61, (Value.bool false)), (67, (Value.bool true)), (69, (Value.pointer (some ⟨b1, 0, none⟩)))] (j := 1) (by kernel_rfl) (by kernel_rfl) ?_
                  refine Ops.call (by kernel_rfl) (d := (some 70)) (by kernel_rfl) (At_calls _ b1 A2 c3 ((R.bytes).2) hok282 H298 F299 hne9) ?_
                  rintro _ w305 ⟨rfl, K306⟩
                  refine ⟨_, _, rfl, rfl, ?_⟩
                  have K307 := K297.trans K306 (U := none_) (fun i h1 h2 => h2) (fun i h1 h2 => by exact h2)
                  clear K297
                  have H308 := H298.keep K306 (fun h => h)
                  clear H298
                  have F309 := RdO.keep0 F299 K306
                  clear F299
                  clear K306
                  refine Ops.regs 1 [(0, (Value.slice B bs.length bc)), (1, (Value.slice LA l.length lc)), (5, (Value.pointer (some ⟨b1, 0, none⟩))), (6, (i64 (((R.bytes).2).end_))), (7, (i64 ((((R.bytes).2).pos : Nat) : Int))), (8, (i64 ((i : Nat) : Int))), (9, (i64 (((R.bytes).2).end_))), (21, (Value.bool true)), (28, (i64 (cnt x 5))), (31, (Value.bool false)), (35, (Value.bool false)), (39, (Value.bool true)), (61, (Value.bool false)), (67, (Value.bool true))] (j := 3) (by kernel_rfl) (by kernel_rfl) ?_
                  refine Ops.done (by kernel_rfl) ?_
                  refine q_seq (by kernel_rfl) ?_
                  refine q_region (by kernel_rfl) ?_
                  refine Ops.regs 1 [(0, (Value.slice B bs.length bc)), (1, (Value.slice LA l.length lc)), (5, (Value.pointer (some ⟨b1, 0, none⟩))), (6, (i64 (((R.bytes).2).end_))), (7, (i64 ((((R.bytes).2).pos : Nat) : Int))), (8, (i64 ((i : Nat) : Int))), (9, (i64 (((R.bytes).2).end_))), (21, (Value.bool true)), (28, (i64 (cnt x 5))), (31, (Value.bool false)), (35, (Value.bool false)), (39, (Value.bool true)), (61, (Value.bool false)), (67, (Value.bool true)), (71, (Value.pointer (some ⟨b1, 0, none⟩)))] (j := 1) (by kernel_rfl) (by kernel_rfl) ?_
                  refine Ops.call (by kernel_rfl) (d := (some 72)) (by kernel_rfl) (At_calls _ b1 A2 c3 ((R.bytes).2) hok282 H308 F309 hne9) ?_
                  rintro _ w310 ⟨rfl, K311⟩
                  refine ⟨_, _, rfl, rfl, ?_⟩
                  have K312 := K307.trans K311 (U := none_) (fun i h1 h2 => h2) (fun i h1 h2 => by exact h2)
                  clear K307
                  have H313 := H308.keep K311 (fun h => h)
                  clear H308
                  have F314 := RdO.keep0 F309 K311
                  clear F309
                  clear K311
                  refine Ops.regs 3 [(0, (Value.slice B bs.length bc)), (1, (Value.slice LA l.length lc)), (5, (Value.pointer (some ⟨b1, 0, none⟩))), (6, (i64 (((R.bytes).2).end_))), (7, (i64 ((((R.bytes).2).pos : Nat) : Int))), (8, (i64 ((i : Nat) : Int))), (9, (i64 (((R.bytes).2).end_))), (21, (Value.bool true)), (28, (i64 (cnt x 5))), (31, (Value.bool false)), (35, (Value.bool false)), (39, (Value.bool true)), (61, (Value.bool false)), (67, (Value.bool true)), (75, (Value.bool (decide (((((R.bytes).2).pos : Nat) : Int) < ((((R.bytes).2).pos : Nat) : Int)))))] (j := 5) (by kernel_rfl) (by kernel_rfl) ?_
                  have h315 : (decide (((((R.bytes).2).pos : Nat) : Int) < ((((R.bytes).2).pos : Nat) : Int))) = false := decide_eq_false (by omega)
                  rw [h315]
                  refine Ops.regs 1 [(0, (Value.slice B bs.length bc)), (1, (Value.slice LA l.length lc)), (5, (Value.pointer (some ⟨b1, 0, none⟩))), (6, (i64 (((R.bytes).2).end_))), (7, (i64 ((((R.bytes).2).pos : Nat) : Int))), (8, (i64 ((i : Nat) : Int))), (9, (i64 (((R.bytes).2).end_))), (21, (Value.bool true)), (28, (i64 (cnt x 5))), (31, (Value.bool false)), (35, (Value.bool false)), (39, (Value.bool true)), (61, (Value.bool false)), (67, (Value.bool true)), (75, (Value.bool false)), (76, (Value.pointer (some ⟨b1, 0, none⟩)))] (j := 6) (by kernel_rfl) (by kernel_rfl) ?_
                  refine Ops.call (by kernel_rfl) (d := (some 77)) (by kernel_rfl) (At_calls _ b1 A2 c3 ((R.bytes).2) hok282 H313 F314 hne9) ?_
                  rintro _ w316 ⟨rfl, K317⟩
                  refine ⟨_, _, rfl, rfl, ?_⟩
                  have K318 := K312.trans K317 (U := none_) (fun i h1 h2 => h2) (fun i h1 h2 => by exact h2)
                  clear K312
                  have H319 := H313.keep K317 (fun h => h)
                  clear H313
                  have F320 := RdO.keep0 F314 K317
                  clear F314
                  clear K317
                  refine Ops.regs 4 [(0, (Value.slice B bs.length bc)), (1, (Value.slice LA l.length lc)), (5, (Value.pointer (some ⟨b1, 0, none⟩))), (6, (i64 (((R.bytes).2).end_))), (7, (i64 ((((R.bytes).2).pos : Nat) : Int))), (8, (i64 ((i : Nat) : Int))), (9, (i64 (((R.bytes).2).end_))), (21, (Value.bool true)), (28, (i64 (cnt x 5))), (31, (Value.bool false)), (35, (Value.bool false)), (39, (Value.bool true)), (61, (Value.bool false)), (67, (Value.bool true)), (81, (Value.bool (decide (((((R.bytes).2).pos : Nat) : Int) > ((bs.length : Nat) : Int)))))] (j := 11) (by kernel_rfl) (by kernel_rfl) ?_
                  refine Ops.done (by kernel_rfl) ?_
                  have h321 : (decide (((((R.bytes).2).pos : Nat) : Int) > ((bs.length : Nat) : Int))) = false := decide_eq_false (by omega)
                  rw [h321]
                  refine q_else (o := .tmp 81) (by kernel_rfl) rfl ?_
                  refine q_skip (by kernel_rfl) ?_
                  refine q_region (by kernel_rfl) ?_
                  refine Ops.regs 2 [(0, (Value.slice B bs.length bc)), (1, (Value.slice LA l.length lc)), (5, (Value.pointer (some ⟨b1, 0, none⟩))), (6, (i64 (((R.bytes).2).end_))), (7, (i64 ((((R.bytes).2).pos : Nat) : Int))), (8, (i64 ((i : Nat) : Int))), (9, (i64 (((R.bytes).2).end_))), (21, (Value.bool true)), (23, (i64 (IntKind.i64.wrap (((i : Nat) : Int) + 1)))), (28, (i64 (cnt x 5))), (31, (Value.bool false)), (35, (Value.bool false)), (39, (Value.bool true)), (61, (Value.bool false)), (67, (Value.bool true)), (81, (Value.bool false))] (j := 2) (by kernel_rfl) (by kernel_rfl) ?_
                  have e322 : IntKind.i64.wrap (((i : Nat) : Int) + 1) = ((i + 1 : Nat) : Int) := by rw [wrap_i64 (by omega) (by omega)]; omega
                  rw [e322]
                  clear e322
                  refine Ops.regs 1 [(0, (Value.slice B bs.length bc)), (1, (Value.slice LA l.length lc)), (5, (Value.pointer (some ⟨b1, 0, none⟩))), (6, (i64 (((R.bytes).2).end_))), (7, (i64 ((((R.bytes).2).pos : Nat) : Int))), (8, (i64 ((i + 1 : Nat) : Int))), (9, (i64 (((R.bytes).2).end_))), (21, (Value.bool true)), (28, (i64 (cnt x 5))), (31, (Value.bool false)), (35, (Value.bool false)), (39, (Value.bool true)), (61, (Value.bool false)), (67, (Value.bool true)), (81, (Value.bool false))] (j := 3) (by kernel_rfl) (by kernel_rfl) ?_
                  refine Ops.keep (R := [(0, (Value.slice B bs.length bc)), (1, (Value.slice LA l.length lc)), (5, (Value.pointer (some ⟨b1, 0, none⟩))), (6, (i64 (((R.bytes).2).end_))), (7, (i64 ((((R.bytes).2).pos : Nat) : Int))), (8, (i64 ((i + 1 : Nat) : Int)))]) (by kernel_rfl) ?_
                  refine Ops.done (by kernel_rfl) ?_
                  exact ⟨(i + 1, (R.bytes).2, ((R.bytes).2).end_, ((R.bytes).2).pos), ⟨rfl, F320, hok282, (hgb.trans hbs), (by omega), (by omega), (by omega), (by omega), K318, H319⟩, (show 60 - (i + 1) < 60 - i from by omega)⟩
                · rw [h303]
                  have p323 : ((R.bytes).2).end_ = 11 := of_bne_f h303
                  refine q_skip (by kernel_rfl) ?_
                  refine q_seq (by kernel_rfl) ?_
                  refine q_region (by kernel_rfl) ?_
                  refine Ops.regs 1 [(0, (Value.slice B bs.length bc)), (1, (Value.slice LA l.length lc)), (5, (Value.pointer (some ⟨b1, 0, none⟩))), (6, (i64 bad)), (7, (i64 ((ax : Nat) : Int))), (8, (i64 ((i : Nat) : Int))), (9, (i64 (((R.bytes).2).end_))), (21, (Value.bool true)), (28, (i64 (cnt x 5))), (31, (Value.bool false)), (35, (Value.bool false)), (39, (Value.bool true)), (61, (Value.bool false)), (67, (Value.bool false)), (71, (Value.pointer (some ⟨b1, 0, none⟩)))] (j := 1) (by kernel_rfl) (by kernel_rfl) ?_
                  refine Ops.call (by kernel_rfl) (d := (some 72)) (by kernel_rfl) (At_calls _ b1 A2 c3 ((R.bytes).2) hok282 H298 F299 hne9) ?_
                  rintro _ w324 ⟨rfl, K325⟩
                  refine ⟨_, _, rfl, rfl, ?_⟩
                  have K326 := K297.trans K325 (U := none_) (fun i h1 h2 => h2) (fun i h1 h2 => by exact h2)
                  clear K297
                  have H327 := H298.keep K325 (fun h => h)
                  clear H298
                  have F328 := RdO.keep0 F299 K325
                  clear F299
                  clear K325
                  refine Ops.regs 3 [(0, (Value.slice B bs.length bc)), (1, (Value.slice LA l.length lc)), (5, (Value.pointer (some ⟨b1, 0, none⟩))), (6, (i64 bad)), (7, (i64 ((ax : Nat) : Int))), (8, (i64 ((i : Nat) : Int))), (9, (i64 (((R.bytes).2).end_))), (21, (Value.bool true)), (28, (i64 (cnt x 5))), (31, (Value.bool false)), (35, (Value.bool false)), (39, (Value.bool true)), (61, (Value.bool false)), (67, (Value.bool false)), (75, (Value.bool (decide (((((R.bytes).2).pos : Nat) : Int) < ((ax : Nat) : Int)))))] (j := 5) (by kernel_rfl) (by kernel_rfl) ?_
                  have h329 : (decide (((((R.bytes).2).pos : Nat) : Int) < ((ax : Nat) : Int))) = false := decide_eq_false (by omega)
                  rw [h329]
                  refine Ops.regs 1 [(0, (Value.slice B bs.length bc)), (1, (Value.slice LA l.length lc)), (5, (Value.pointer (some ⟨b1, 0, none⟩))), (6, (i64 bad)), (7, (i64 ((ax : Nat) : Int))), (8, (i64 ((i : Nat) : Int))), (9, (i64 (((R.bytes).2).end_))), (21, (Value.bool true)), (28, (i64 (cnt x 5))), (31, (Value.bool false)), (35, (Value.bool false)), (39, (Value.bool true)), (61, (Value.bool false)), (67, (Value.bool false)), (75, (Value.bool false)), (76, (Value.pointer (some ⟨b1, 0, none⟩)))] (j := 6) (by kernel_rfl) (by kernel_rfl) ?_
                  refine Ops.call (by kernel_rfl) (d := (some 77)) (by kernel_rfl) (At_calls _ b1 A2 c3 ((R.bytes).2) hok282 H327 F328 hne9) ?_
                  rintro _ w330 ⟨rfl, K331⟩
                  refine ⟨_, _, rfl, rfl, ?_⟩
                  have K332 := K326.trans K331 (U := none_) (fun i h1 h2 => h2) (fun i h1 h2 => by exact h2)
                  clear K326
                  have H333 := H327.keep K331 (fun h => h)
                  clear H327
                  have F334 := RdO.keep0 F328 K331
                  clear F328
                  clear K331
                  refine Ops.regs 4 [(0, (Value.slice B bs.length bc)), (1, (Value.slice LA l.length lc)), (5, (Value.pointer (some ⟨b1, 0, none⟩))), (6, (i64 bad)), (7, (i64 ((ax : Nat) : Int))), (8, (i64 ((i : Nat) : Int))), (9, (i64 (((R.bytes).2).end_))), (21, (Value.bool true)), (28, (i64 (cnt x 5))), (31, (Value.bool false)), (35, (Value.bool false)), (39, (Value.bool true)), (61, (Value.bool false)), (67, (Value.bool false)), (81, (Value.bool (decide (((((R.bytes).2).pos : Nat) : Int) > ((bs.length : Nat) : Int)))))] (j := 11) (by kernel_rfl) (by kernel_rfl) ?_
                  refine Ops.done (by kernel_rfl) ?_
                  have h335 : (decide (((((R.bytes).2).pos : Nat) : Int) > ((bs.length : Nat) : Int))) = false := decide_eq_false (by omega)
                  rw [h335]
                  refine q_else (o := .tmp 81) (by kernel_rfl) rfl ?_
                  refine q_skip (by kernel_rfl) ?_
                  refine q_region (by kernel_rfl) ?_
                  refine Ops.regs 2 [(0, (Value.slice B bs.length bc)), (1, (Value.slice LA l.length lc)), (5, (Value.pointer (some ⟨b1, 0, none⟩))), (6, (i64 bad)), (7, (i64 ((ax : Nat) : Int))), (8, (i64 ((i : Nat) : Int))), (9, (i64 (((R.bytes).2).end_))), (21, (Value.bool true)), (23, (i64 (IntKind.i64.wrap (((i : Nat) : Int) + 1)))), (28, (i64 (cnt x 5))), (31, (Value.bool false)), (35, (Value.bool false)), (39, (Value.bool true)), (61, (Value.bool false)), (67, (Value.bool false)), (81, (Value.bool false))] (j := 2) (by kernel_rfl) (by kernel_rfl) ?_
                  have e336 : IntKind.i64.wrap (((i : Nat) : Int) + 1) = ((i + 1 : Nat) : Int) := by rw [wrap_i64 (by omega) (by omega)]; omega
                  rw [e336]
                  clear e336
                  refine Ops.regs 1 [(0, (Value.slice B bs.length bc)), (1, (Value.slice LA l.length lc)), (5, (Value.pointer (some ⟨b1, 0, none⟩))), (6, (i64 bad)), (7, (i64 ((ax : Nat) : Int))), (8, (i64 ((i + 1 : Nat) : Int))), (9, (i64 (((R.bytes).2).end_))), (21, (Value.bool true)), (28, (i64 (cnt x 5))), (31, (Value.bool false)), (35, (Value.bool false)), (39, (Value.bool true)), (61, (Value.bool false)), (67, (Value.bool false)), (81, (Value.bool false))] (j := 3) (by kernel_rfl) (by kernel_rfl) ?_
                  refine Ops.keep (R := [(0, (Value.slice B bs.length bc)), (1, (Value.slice LA l.length lc)), (5, (Value.pointer (some ⟨b1, 0, none⟩))), (6, (i64 bad)), (7, (i64 ((ax : Nat) : Int))), (8, (i64 ((i + 1 : Nat) : Int)))]) (by kernel_rfl) ?_
                  refine Ops.done (by kernel_rfl) ?_
                  exact ⟨(i + 1, (R.bytes).2, bad, ax), ⟨rfl, F334, hok282, (hgb.trans hbs), (by omega), (by omega), (by omega), (by omega), K332, H333⟩, (show 60 - (i + 1) < 60 - i from by omega)⟩
              · rw [h301]
                have p337 : ((R.bytes).2).end_ = 0 := of_bne_f h301
                refine Ops.regs 3 [(0, (Value.slice B bs.length bc)), (1, (Value.slice LA l.length lc)), (5, (Value.pointer (some ⟨b1, 0, none⟩))), (6, (i64 bad)), (7, (i64 ((ax : Nat) : Int))), (8, (i64 ((i : Nat) : Int))), (9, (i64 (((R.bytes).2).end_))), (21, (Value.bool true)), (28, (i64 (cnt x 5))), (31, (Value.bool false)), (35, (Value.bool false)), (39, (Value.bool true)), (61, (Value.bool false)), (67, (Value.bool false))] (j := 6) (by kernel_rfl) (by kernel_rfl) ?_
                refine Ops.done (by kernel_rfl) ?_
                refine q_else (o := .tmp 67) (by kernel_rfl) rfl ?_
                refine q_skip (by kernel_rfl) ?_
                refine q_seq (by kernel_rfl) ?_
                refine q_region (by kernel_rfl) ?_
                refine Ops.regs 1 [(0, (Value.slice B bs.length bc)), (1, (Value.slice LA l.length lc)), (5, (Value.pointer (some ⟨b1, 0, none⟩))), (6, (i64 bad)), (7, (i64 ((ax : Nat) : Int))), (8, (i64 ((i : Nat) : Int))), (9, (i64 (((R.bytes).2).end_))), (21, (Value.bool true)), (28, (i64 (cnt x 5))), (31, (Value.bool false)), (35, (Value.bool false)), (39, (Value.bool true)), (61, (Value.bool false)), (67, (Value.bool false)), (71, (Value.pointer (some ⟨b1, 0, none⟩)))] (j := 1) (by kernel_rfl) (by kernel_rfl) ?_
                refine Ops.call (by kernel_rfl) (d := (some 72)) (by kernel_rfl) (At_calls _ b1 A2 c3 ((R.bytes).2) hok282 H298 F299 hne9) ?_
                rintro _ w338 ⟨rfl, K339⟩
                refine ⟨_, _, rfl, rfl, ?_⟩
                have K340 := K297.trans K339 (U := none_) (fun i h1 h2 => h2) (fun i h1 h2 => by exact h2)
                clear K297
                have H341 := H298.keep K339 (fun h => h)
                clear H298
                have F342 := RdO.keep0 F299 K339
                clear F299
                clear K339
                refine Ops.regs 3 [(0, (Value.slice B bs.length bc)), (1, (Value.slice LA l.length lc)), (5, (Value.pointer (some ⟨b1, 0, none⟩))), (6, (i64 bad)), (7, (i64 ((ax : Nat) : Int))), (8, (i64 ((i : Nat) : Int))), (9, (i64 (((R.bytes).2).end_))), (21, (Value.bool true)), (28, (i64 (cnt x 5))), (31, (Value.bool false)), (35, (Value.bool false)), (39, (Value.bool true)), (61, (Value.bool false)), (67, (Value.bool false)), (75, (Value.bool (decide (((((R.bytes).2).pos : Nat) : Int) < ((ax : Nat) : Int)))))] (j := 5) (by kernel_rfl) (by kernel_rfl) ?_
                have h343 : (decide (((((R.bytes).2).pos : Nat) : Int) < ((ax : Nat) : Int))) = false := decide_eq_false (by omega)
                rw [h343]
                refine Ops.regs 1 [(0, (Value.slice B bs.length bc)), (1, (Value.slice LA l.length lc)), (5, (Value.pointer (some ⟨b1, 0, none⟩))), (6, (i64 bad)), (7, (i64 ((ax : Nat) : Int))), (8, (i64 ((i : Nat) : Int))), (9, (i64 (((R.bytes).2).end_))), (21, (Value.bool true)), (28, (i64 (cnt x 5))), (31, (Value.bool false)), (35, (Value.bool false)), (39, (Value.bool true)), (61, (Value.bool false)), (67, (Value.bool false)), (75, (Value.bool false)), (76, (Value.pointer (some ⟨b1, 0, none⟩)))] (j := 6) (by kernel_rfl) (by kernel_rfl) ?_
                refine Ops.call (by kernel_rfl) (d := (some 77)) (by kernel_rfl) (At_calls _ b1 A2 c3 ((R.bytes).2) hok282 H341 F342 hne9) ?_
                rintro _ w344 ⟨rfl, K345⟩
                refine ⟨_, _, rfl, rfl, ?_⟩
                have K346 := K340.trans K345 (U := none_) (fun i h1 h2 => h2) (fun i h1 h2 => by exact h2)
                clear K340
                have H347 := H341.keep K345 (fun h => h)
                clear H341
                have F348 := RdO.keep0 F342 K345
                clear F342
                clear K345
                refine Ops.regs 4 [(0, (Value.slice B bs.length bc)), (1, (Value.slice LA l.length lc)), (5, (Value.pointer (some ⟨b1, 0, none⟩))), (6, (i64 bad)), (7, (i64 ((ax : Nat) : Int))), (8, (i64 ((i : Nat) : Int))), (9, (i64 (((R.bytes).2).end_))), (21, (Value.bool true)), (28, (i64 (cnt x 5))), (31, (Value.bool false)), (35, (Value.bool false)), (39, (Value.bool true)), (61, (Value.bool false)), (67, (Value.bool false)), (81, (Value.bool (decide (((((R.bytes).2).pos : Nat) : Int) > ((bs.length : Nat) : Int)))))] (j := 11) (by kernel_rfl) (by kernel_rfl) ?_
                refine Ops.done (by kernel_rfl) ?_
                have h349 : (decide (((((R.bytes).2).pos : Nat) : Int) > ((bs.length : Nat) : Int))) = false := decide_eq_false (by omega)
                rw [h349]
                refine q_else (o := .tmp 81) (by kernel_rfl) rfl ?_
                refine q_skip (by kernel_rfl) ?_
                refine q_region (by kernel_rfl) ?_
                refine Ops.regs 2 [(0, (Value.slice B bs.length bc)), (1, (Value.slice LA l.length lc)), (5, (Value.pointer (some ⟨b1, 0, none⟩))), (6, (i64 bad)), (7, (i64 ((ax : Nat) : Int))), (8, (i64 ((i : Nat) : Int))), (9, (i64 (((R.bytes).2).end_))), (21, (Value.bool true)), (23, (i64 (IntKind.i64.wrap (((i : Nat) : Int) + 1)))), (28, (i64 (cnt x 5))), (31, (Value.bool false)), (35, (Value.bool false)), (39, (Value.bool true)), (61, (Value.bool false)), (67, (Value.bool false)), (81, (Value.bool false))] (j := 2) (by kernel_rfl) (by kernel_rfl) ?_
                have e350 : IntKind.i64.wrap (((i : Nat) : Int) + 1) = ((i + 1 : Nat) : Int) := by rw [wrap_i64 (by omega) (by omega)]; omega
                rw [e350]
                clear e350
                refine Ops.regs 1 [(0, (Value.slice B bs.length bc)), (1, (Value.slice LA l.length lc)), (5, (Value.pointer (some ⟨b1, 0, none⟩))), (6, (i64 bad)), (7, (i64 ((ax : Nat) : Int))), (8, (i64 ((i + 1 : Nat) : Int))), (9, (i64 (((R.bytes).2).end_))), (21, (Value.bool true)), (28, (i64 (cnt x 5))), (31, (Value.bool false)), (35, (Value.bool false)), (39, (Value.bool true)), (61, (Value.bool false)), (67, (Value.bool false)), (81, (Value.bool false))] (j := 3) (by kernel_rfl) (by kernel_rfl) ?_
                refine Ops.keep (R := [(0, (Value.slice B bs.length bc)), (1, (Value.slice LA l.length lc)), (5, (Value.pointer (some ⟨b1, 0, none⟩))), (6, (i64 bad)), (7, (i64 ((ax : Nat) : Int))), (8, (i64 ((i + 1 : Nat) : Int)))]) (by kernel_rfl) ?_
                refine Ops.done (by kernel_rfl) ?_
                exact ⟨(i + 1, (R.bytes).2, bad, ax), ⟨rfl, F348, hok282, (hgb.trans hbs), (by omega), (by omega), (by omega), (by omega), K346, H347⟩, (show 60 - (i + 1) < 60 - i from by omega)⟩
            · rw [h292]
              have p351 : bad = 0 := of_bne_f h292
              refine Ops.regs 10 [(0, (Value.slice B bs.length bc)), (1, (Value.slice LA l.length lc)), (5, (Value.pointer (some ⟨b1, 0, none⟩))), (6, (i64 bad)), (7, (i64 ((ax : Nat) : Int))), (8, (i64 ((i : Nat) : Int))), (9, (i64 (((R.bytes).2).end_))), (21, (Value.bool true)), (28, (i64 (cnt x 5))), (31, (Value.bool false)), (35, (Value.bool false)), (39, (Value.bool true)), (61, (Value.bool false))] (j := 13) (by kernel_rfl) (by kernel_rfl) ?_
              refine Ops.done (by kernel_rfl) ?_
              refine q_else (o := .tmp 61) (by kernel_rfl) rfl ?_
              refine q_skip (by kernel_rfl) ?_
              refine q_seq (by kernel_rfl) ?_
              refine q_seq (by kernel_rfl) ?_
              refine q_region (by kernel_rfl) ?_
              refine Ops.regs 3 [(0, (Value.slice B bs.length bc)), (1, (Value.slice LA l.length lc)), (5, (Value.pointer (some ⟨b1, 0, none⟩))), (6, (i64 bad)), (7, (i64 ((ax : Nat) : Int))), (8, (i64 ((i : Nat) : Int))), (9, (i64 (((R.bytes).2).end_))), (21, (Value.bool true)), (28, (i64 (cnt x 5))), (31, (Value.bool false)), (35, (Value.bool false)), (39, (Value.bool true)), (61, (Value.bool false)), (64, (Value.bool ((((R.bytes).2).end_) != 0)))] (j := 3) (by kernel_rfl) (by kernel_rfl) ?_
              refine Ops.split ((((R.bytes).2).end_) != 0) (fun h352 => ?_) (fun h352 => ?_)
              · rw [h352]
                have p353 : ¬ (((R.bytes).2).end_ = 0) := of_bne_t h352
                refine Ops.regs 3 [(0, (Value.slice B bs.length bc)), (1, (Value.slice LA l.length lc)), (5, (Value.pointer (some ⟨b1, 0, none⟩))), (6, (i64 bad)), (7, (i64 ((ax : Nat) : Int))), (8, (i64 ((i : Nat) : Int))), (9, (i64 (((R.bytes).2).end_))), (21, (Value.bool true)), (28, (i64 (cnt x 5))), (31, (Value.bool false)), (35, (Value.bool false)), (39, (Value.bool true)), (61, (Value.bool false)), (67, (Value.bool ((((R.bytes).2).end_) != 11)))] (j := 6) (by kernel_rfl) (by kernel_rfl) ?_
                refine Ops.done (by kernel_rfl) ?_
                refine q_cond (o := .tmp 67) (b := ((((R.bytes).2).end_) != 11)) (by kernel_rfl) rfl (fun h354 => ?_) (fun h354 => ?_)
                · rw [h354]
                  have p355 : ¬ (((R.bytes).2).end_ = 11) := of_bne_t h354
                  refine q_seq (by kernel_rfl) ?_
                  refine q_region (by kernel_rfl) ?_
                  refine Ops.regs 2 [(0, (Value.slice B bs.length bc)), (1, (Value.slice LA l.length lc)), (5, (Value.pointer (some ⟨b1, 0, none⟩))), (6, (i64 (((R.bytes).2).end_))), (7, (i64 ((ax : Nat) : Int))), (8, (i64 ((i : Nat) : Int))), (9, (i64 (((R.bytes).2).end_))), (21, (Value.bool true)), (28, (i64 (cnt x 5))), (31, (Value.bool false)), (35, (Value.bool false)), (39, (Value.bool true)), (61, (Value.bool false)), (67, (Value.bool true))] (j := 2) (by kernel_rfl) (by kernel_rfl) ?_
                  refine Ops.done (by kernel_rfl) ?_
                  refine q_region (by kernel_rfl) ?_
                  refine Ops.regs 1 [(0, (Value.slice B bs.length bc)), (1, (Value.slice LA l.length lc)), (5, (Value.pointer (some ⟨b1, 0, none⟩))), (6, (i64 (((R.bytes).2).end_))), (7, (i64 ((ax : Nat) : Int))), (8, (i64 ((i : Nat) : Int))), (9, (i64 (((R.bytes).2).end_))), (21, (Value.bool true)), (28, (i64 (cnt x 5))), (31, (Value.bool false)), (35, (Value.bool false)), (39, (Value.bool true)), (61, (Value.bool false)), (67, (Value.bool true)), (69, (Value.pointer (some ⟨b1, 0, none⟩)))] (j := 1) (by kernel_rfl) (by kernel_rfl) ?_
                  refine Ops.call (by kernel_rfl) (d := (some 70)) (by kernel_rfl) (At_calls _ b1 A2 c3 ((R.bytes).2) hok282 H290 F291 hne9) ?_
                  rintro _ w356 ⟨rfl, K357⟩
                  refine ⟨_, _, rfl, rfl, ?_⟩
                  have K358 := K289.trans K357 (U := none_) (fun i h1 h2 => h2) (fun i h1 h2 => by exact h2)
                  clear K289
                  have H359 := H290.keep K357 (fun h => h)
                  clear H290
                  have F360 := RdO.keep0 F291 K357
                  clear F291
                  clear K357
                  refine Ops.regs 1 [(0, (Value.slice B bs.length bc)), (1, (Value.slice LA l.length lc)), (5, (Value.pointer (some ⟨b1, 0, none⟩))), (6, (i64 (((R.bytes).2).end_))), (7, (i64 ((((R.bytes).2).pos : Nat) : Int))), (8, (i64 ((i : Nat) : Int))), (9, (i64 (((R.bytes).2).end_))), (21, (Value.bool true)), (28, (i64 (cnt x 5))), (31, (Value.bool false)), (35, (Value.bool false)), (39, (Value.bool true)), (61, (Value.bool false)), (67, (Value.bool true))] (j := 3) (by kernel_rfl) (by kernel_rfl) ?_
                  refine Ops.done (by kernel_rfl) ?_
                  refine q_seq (by kernel_rfl) ?_
                  refine q_region (by kernel_rfl) ?_
                  refine Ops.regs 1 [(0, (Value.slice B bs.length bc)), (1, (Value.slice LA l.length lc)), (5, (Value.pointer (some ⟨b1, 0, none⟩))), (6, (i64 (((R.bytes).2).end_))), (7, (i64 ((((R.bytes).2).pos : Nat) : Int))), (8, (i64 ((i : Nat) : Int))), (9, (i64 (((R.bytes).2).end_))), (21, (Value.bool true)), (28, (i64 (cnt x 5))), (31, (Value.bool false)), (35, (Value.bool false)), (39, (Value.bool true)), (61, (Value.bool false)), (67, (Value.bool true)), (71, (Value.pointer (some ⟨b1, 0, none⟩)))] (j := 1) (by kernel_rfl) (by kernel_rfl) ?_
                  refine Ops.call (by kernel_rfl) (d := (some 72)) (by kernel_rfl) (At_calls _ b1 A2 c3 ((R.bytes).2) hok282 H359 F360 hne9) ?_
                  rintro _ w361 ⟨rfl, K362⟩
                  refine ⟨_, _, rfl, rfl, ?_⟩
                  have K363 := K358.trans K362 (U := none_) (fun i h1 h2 => h2) (fun i h1 h2 => by exact h2)
                  clear K358
                  have H364 := H359.keep K362 (fun h => h)
                  clear H359
                  have F365 := RdO.keep0 F360 K362
                  clear F360
                  clear K362
                  refine Ops.regs 3 [(0, (Value.slice B bs.length bc)), (1, (Value.slice LA l.length lc)), (5, (Value.pointer (some ⟨b1, 0, none⟩))), (6, (i64 (((R.bytes).2).end_))), (7, (i64 ((((R.bytes).2).pos : Nat) : Int))), (8, (i64 ((i : Nat) : Int))), (9, (i64 (((R.bytes).2).end_))), (21, (Value.bool true)), (28, (i64 (cnt x 5))), (31, (Value.bool false)), (35, (Value.bool false)), (39, (Value.bool true)), (61, (Value.bool false)), (67, (Value.bool true)), (75, (Value.bool (decide (((((R.bytes).2).pos : Nat) : Int) < ((((R.bytes).2).pos : Nat) : Int)))))] (j := 5) (by kernel_rfl) (by kernel_rfl) ?_
                  have h366 : (decide (((((R.bytes).2).pos : Nat) : Int) < ((((R.bytes).2).pos : Nat) : Int))) = false := decide_eq_false (by omega)
                  rw [h366]
                  refine Ops.regs 1 [(0, (Value.slice B bs.length bc)), (1, (Value.slice LA l.length lc)), (5, (Value.pointer (some ⟨b1, 0, none⟩))), (6, (i64 (((R.bytes).2).end_))), (7, (i64 ((((R.bytes).2).pos : Nat) : Int))), (8, (i64 ((i : Nat) : Int))), (9, (i64 (((R.bytes).2).end_))), (21, (Value.bool true)), (28, (i64 (cnt x 5))), (31, (Value.bool false)), (35, (Value.bool false)), (39, (Value.bool true)), (61, (Value.bool false)), (67, (Value.bool true)), (75, (Value.bool false)), (76, (Value.pointer (some ⟨b1, 0, none⟩)))] (j := 6) (by kernel_rfl) (by kernel_rfl) ?_
                  refine Ops.call (by kernel_rfl) (d := (some 77)) (by kernel_rfl) (At_calls _ b1 A2 c3 ((R.bytes).2) hok282 H364 F365 hne9) ?_
                  rintro _ w367 ⟨rfl, K368⟩
                  refine ⟨_, _, rfl, rfl, ?_⟩
                  have K369 := K363.trans K368 (U := none_) (fun i h1 h2 => h2) (fun i h1 h2 => by exact h2)
                  clear K363
                  have H370 := H364.keep K368 (fun h => h)
                  clear H364
                  have F371 := RdO.keep0 F365 K368
                  clear F365
                  clear K368
                  refine Ops.regs 4 [(0, (Value.slice B bs.length bc)), (1, (Value.slice LA l.length lc)), (5, (Value.pointer (some ⟨b1, 0, none⟩))), (6, (i64 (((R.bytes).2).end_))), (7, (i64 ((((R.bytes).2).pos : Nat) : Int))), (8, (i64 ((i : Nat) : Int))), (9, (i64 (((R.bytes).2).end_))), (21, (Value.bool true)), (28, (i64 (cnt x 5))), (31, (Value.bool false)), (35, (Value.bool false)), (39, (Value.bool true)), (61, (Value.bool false)), (67, (Value.bool true)), (81, (Value.bool (decide (((((R.bytes).2).pos : Nat) : Int) > ((bs.length : Nat) : Int)))))] (j := 11) (by kernel_rfl) (by kernel_rfl) ?_
                  refine Ops.done (by kernel_rfl) ?_
                  have h372 : (decide (((((R.bytes).2).pos : Nat) : Int) > ((bs.length : Nat) : Int))) = false := decide_eq_false (by omega)
                  rw [h372]
                  refine q_else (o := .tmp 81) (by kernel_rfl) rfl ?_
                  refine q_skip (by kernel_rfl) ?_
                  refine q_region (by kernel_rfl) ?_
                  refine Ops.regs 2 [(0, (Value.slice B bs.length bc)), (1, (Value.slice LA l.length lc)), (5, (Value.pointer (some ⟨b1, 0, none⟩))), (6, (i64 (((R.bytes).2).end_))), (7, (i64 ((((R.bytes).2).pos : Nat) : Int))), (8, (i64 ((i : Nat) : Int))), (9, (i64 (((R.bytes).2).end_))), (21, (Value.bool true)), (23, (i64 (IntKind.i64.wrap (((i : Nat) : Int) + 1)))), (28, (i64 (cnt x 5))), (31, (Value.bool false)), (35, (Value.bool false)), (39, (Value.bool true)), (61, (Value.bool false)), (67, (Value.bool true)), (81, (Value.bool false))] (j := 2) (by kernel_rfl) (by kernel_rfl) ?_
                  have e373 : IntKind.i64.wrap (((i : Nat) : Int) + 1) = ((i + 1 : Nat) : Int) := by rw [wrap_i64 (by omega) (by omega)]; omega
                  rw [e373]
                  clear e373
                  refine Ops.regs 1 [(0, (Value.slice B bs.length bc)), (1, (Value.slice LA l.length lc)), (5, (Value.pointer (some ⟨b1, 0, none⟩))), (6, (i64 (((R.bytes).2).end_))), (7, (i64 ((((R.bytes).2).pos : Nat) : Int))), (8, (i64 ((i + 1 : Nat) : Int))), (9, (i64 (((R.bytes).2).end_))), (21, (Value.bool true)), (28, (i64 (cnt x 5))), (31, (Value.bool false)), (35, (Value.bool false)), (39, (Value.bool true)), (61, (Value.bool false)), (67, (Value.bool true)), (81, (Value.bool false))] (j := 3) (by kernel_rfl) (by kernel_rfl) ?_
                  refine Ops.keep (R := [(0, (Value.slice B bs.length bc)), (1, (Value.slice LA l.length lc)), (5, (Value.pointer (some ⟨b1, 0, none⟩))), (6, (i64 (((R.bytes).2).end_))), (7, (i64 ((((R.bytes).2).pos : Nat) : Int))), (8, (i64 ((i + 1 : Nat) : Int)))]) (by kernel_rfl) ?_
                  refine Ops.done (by kernel_rfl) ?_
                  exact ⟨(i + 1, (R.bytes).2, ((R.bytes).2).end_, ((R.bytes).2).pos), ⟨rfl, F371, hok282, (hgb.trans hbs), (by omega), (by omega), (by omega), (by omega), K369, H370⟩, (show 60 - (i + 1) < 60 - i from by omega)⟩
                · rw [h354]
                  have p374 : ((R.bytes).2).end_ = 11 := of_bne_f h354
                  refine q_skip (by kernel_rfl) ?_
                  refine q_seq (by kernel_rfl) ?_
                  refine q_region (by kernel_rfl) ?_
                  refine Ops.regs 1 [(0, (Value.slice B bs.length bc)), (1, (Value.slice LA l.length lc)), (5, (Value.pointer (some ⟨b1, 0, none⟩))), (6, (i64 bad)), (7, (i64 ((ax : Nat) : Int))), (8, (i64 ((i : Nat) : Int))), (9, (i64 (((R.bytes).2).end_))), (21, (Value.bool true)), (28, (i64 (cnt x 5))), (31, (Value.bool false)), (35, (Value.bool false)), (39, (Value.bool true)), (61, (Value.bool false)), (67, (Value.bool false)), (71, (Value.pointer (some ⟨b1, 0, none⟩)))] (j := 1) (by kernel_rfl) (by kernel_rfl) ?_
                  refine Ops.call (by kernel_rfl) (d := (some 72)) (by kernel_rfl) (At_calls _ b1 A2 c3 ((R.bytes).2) hok282 H290 F291 hne9) ?_
                  rintro _ w375 ⟨rfl, K376⟩
                  refine ⟨_, _, rfl, rfl, ?_⟩
                  have K377 := K289.trans K376 (U := none_) (fun i h1 h2 => h2) (fun i h1 h2 => by exact h2)
                  clear K289
                  have H378 := H290.keep K376 (fun h => h)
                  clear H290
                  have F379 := RdO.keep0 F291 K376
                  clear F291
                  clear K376
                  refine Ops.regs 3 [(0, (Value.slice B bs.length bc)), (1, (Value.slice LA l.length lc)), (5, (Value.pointer (some ⟨b1, 0, none⟩))), (6, (i64 bad)), (7, (i64 ((ax : Nat) : Int))), (8, (i64 ((i : Nat) : Int))), (9, (i64 (((R.bytes).2).end_))), (21, (Value.bool true)), (28, (i64 (cnt x 5))), (31, (Value.bool false)), (35, (Value.bool false)), (39, (Value.bool true)), (61, (Value.bool false)), (67, (Value.bool false)), (75, (Value.bool (decide (((((R.bytes).2).pos : Nat) : Int) < ((ax : Nat) : Int)))))] (j := 5) (by kernel_rfl) (by kernel_rfl) ?_
                  have h380 : (decide (((((R.bytes).2).pos : Nat) : Int) < ((ax : Nat) : Int))) = false := decide_eq_false (by omega)
                  rw [h380]
                  refine Ops.regs 1 [(0, (Value.slice B bs.length bc)), (1, (Value.slice LA l.length lc)), (5, (Value.pointer (some ⟨b1, 0, none⟩))), (6, (i64 bad)), (7, (i64 ((ax : Nat) : Int))), (8, (i64 ((i : Nat) : Int))), (9, (i64 (((R.bytes).2).end_))), (21, (Value.bool true)), (28, (i64 (cnt x 5))), (31, (Value.bool false)), (35, (Value.bool false)), (39, (Value.bool true)), (61, (Value.bool false)), (67, (Value.bool false)), (75, (Value.bool false)), (76, (Value.pointer (some ⟨b1, 0, none⟩)))] (j := 6) (by kernel_rfl) (by kernel_rfl) ?_
                  refine Ops.call (by kernel_rfl) (d := (some 77)) (by kernel_rfl) (At_calls _ b1 A2 c3 ((R.bytes).2) hok282 H378 F379 hne9) ?_
                  rintro _ w381 ⟨rfl, K382⟩
                  refine ⟨_, _, rfl, rfl, ?_⟩
                  have K383 := K377.trans K382 (U := none_) (fun i h1 h2 => h2) (fun i h1 h2 => by exact h2)
                  clear K377
                  have H384 := H378.keep K382 (fun h => h)
                  clear H378
                  have F385 := RdO.keep0 F379 K382
                  clear F379
                  clear K382
                  refine Ops.regs 4 [(0, (Value.slice B bs.length bc)), (1, (Value.slice LA l.length lc)), (5, (Value.pointer (some ⟨b1, 0, none⟩))), (6, (i64 bad)), (7, (i64 ((ax : Nat) : Int))), (8, (i64 ((i : Nat) : Int))), (9, (i64 (((R.bytes).2).end_))), (21, (Value.bool true)), (28, (i64 (cnt x 5))), (31, (Value.bool false)), (35, (Value.bool false)), (39, (Value.bool true)), (61, (Value.bool false)), (67, (Value.bool false)), (81, (Value.bool (decide (((((R.bytes).2).pos : Nat) : Int) > ((bs.length : Nat) : Int)))))] (j := 11) (by kernel_rfl) (by kernel_rfl) ?_
                  refine Ops.done (by kernel_rfl) ?_
                  have h386 : (decide (((((R.bytes).2).pos : Nat) : Int) > ((bs.length : Nat) : Int))) = false := decide_eq_false (by omega)
                  rw [h386]
                  refine q_else (o := .tmp 81) (by kernel_rfl) rfl ?_
                  refine q_skip (by kernel_rfl) ?_
                  refine q_region (by kernel_rfl) ?_
                  refine Ops.regs 2 [(0, (Value.slice B bs.length bc)), (1, (Value.slice LA l.length lc)), (5, (Value.pointer (some ⟨b1, 0, none⟩))), (6, (i64 bad)), (7, (i64 ((ax : Nat) : Int))), (8, (i64 ((i : Nat) : Int))), (9, (i64 (((R.bytes).2).end_))), (21, (Value.bool true)), (23, (i64 (IntKind.i64.wrap (((i : Nat) : Int) + 1)))), (28, (i64 (cnt x 5))), (31, (Value.bool false)), (35, (Value.bool false)), (39, (Value.bool true)), (61, (Value.bool false)), (67, (Value.bool false)), (81, (Value.bool false))] (j := 2) (by kernel_rfl) (by kernel_rfl) ?_
                  have e387 : IntKind.i64.wrap (((i : Nat) : Int) + 1) = ((i + 1 : Nat) : Int) := by rw [wrap_i64 (by omega) (by omega)]; omega
                  rw [e387]
                  clear e387
                  refine Ops.regs 1 [(0, (Value.slice B bs.length bc)), (1, (Value.slice LA l.length lc)), (5, (Value.pointer (some ⟨b1, 0, none⟩))), (6, (i64 bad)), (7, (i64 ((ax : Nat) : Int))), (8, (i64 ((i + 1 : Nat) : Int))), (9, (i64 (((R.bytes).2).end_))), (21, (Value.bool true)), (28, (i64 (cnt x 5))), (31, (Value.bool false)), (35, (Value.bool false)), (39, (Value.bool true)), (61, (Value.bool false)), (67, (Value.bool false)), (81, (Value.bool false))] (j := 3) (by kernel_rfl) (by kernel_rfl) ?_
                  refine Ops.keep (R := [(0, (Value.slice B bs.length bc)), (1, (Value.slice LA l.length lc)), (5, (Value.pointer (some ⟨b1, 0, none⟩))), (6, (i64 bad)), (7, (i64 ((ax : Nat) : Int))), (8, (i64 ((i + 1 : Nat) : Int)))]) (by kernel_rfl) ?_
                  refine Ops.done (by kernel_rfl) ?_
                  exact ⟨(i + 1, (R.bytes).2, bad, ax), ⟨rfl, F385, hok282, (hgb.trans hbs), (by omega), (by omega), (by omega), (by omega), K383, H384⟩, (show 60 - (i + 1) < 60 - i from by omega)⟩
              · rw [h352]
                have p388 : ((R.bytes).2).end_ = 0 := of_bne_f h352
                refine Ops.regs 3 [(0, (Value.slice B bs.length bc)), (1, (Value.slice LA l.length lc)), (5, (Value.pointer (some ⟨b1, 0, none⟩))), (6, (i64 bad)), (7, (i64 ((ax : Nat) : Int))), (8, (i64 ((i : Nat) : Int))), (9, (i64 (((R.bytes).2).end_))), (21, (Value.bool true)), (28, (i64 (cnt x 5))), (31, (Value.bool false)), (35, (Value.bool false)), (39, (Value.bool true)), (61, (Value.bool false)), (67, (Value.bool false))] (j := 6) (by kernel_rfl) (by kernel_rfl) ?_
                refine Ops.done (by kernel_rfl) ?_
                refine q_else (o := .tmp 67) (by kernel_rfl) rfl ?_
                refine q_skip (by kernel_rfl) ?_
                refine q_seq (by kernel_rfl) ?_
                refine q_region (by kernel_rfl) ?_
                refine Ops.regs 1 [(0, (Value.slice B bs.length bc)), (1, (Value.slice LA l.length lc)), (5, (Value.pointer (some ⟨b1, 0, none⟩))), (6, (i64 bad)), (7, (i64 ((ax : Nat) : Int))), (8, (i64 ((i : Nat) : Int))), (9, (i64 (((R.bytes).2).end_))), (21, (Value.bool true)), (28, (i64 (cnt x 5))), (31, (Value.bool false)), (35, (Value.bool false)), (39, (Value.bool true)), (61, (Value.bool false)), (67, (Value.bool false)), (71, (Value.pointer (some ⟨b1, 0, none⟩)))] (j := 1) (by kernel_rfl) (by kernel_rfl) ?_
                refine Ops.call (by kernel_rfl) (d := (some 72)) (by kernel_rfl) (At_calls _ b1 A2 c3 ((R.bytes).2) hok282 H290 F291 hne9) ?_
                rintro _ w389 ⟨rfl, K390⟩
                refine ⟨_, _, rfl, rfl, ?_⟩
                have K391 := K289.trans K390 (U := none_) (fun i h1 h2 => h2) (fun i h1 h2 => by exact h2)
                clear K289
                have H392 := H290.keep K390 (fun h => h)
                clear H290
                have F393 := RdO.keep0 F291 K390
                clear F291
                clear K390
                refine Ops.regs 3 [(0, (Value.slice B bs.length bc)), (1, (Value.slice LA l.length lc)), (5, (Value.pointer (some ⟨b1, 0, none⟩))), (6, (i64 bad)), (7, (i64 ((ax : Nat) : Int))), (8, (i64 ((i : Nat) : Int))), (9, (i64 (((R.bytes).2).end_))), (21, (Value.bool true)), (28, (i64 (cnt x 5))), (31, (Value.bool false)), (35, (Value.bool false)), (39, (Value.bool true)), (61, (Value.bool false)), (67, (Value.bool false)), (75, (Value.bool (decide (((((R.bytes).2).pos : Nat) : Int) < ((ax : Nat) : Int)))))] (j := 5) (by kernel_rfl) (by kernel_rfl) ?_
                have h394 : (decide (((((R.bytes).2).pos : Nat) : Int) < ((ax : Nat) : Int))) = false := decide_eq_false (by omega)
                rw [h394]
                refine Ops.regs 1 [(0, (Value.slice B bs.length bc)), (1, (Value.slice LA l.length lc)), (5, (Value.pointer (some ⟨b1, 0, none⟩))), (6, (i64 bad)), (7, (i64 ((ax : Nat) : Int))), (8, (i64 ((i : Nat) : Int))), (9, (i64 (((R.bytes).2).end_))), (21, (Value.bool true)), (28, (i64 (cnt x 5))), (31, (Value.bool false)), (35, (Value.bool false)), (39, (Value.bool true)), (61, (Value.bool false)), (67, (Value.bool false)), (75, (Value.bool false)), (76, (Value.pointer (some ⟨b1, 0, none⟩)))] (j := 6) (by kernel_rfl) (by kernel_rfl) ?_
                refine Ops.call (by kernel_rfl) (d := (some 77)) (by kernel_rfl) (At_calls _ b1 A2 c3 ((R.bytes).2) hok282 H392 F393 hne9) ?_
                rintro _ w395 ⟨rfl, K396⟩
                refine ⟨_, _, rfl, rfl, ?_⟩
                have K397 := K391.trans K396 (U := none_) (fun i h1 h2 => h2) (fun i h1 h2 => by exact h2)
                clear K391
                have H398 := H392.keep K396 (fun h => h)
                clear H392
                have F399 := RdO.keep0 F393 K396
                clear F393
                clear K396
                refine Ops.regs 4 [(0, (Value.slice B bs.length bc)), (1, (Value.slice LA l.length lc)), (5, (Value.pointer (some ⟨b1, 0, none⟩))), (6, (i64 bad)), (7, (i64 ((ax : Nat) : Int))), (8, (i64 ((i : Nat) : Int))), (9, (i64 (((R.bytes).2).end_))), (21, (Value.bool true)), (28, (i64 (cnt x 5))), (31, (Value.bool false)), (35, (Value.bool false)), (39, (Value.bool true)), (61, (Value.bool false)), (67, (Value.bool false)), (81, (Value.bool (decide (((((R.bytes).2).pos : Nat) : Int) > ((bs.length : Nat) : Int)))))] (j := 11) (by kernel_rfl) (by kernel_rfl) ?_
                refine Ops.done (by kernel_rfl) ?_
                have h400 : (decide (((((R.bytes).2).pos : Nat) : Int) > ((bs.length : Nat) : Int))) = false := decide_eq_false (by omega)
                rw [h400]
                refine q_else (o := .tmp 81) (by kernel_rfl) rfl ?_
                refine q_skip (by kernel_rfl) ?_
                refine q_region (by kernel_rfl) ?_
                refine Ops.regs 2 [(0, (Value.slice B bs.length bc)), (1, (Value.slice LA l.length lc)), (5, (Value.pointer (some ⟨b1, 0, none⟩))), (6, (i64 bad)), (7, (i64 ((ax : Nat) : Int))), (8, (i64 ((i : Nat) : Int))), (9, (i64 (((R.bytes).2).end_))), (21, (Value.bool true)), (23, (i64 (IntKind.i64.wrap (((i : Nat) : Int) + 1)))), (28, (i64 (cnt x 5))), (31, (Value.bool false)), (35, (Value.bool false)), (39, (Value.bool true)), (61, (Value.bool false)), (67, (Value.bool false)), (81, (Value.bool false))] (j := 2) (by kernel_rfl) (by kernel_rfl) ?_
                have e401 : IntKind.i64.wrap (((i : Nat) : Int) + 1) = ((i + 1 : Nat) : Int) := by rw [wrap_i64 (by omega) (by omega)]; omega
                rw [e401]
                clear e401
                refine Ops.regs 1 [(0, (Value.slice B bs.length bc)), (1, (Value.slice LA l.length lc)), (5, (Value.pointer (some ⟨b1, 0, none⟩))), (6, (i64 bad)), (7, (i64 ((ax : Nat) : Int))), (8, (i64 ((i + 1 : Nat) : Int))), (9, (i64 (((R.bytes).2).end_))), (21, (Value.bool true)), (28, (i64 (cnt x 5))), (31, (Value.bool false)), (35, (Value.bool false)), (39, (Value.bool true)), (61, (Value.bool false)), (67, (Value.bool false)), (81, (Value.bool false))] (j := 3) (by kernel_rfl) (by kernel_rfl) ?_
                refine Ops.keep (R := [(0, (Value.slice B bs.length bc)), (1, (Value.slice LA l.length lc)), (5, (Value.pointer (some ⟨b1, 0, none⟩))), (6, (i64 bad)), (7, (i64 ((ax : Nat) : Int))), (8, (i64 ((i + 1 : Nat) : Int)))]) (by kernel_rfl) ?_
                refine Ops.done (by kernel_rfl) ?_
                exact ⟨(i + 1, (R.bytes).2, bad, ax), ⟨rfl, F399, hok282, (hgb.trans hbs), (by omega), (by omega), (by omega), (by omega), K397, H398⟩, (show 60 - (i + 1) < 60 - i from by omega)⟩
          · rw [h277]
            have p402 : ¬ (cnt x 5 = 2) := of_beq_f h277
            refine q_seq (by kernel_rfl) ?_
            refine q_region (by kernel_rfl) ?_
            refine Ops.regs 2 [(0, (Value.slice B bs.length bc)), (1, (Value.slice LA l.length lc)), (5, (Value.pointer (some ⟨b1, 0, none⟩))), (6, (i64 bad)), (7, (i64 ((ax : Nat) : Int))), (8, (i64 ((i : Nat) : Int))), (21, (Value.bool true)), (28, (i64 (cnt x 5))), (31, (Value.bool false)), (35, (Value.bool false)), (39, (Value.bool false)), (43, (Value.bool ((cnt x 5) == 3)))] (j := 2) (by kernel_rfl) (by kernel_rfl) ?_
            refine Ops.done (by kernel_rfl) ?_
            refine q_cond (o := .tmp 43) (b := ((cnt x 5) == 3)) (by kernel_rfl) rfl (fun h403 => ?_) (fun h403 => ?_)
            · rw [h403]
              have p404 : cnt x 5 = 3 := of_beq_t h403
              refine q_region (by kernel_rfl) ?_
              refine Ops.regs 1 [(0, (Value.slice B bs.length bc)), (1, (Value.slice LA l.length lc)), (5, (Value.pointer (some ⟨b1, 0, none⟩))), (6, (i64 bad)), (7, (i64 ((ax : Nat) : Int))), (8, (i64 ((i : Nat) : Int))), (21, (Value.bool true)), (28, (i64 (cnt x 5))), (31, (Value.bool false)), (35, (Value.bool false)), (39, (Value.bool false)), (43, (Value.bool true)), (45, (Value.pointer (some ⟨b1, 0, none⟩)))] (j := 1) (by kernel_rfl) (by kernel_rfl) ?_
              refine Ops.call (by kernel_rfl) (d := (some 46)) (by kernel_rfl) (Count_calls _ b1 A2 c3 R hokR H15 hRd hne9 3 (by omega)) ?_
              rintro _ w405 ⟨rfl, K406, H407⟩
              have hok408 : (R.sized 3).2.Ok := Rdr.Ok.sized hokR 3
              have hu409 := Rdr.sized_le hokR 3
              have hu410 := Rdr.sized_lt R 3
              have hgo := Rdr.goes_sized R 3
              have hes := Rdr.end_spec ((R.sized 3).2)
              have hgb := hgo.bs
              have hgm := hgo.mono
              have hgp := hgo.pos
              have hgw := hgo.why
              have hgk := hok408.pos
              rw [hgb, hbs] at hgk
              refine ⟨_, _, rfl, rfl, ?_⟩
              have K411 := K14.trans K406 (U := none_) (fun i h1 h2 => h2) (fun i h1 h2 => by have h2 : i = b1 := h2; exfalso; omega)
              clear K14
              have F412 := RdO.keep hRd K406 (fun i _ _ hi hs => by have hs : i = b1 := hs; have := hne9 i _ _ hi; omega)
              clear hRd
              clear K406
              have F413 : RdO w405 A2 c3 (R.sized 3).2.bs := by rw [Rdr.sized_bs]; exact F412
              clear F412
              refine Ops.done (by kernel_rfl) ?_
              refine q_seq (by kernel_rfl) ?_
              refine q_region (by kernel_rfl) ?_
              refine Ops.regs 1 [(0, (Value.slice B bs.length bc)), (1, (Value.slice LA l.length lc)), (5, (Value.pointer (some ⟨b1, 0, none⟩))), (6, (i64 bad)), (7, (i64 ((ax : Nat) : Int))), (8, (i64 ((i : Nat) : Int))), (21, (Value.bool true)), (28, (i64 (cnt x 5))), (31, (Value.bool false)), (35, (Value.bool false)), (39, (Value.bool false)), (43, (Value.bool true)), (47, (Value.pointer (some ⟨b1, 0, none⟩)))] (j := 1) (by kernel_rfl) (by kernel_rfl) ?_
              refine Ops.call (by kernel_rfl) (d := (some 48)) (by kernel_rfl) (RdEnd_calls _ b1 A2 c3 ((R.sized 3).2) hok408 H407 F413 hne9) ?_
              rintro _ w414 ⟨rfl, K415⟩
              refine ⟨_, _, rfl, rfl, ?_⟩
              have K416 := K411.trans K415 (U := none_) (fun i h1 h2 => h2) (fun i h1 h2 => by exact h2)
              clear K411
              have H417 := H407.keep K415 (fun h => h)
              clear H407
              have F418 := RdO.keep0 F413 K415
              clear F413
              clear K415
              refine Ops.regs 1 [(0, (Value.slice B bs.length bc)), (1, (Value.slice LA l.length lc)), (5, (Value.pointer (some ⟨b1, 0, none⟩))), (6, (i64 bad)), (7, (i64 ((ax : Nat) : Int))), (8, (i64 ((i : Nat) : Int))), (9, (i64 (((R.sized 3).2).end_))), (21, (Value.bool true)), (28, (i64 (cnt x 5))), (31, (Value.bool false)), (35, (Value.bool false)), (39, (Value.bool false)), (43, (Value.bool true))] (j := 3) (by kernel_rfl) (by kernel_rfl) ?_
              refine Ops.done (by kernel_rfl) ?_
              refine q_seq (by kernel_rfl) ?_
              refine q_seq (by kernel_rfl) ?_
              refine q_region (by kernel_rfl) ?_
              refine Ops.regs 3 [(0, (Value.slice B bs.length bc)), (1, (Value.slice LA l.length lc)), (5, (Value.pointer (some ⟨b1, 0, none⟩))), (6, (i64 bad)), (7, (i64 ((ax : Nat) : Int))), (8, (i64 ((i : Nat) : Int))), (9, (i64 (((R.sized 3).2).end_))), (21, (Value.bool true)), (28, (i64 (cnt x 5))), (31, (Value.bool false)), (35, (Value.bool false)), (39, (Value.bool false)), (43, (Value.bool true)), (51, (Value.bool (bad != 0)))] (j := 3) (by kernel_rfl) (by kernel_rfl) ?_
              refine Ops.split (bad != 0) (fun h419 => ?_) (fun h419 => ?_)
              · rw [h419]
                have p420 : ¬ (bad = 0) := of_bne_t h419
                refine Ops.regs 4 [(0, (Value.slice B bs.length bc)), (1, (Value.slice LA l.length lc)), (5, (Value.pointer (some ⟨b1, 0, none⟩))), (6, (i64 bad)), (7, (i64 ((ax : Nat) : Int))), (8, (i64 ((i : Nat) : Int))), (9, (i64 (((R.sized 3).2).end_))), (21, (Value.bool true)), (28, (i64 (cnt x 5))), (31, (Value.bool false)), (35, (Value.bool false)), (39, (Value.bool false)), (43, (Value.bool true)), (51, (Value.bool true)), (55, (Value.bool ((((R.sized 3).2).end_) != bad)))] (j := 7) (by kernel_rfl) (by kernel_rfl) ?_
                have h421 : ((((R.sized 3).2).end_) != bad) = false := bne_f (by omega)
                rw [h421]
                refine Ops.regs 1 [(0, (Value.slice B bs.length bc)), (1, (Value.slice LA l.length lc)), (5, (Value.pointer (some ⟨b1, 0, none⟩))), (6, (i64 bad)), (7, (i64 ((ax : Nat) : Int))), (8, (i64 ((i : Nat) : Int))), (9, (i64 (((R.sized 3).2).end_))), (21, (Value.bool true)), (28, (i64 (cnt x 5))), (31, (Value.bool false)), (35, (Value.bool false)), (39, (Value.bool false)), (43, (Value.bool true)), (51, (Value.bool true)), (55, (Value.bool false)), (56, (Value.pointer (some ⟨b1, 0, none⟩)))] (j := 8) (by kernel_rfl) (by kernel_rfl) ?_
                refine Ops.call (by kernel_rfl) (d := (some 57)) (by kernel_rfl) (At_calls _ b1 A2 c3 ((R.sized 3).2) hok408 H417 F418 hne9) ?_
                rintro _ w422 ⟨rfl, K423⟩
                refine ⟨_, _, rfl, rfl, ?_⟩
                have K424 := K416.trans K423 (U := none_) (fun i h1 h2 => h2) (fun i h1 h2 => by exact h2)
                clear K416
                have H425 := H417.keep K423 (fun h => h)
                clear H417
                have F426 := RdO.keep0 F418 K423
                clear F418
                clear K423
                refine Ops.regs 4 [(0, (Value.slice B bs.length bc)), (1, (Value.slice LA l.length lc)), (5, (Value.pointer (some ⟨b1, 0, none⟩))), (6, (i64 bad)), (7, (i64 ((ax : Nat) : Int))), (8, (i64 ((i : Nat) : Int))), (9, (i64 (((R.sized 3).2).end_))), (21, (Value.bool true)), (28, (i64 (cnt x 5))), (31, (Value.bool false)), (35, (Value.bool false)), (39, (Value.bool false)), (43, (Value.bool true)), (61, (Value.bool (((((R.sized 3).2).pos : Nat) : Int) != ((ax : Nat) : Int))))] (j := 13) (by kernel_rfl) (by kernel_rfl) ?_
                refine Ops.done (by kernel_rfl) ?_
                have h427 : (((((R.sized 3).2).pos : Nat) : Int) != ((ax : Nat) : Int)) = false := bne_f (by omega)
                rw [h427]
                refine q_else (o := .tmp 61) (by kernel_rfl) rfl ?_
                refine q_skip (by kernel_rfl) ?_
                refine q_seq (by kernel_rfl) ?_
                refine q_seq (by kernel_rfl) ?_
                refine q_region (by kernel_rfl) ?_
                refine Ops.regs 3 [(0, (Value.slice B bs.length bc)), (1, (Value.slice LA l.length lc)), (5, (Value.pointer (some ⟨b1, 0, none⟩))), (6, (i64 bad)), (7, (i64 ((ax : Nat) : Int))), (8, (i64 ((i : Nat) : Int))), (9, (i64 (((R.sized 3).2).end_))), (21, (Value.bool true)), (28, (i64 (cnt x 5))), (31, (Value.bool false)), (35, (Value.bool false)), (39, (Value.bool false)), (43, (Value.bool true)), (61, (Value.bool false)), (64, (Value.bool ((((R.sized 3).2).end_) != 0)))] (j := 3) (by kernel_rfl) (by kernel_rfl) ?_
                refine Ops.split ((((R.sized 3).2).end_) != 0) (fun h428 => ?_) (fun h428 => ?_)
                · rw [h428]
                  have p429 : ¬ (((R.sized 3).2).end_ = 0) := of_bne_t h428
                  refine Ops.regs 3 [(0, (Value.slice B bs.length bc)), (1, (Value.slice LA l.length lc)), (5, (Value.pointer (some ⟨b1, 0, none⟩))), (6, (i64 bad)), (7, (i64 ((ax : Nat) : Int))), (8, (i64 ((i : Nat) : Int))), (9, (i64 (((R.sized 3).2).end_))), (21, (Value.bool true)), (28, (i64 (cnt x 5))), (31, (Value.bool false)), (35, (Value.bool false)), (39, (Value.bool false)), (43, (Value.bool true)), (61, (Value.bool false)), (67, (Value.bool ((((R.sized 3).2).end_) != 11)))] (j := 6) (by kernel_rfl) (by kernel_rfl) ?_
                  refine Ops.done (by kernel_rfl) ?_
                  refine q_cond (o := .tmp 67) (b := ((((R.sized 3).2).end_) != 11)) (by kernel_rfl) rfl (fun h430 => ?_) (fun h430 => ?_)
                  · rw [h430]
                    have p431 : ¬ (((R.sized 3).2).end_ = 11) := of_bne_t h430
                    refine q_seq (by kernel_rfl) ?_
                    refine q_region (by kernel_rfl) ?_
                    refine Ops.regs 2 [(0, (Value.slice B bs.length bc)), (1, (Value.slice LA l.length lc)), (5, (Value.pointer (some ⟨b1, 0, none⟩))), (6, (i64 (((R.sized 3).2).end_))), (7, (i64 ((ax : Nat) : Int))), (8, (i64 ((i : Nat) : Int))), (9, (i64 (((R.sized 3).2).end_))), (21, (Value.bool true)), (28, (i64 (cnt x 5))), (31, (Value.bool false)), (35, (Value.bool false)), (39, (Value.bool false)), (43, (Value.bool true)), (61, (Value.bool false)), (67, (Value.bool true))] (j := 2) (by kernel_rfl) (by kernel_rfl) ?_
                    refine Ops.done (by kernel_rfl) ?_
                    refine q_region (by kernel_rfl) ?_
                    refine Ops.regs 1 [(0, (Value.slice B bs.length bc)), (1, (Value.slice LA l.length lc)), (5, (Value.pointer (some ⟨b1, 0, none⟩))), (6, (i64 (((R.sized 3).2).end_))), (7, (i64 ((ax : Nat) : Int))), (8, (i64 ((i : Nat) : Int))), (9, (i64 (((R.sized 3).2).end_))), (21, (Value.bool true)), (28, (i64 (cnt x 5))), (31, (Value.bool false)), (35, (Value.bool false)), (39, (Value.bool false)), (43, (Value.bool true)), (61, (Value.bool false)), (67, (Value.bool true)), (69, (Value.pointer (some ⟨b1, 0, none⟩)))] (j := 1) (by kernel_rfl) (by kernel_rfl) ?_
                    refine Ops.call (by kernel_rfl) (d := (some 70)) (by kernel_rfl) (At_calls _ b1 A2 c3 ((R.sized 3).2) hok408 H425 F426 hne9) ?_
                    rintro _ w432 ⟨rfl, K433⟩
                    refine ⟨_, _, rfl, rfl, ?_⟩
                    have K434 := K424.trans K433 (U := none_) (fun i h1 h2 => h2) (fun i h1 h2 => by exact h2)
                    clear K424
                    have H435 := H425.keep K433 (fun h => h)
                    clear H425
                    have F436 := RdO.keep0 F426 K433
                    clear F426
                    clear K433
                    refine Ops.regs 1 [(0, (Value.slice B bs.length bc)), (1, (Value.slice LA l.length lc)), (5, (Value.pointer (some ⟨b1, 0, none⟩))), (6, (i64 (((R.sized 3).2).end_))), (7, (i64 ((((R.sized 3).2).pos : Nat) : Int))), (8, (i64 ((i : Nat) : Int))), (9, (i64 (((R.sized 3).2).end_))), (21, (Value.bool true)), (28, (i64 (cnt x 5))), (31, (Value.bool false)), (35, (Value.bool false)), (39, (Value.bool false)), (43, (Value.bool true)), (61, (Value.bool false)), (67, (Value.bool true))] (j := 3) (by kernel_rfl) (by kernel_rfl) ?_
                    refine Ops.done (by kernel_rfl) ?_
                    refine q_seq (by kernel_rfl) ?_
                    refine q_region (by kernel_rfl) ?_
                    refine Ops.regs 1 [(0, (Value.slice B bs.length bc)), (1, (Value.slice LA l.length lc)), (5, (Value.pointer (some ⟨b1, 0, none⟩))), (6, (i64 (((R.sized 3).2).end_))), (7, (i64 ((((R.sized 3).2).pos : Nat) : Int))), (8, (i64 ((i : Nat) : Int))), (9, (i64 (((R.sized 3).2).end_))), (21, (Value.bool true)), (28, (i64 (cnt x 5))), (31, (Value.bool false)), (35, (Value.bool false)), (39, (Value.bool false)), (43, (Value.bool true)), (61, (Value.bool false)), (67, (Value.bool true)), (71, (Value.pointer (some ⟨b1, 0, none⟩)))] (j := 1) (by kernel_rfl) (by kernel_rfl) ?_
                    refine Ops.call (by kernel_rfl) (d := (some 72)) (by kernel_rfl) (At_calls _ b1 A2 c3 ((R.sized 3).2) hok408 H435 F436 hne9) ?_
                    rintro _ w437 ⟨rfl, K438⟩
                    refine ⟨_, _, rfl, rfl, ?_⟩
                    have K439 := K434.trans K438 (U := none_) (fun i h1 h2 => h2) (fun i h1 h2 => by exact h2)
                    clear K434
                    have H440 := H435.keep K438 (fun h => h)
                    clear H435
                    have F441 := RdO.keep0 F436 K438
                    clear F436
                    clear K438
                    refine Ops.regs 3 [(0, (Value.slice B bs.length bc)), (1, (Value.slice LA l.length lc)), (5, (Value.pointer (some ⟨b1, 0, none⟩))), (6, (i64 (((R.sized 3).2).end_))), (7, (i64 ((((R.sized 3).2).pos : Nat) : Int))), (8, (i64 ((i : Nat) : Int))), (9, (i64 (((R.sized 3).2).end_))), (21, (Value.bool true)), (28, (i64 (cnt x 5))), (31, (Value.bool false)), (35, (Value.bool false)), (39, (Value.bool false)), (43, (Value.bool true)), (61, (Value.bool false)), (67, (Value.bool true)), (75, (Value.bool (decide (((((R.sized 3).2).pos : Nat) : Int) < ((((R.sized 3).2).pos : Nat) : Int)))))] (j := 5) (by kernel_rfl) (by kernel_rfl) ?_
                    have h442 : (decide (((((R.sized 3).2).pos : Nat) : Int) < ((((R.sized 3).2).pos : Nat) : Int))) = false := decide_eq_false (by omega)
                    rw [h442]
                    refine Ops.regs 1 [(0, (Value.slice B bs.length bc)), (1, (Value.slice LA l.length lc)), (5, (Value.pointer (some ⟨b1, 0, none⟩))), (6, (i64 (((R.sized 3).2).end_))), (7, (i64 ((((R.sized 3).2).pos : Nat) : Int))), (8, (i64 ((i : Nat) : Int))), (9, (i64 (((R.sized 3).2).end_))), (21, (Value.bool true)), (28, (i64 (cnt x 5))), (31, (Value.bool false)), (35, (Value.bool false)), (39, (Value.bool false)), (43, (Value.bool true)), (61, (Value.bool false)), (67, (Value.bool true)), (75, (Value.bool false)), (76, (Value.pointer (some ⟨b1, 0, none⟩)))] (j := 6) (by kernel_rfl) (by kernel_rfl) ?_
                    refine Ops.call (by kernel_rfl) (d := (some 77)) (by kernel_rfl) (At_calls _ b1 A2 c3 ((R.sized 3).2) hok408 H440 F441 hne9) ?_
                    rintro _ w443 ⟨rfl, K444⟩
                    refine ⟨_, _, rfl, rfl, ?_⟩
                    have K445 := K439.trans K444 (U := none_) (fun i h1 h2 => h2) (fun i h1 h2 => by exact h2)
                    clear K439
                    have H446 := H440.keep K444 (fun h => h)
                    clear H440
                    have F447 := RdO.keep0 F441 K444
                    clear F441
                    clear K444
                    refine Ops.regs 4 [(0, (Value.slice B bs.length bc)), (1, (Value.slice LA l.length lc)), (5, (Value.pointer (some ⟨b1, 0, none⟩))), (6, (i64 (((R.sized 3).2).end_))), (7, (i64 ((((R.sized 3).2).pos : Nat) : Int))), (8, (i64 ((i : Nat) : Int))), (9, (i64 (((R.sized 3).2).end_))), (21, (Value.bool true)), (28, (i64 (cnt x 5))), (31, (Value.bool false)), (35, (Value.bool false)), (39, (Value.bool false)), (43, (Value.bool true)), (61, (Value.bool false)), (67, (Value.bool true)), (81, (Value.bool (decide (((((R.sized 3).2).pos : Nat) : Int) > ((bs.length : Nat) : Int)))))] (j := 11) (by kernel_rfl) (by kernel_rfl) ?_
                    refine Ops.done (by kernel_rfl) ?_
                    have h448 : (decide (((((R.sized 3).2).pos : Nat) : Int) > ((bs.length : Nat) : Int))) = false := decide_eq_false (by omega)
                    rw [h448]
                    refine q_else (o := .tmp 81) (by kernel_rfl) rfl ?_
                    refine q_skip (by kernel_rfl) ?_
                    refine q_region (by kernel_rfl) ?_
                    refine Ops.regs 2 [(0, (Value.slice B bs.length bc)), (1, (Value.slice LA l.length lc)), (5, (Value.pointer (some ⟨b1, 0, none⟩))), (6, (i64 (((R.sized 3).2).end_))), (7, (i64 ((((R.sized 3).2).pos : Nat) : Int))), (8, (i64 ((i : Nat) : Int))), (9, (i64 (((R.sized 3).2).end_))), (21, (Value.bool true)), (23, (i64 (IntKind.i64.wrap (((i : Nat) : Int) + 1)))), (28, (i64 (cnt x 5))), (31, (Value.bool false)), (35, (Value.bool false)), (39, (Value.bool false)), (43, (Value.bool true)), (61, (Value.bool false)), (67, (Value.bool true)), (81, (Value.bool false))] (j := 2) (by kernel_rfl) (by kernel_rfl) ?_
                    have e449 : IntKind.i64.wrap (((i : Nat) : Int) + 1) = ((i + 1 : Nat) : Int) := by rw [wrap_i64 (by omega) (by omega)]; omega
                    rw [e449]
                    clear e449
                    refine Ops.regs 1 [(0, (Value.slice B bs.length bc)), (1, (Value.slice LA l.length lc)), (5, (Value.pointer (some ⟨b1, 0, none⟩))), (6, (i64 (((R.sized 3).2).end_))), (7, (i64 ((((R.sized 3).2).pos : Nat) : Int))), (8, (i64 ((i + 1 : Nat) : Int))), (9, (i64 (((R.sized 3).2).end_))), (21, (Value.bool true)), (28, (i64 (cnt x 5))), (31, (Value.bool false)), (35, (Value.bool false)), (39, (Value.bool false)), (43, (Value.bool true)), (61, (Value.bool false)), (67, (Value.bool true)), (81, (Value.bool false))] (j := 3) (by kernel_rfl) (by kernel_rfl) ?_
                    refine Ops.keep (R := [(0, (Value.slice B bs.length bc)), (1, (Value.slice LA l.length lc)), (5, (Value.pointer (some ⟨b1, 0, none⟩))), (6, (i64 (((R.sized 3).2).end_))), (7, (i64 ((((R.sized 3).2).pos : Nat) : Int))), (8, (i64 ((i + 1 : Nat) : Int)))]) (by kernel_rfl) ?_
                    refine Ops.done (by kernel_rfl) ?_
                    exact ⟨(i + 1, (R.sized 3).2, ((R.sized 3).2).end_, ((R.sized 3).2).pos), ⟨rfl, F447, hok408, (hgb.trans hbs), (by omega), (by omega), (by omega), (by omega), K445, H446⟩, (show 60 - (i + 1) < 60 - i from by omega)⟩
                  · rw [h430]
                    have p450 : ((R.sized 3).2).end_ = 11 := of_bne_f h430
                    refine q_skip (by kernel_rfl) ?_
                    refine q_seq (by kernel_rfl) ?_
                    refine q_region (by kernel_rfl) ?_
                    refine Ops.regs 1 [(0, (Value.slice B bs.length bc)), (1, (Value.slice LA l.length lc)), (5, (Value.pointer (some ⟨b1, 0, none⟩))), (6, (i64 bad)), (7, (i64 ((ax : Nat) : Int))), (8, (i64 ((i : Nat) : Int))), (9, (i64 (((R.sized 3).2).end_))), (21, (Value.bool true)), (28, (i64 (cnt x 5))), (31, (Value.bool false)), (35, (Value.bool false)), (39, (Value.bool false)), (43, (Value.bool true)), (61, (Value.bool false)), (67, (Value.bool false)), (71, (Value.pointer (some ⟨b1, 0, none⟩)))] (j := 1) (by kernel_rfl) (by kernel_rfl) ?_
                    refine Ops.call (by kernel_rfl) (d := (some 72)) (by kernel_rfl) (At_calls _ b1 A2 c3 ((R.sized 3).2) hok408 H425 F426 hne9) ?_
                    rintro _ w451 ⟨rfl, K452⟩
                    refine ⟨_, _, rfl, rfl, ?_⟩
                    have K453 := K424.trans K452 (U := none_) (fun i h1 h2 => h2) (fun i h1 h2 => by exact h2)
                    clear K424
                    have H454 := H425.keep K452 (fun h => h)
                    clear H425
                    have F455 := RdO.keep0 F426 K452
                    clear F426
                    clear K452
                    refine Ops.regs 3 [(0, (Value.slice B bs.length bc)), (1, (Value.slice LA l.length lc)), (5, (Value.pointer (some ⟨b1, 0, none⟩))), (6, (i64 bad)), (7, (i64 ((ax : Nat) : Int))), (8, (i64 ((i : Nat) : Int))), (9, (i64 (((R.sized 3).2).end_))), (21, (Value.bool true)), (28, (i64 (cnt x 5))), (31, (Value.bool false)), (35, (Value.bool false)), (39, (Value.bool false)), (43, (Value.bool true)), (61, (Value.bool false)), (67, (Value.bool false)), (75, (Value.bool (decide (((((R.sized 3).2).pos : Nat) : Int) < ((ax : Nat) : Int)))))] (j := 5) (by kernel_rfl) (by kernel_rfl) ?_
                    have h456 : (decide (((((R.sized 3).2).pos : Nat) : Int) < ((ax : Nat) : Int))) = false := decide_eq_false (by omega)
                    rw [h456]
                    refine Ops.regs 1 [(0, (Value.slice B bs.length bc)), (1, (Value.slice LA l.length lc)), (5, (Value.pointer (some ⟨b1, 0, none⟩))), (6, (i64 bad)), (7, (i64 ((ax : Nat) : Int))), (8, (i64 ((i : Nat) : Int))), (9, (i64 (((R.sized 3).2).end_))), (21, (Value.bool true)), (28, (i64 (cnt x 5))), (31, (Value.bool false)), (35, (Value.bool false)), (39, (Value.bool false)), (43, (Value.bool true)), (61, (Value.bool false)), (67, (Value.bool false)), (75, (Value.bool false)), (76, (Value.pointer (some ⟨b1, 0, none⟩)))] (j := 6) (by kernel_rfl) (by kernel_rfl) ?_
                    refine Ops.call (by kernel_rfl) (d := (some 77)) (by kernel_rfl) (At_calls _ b1 A2 c3 ((R.sized 3).2) hok408 H454 F455 hne9) ?_
                    rintro _ w457 ⟨rfl, K458⟩
                    refine ⟨_, _, rfl, rfl, ?_⟩
                    have K459 := K453.trans K458 (U := none_) (fun i h1 h2 => h2) (fun i h1 h2 => by exact h2)
                    clear K453
                    have H460 := H454.keep K458 (fun h => h)
                    clear H454
                    have F461 := RdO.keep0 F455 K458
                    clear F455
                    clear K458
                    refine Ops.regs 4 [(0, (Value.slice B bs.length bc)), (1, (Value.slice LA l.length lc)), (5, (Value.pointer (some ⟨b1, 0, none⟩))), (6, (i64 bad)), (7, (i64 ((ax : Nat) : Int))), (8, (i64 ((i : Nat) : Int))), (9, (i64 (((R.sized 3).2).end_))), (21, (Value.bool true)), (28, (i64 (cnt x 5))), (31, (Value.bool false)), (35, (Value.bool false)), (39, (Value.bool false)), (43, (Value.bool true)), (61, (Value.bool false)), (67, (Value.bool false)), (81, (Value.bool (decide (((((R.sized 3).2).pos : Nat) : Int) > ((bs.length : Nat) : Int)))))] (j := 11) (by kernel_rfl) (by kernel_rfl) ?_
                    refine Ops.done (by kernel_rfl) ?_
                    have h462 : (decide (((((R.sized 3).2).pos : Nat) : Int) > ((bs.length : Nat) : Int))) = false := decide_eq_false (by omega)
                    rw [h462]
                    refine q_else (o := .tmp 81) (by kernel_rfl) rfl ?_
                    refine q_skip (by kernel_rfl) ?_
                    refine q_region (by kernel_rfl) ?_
                    refine Ops.regs 2 [(0, (Value.slice B bs.length bc)), (1, (Value.slice LA l.length lc)), (5, (Value.pointer (some ⟨b1, 0, none⟩))), (6, (i64 bad)), (7, (i64 ((ax : Nat) : Int))), (8, (i64 ((i : Nat) : Int))), (9, (i64 (((R.sized 3).2).end_))), (21, (Value.bool true)), (23, (i64 (IntKind.i64.wrap (((i : Nat) : Int) + 1)))), (28, (i64 (cnt x 5))), (31, (Value.bool false)), (35, (Value.bool false)), (39, (Value.bool false)), (43, (Value.bool true)), (61, (Value.bool false)), (67, (Value.bool false)), (81, (Value.bool false))] (j := 2) (by kernel_rfl) (by kernel_rfl) ?_
                    have e463 : IntKind.i64.wrap (((i : Nat) : Int) + 1) = ((i + 1 : Nat) : Int) := by rw [wrap_i64 (by omega) (by omega)]; omega
                    rw [e463]
                    clear e463
                    refine Ops.regs 1 [(0, (Value.slice B bs.length bc)), (1, (Value.slice LA l.length lc)), (5, (Value.pointer (some ⟨b1, 0, none⟩))), (6, (i64 bad)), (7, (i64 ((ax : Nat) : Int))), (8, (i64 ((i + 1 : Nat) : Int))), (9, (i64 (((R.sized 3).2).end_))), (21, (Value.bool true)), (28, (i64 (cnt x 5))), (31, (Value.bool false)), (35, (Value.bool false)), (39, (Value.bool false)), (43, (Value.bool true)), (61, (Value.bool false)), (67, (Value.bool false)), (81, (Value.bool false))] (j := 3) (by kernel_rfl) (by kernel_rfl) ?_
                    refine Ops.keep (R := [(0, (Value.slice B bs.length bc)), (1, (Value.slice LA l.length lc)), (5, (Value.pointer (some ⟨b1, 0, none⟩))), (6, (i64 bad)), (7, (i64 ((ax : Nat) : Int))), (8, (i64 ((i + 1 : Nat) : Int)))]) (by kernel_rfl) ?_
                    refine Ops.done (by kernel_rfl) ?_
                    exact ⟨(i + 1, (R.sized 3).2, bad, ax), ⟨rfl, F461, hok408, (hgb.trans hbs), (by omega), (by omega), (by omega), (by omega), K459, H460⟩, (show 60 - (i + 1) < 60 - i from by omega)⟩
                · rw [h428]
                  have p464 : ((R.sized 3).2).end_ = 0 := of_bne_f h428
                  refine Ops.regs 3 [(0, (Value.slice B bs.length bc)), (1, (Value.slice LA l.length lc)), (5, (Value.pointer (some ⟨b1, 0, none⟩))), (6, (i64 bad)), (7, (i64 ((ax : Nat) : Int))), (8, (i64 ((i : Nat) : Int))), (9, (i64 (((R.sized 3).2).end_))), (21, (Value.bool true)), (28, (i64 (cnt x 5))), (31, (Value.bool false)), (35, (Value.bool false)), (39, (Value.bool false)), (43, (Value.bool true)), (61, (Value.bool false)), (67, (Value.bool false))] (j := 6) (by kernel_rfl) (by kernel_rfl) ?_
                  refine Ops.done (by kernel_rfl) ?_
                  refine q_else (o := .tmp 67) (by kernel_rfl) rfl ?_
                  refine q_skip (by kernel_rfl) ?_
                  refine q_seq (by kernel_rfl) ?_
                  refine q_region (by kernel_rfl) ?_
                  refine Ops.regs 1 [(0, (Value.slice B bs.length bc)), (1, (Value.slice LA l.length lc)), (5, (Value.pointer (some ⟨b1, 0, none⟩))), (6, (i64 bad)), (7, (i64 ((ax : Nat) : Int))), (8, (i64 ((i : Nat) : Int))), (9, (i64 (((R.sized 3).2).end_))), (21, (Value.bool true)), (28, (i64 (cnt x 5))), (31, (Value.bool false)), (35, (Value.bool false)), (39, (Value.bool false)), (43, (Value.bool true)), (61, (Value.bool false)), (67, (Value.bool false)), (71, (Value.pointer (some ⟨b1, 0, none⟩)))] (j := 1) (by kernel_rfl) (by kernel_rfl) ?_
                  refine Ops.call (by kernel_rfl) (d := (some 72)) (by kernel_rfl) (At_calls _ b1 A2 c3 ((R.sized 3).2) hok408 H425 F426 hne9) ?_
                  rintro _ w465 ⟨rfl, K466⟩
                  refine ⟨_, _, rfl, rfl, ?_⟩
                  have K467 := K424.trans K466 (U := none_) (fun i h1 h2 => h2) (fun i h1 h2 => by exact h2)
                  clear K424
                  have H468 := H425.keep K466 (fun h => h)
                  clear H425
                  have F469 := RdO.keep0 F426 K466
                  clear F426
                  clear K466
                  refine Ops.regs 3 [(0, (Value.slice B bs.length bc)), (1, (Value.slice LA l.length lc)), (5, (Value.pointer (some ⟨b1, 0, none⟩))), (6, (i64 bad)), (7, (i64 ((ax : Nat) : Int))), (8, (i64 ((i : Nat) : Int))), (9, (i64 (((R.sized 3).2).end_))), (21, (Value.bool true)), (28, (i64 (cnt x 5))), (31, (Value.bool false)), (35, (Value.bool false)), (39, (Value.bool false)), (43, (Value.bool true)), (61, (Value.bool false)), (67, (Value.bool false)), (75, (Value.bool (decide (((((R.sized 3).2).pos : Nat) : Int) < ((ax : Nat) : Int)))))] (j := 5) (by kernel_rfl) (by kernel_rfl) ?_
                  have h470 : (decide (((((R.sized 3).2).pos : Nat) : Int) < ((ax : Nat) : Int))) = false := decide_eq_false (by omega)
                  rw [h470]
                  refine Ops.regs 1 [(0, (Value.slice B bs.length bc)), (1, (Value.slice LA l.length lc)), (5, (Value.pointer (some ⟨b1, 0, none⟩))), (6, (i64 bad)), (7, (i64 ((ax : Nat) : Int))), (8, (i64 ((i : Nat) : Int))), (9, (i64 (((R.sized 3).2).end_))), (21, (Value.bool true)), (28, (i64 (cnt x 5))), (31, (Value.bool false)), (35, (Value.bool false)), (39, (Value.bool false)), (43, (Value.bool true)), (61, (Value.bool false)), (67, (Value.bool false)), (75, (Value.bool false)), (76, (Value.pointer (some ⟨b1, 0, none⟩)))] (j := 6) (by kernel_rfl) (by kernel_rfl) ?_
                  refine Ops.call (by kernel_rfl) (d := (some 77)) (by kernel_rfl) (At_calls _ b1 A2 c3 ((R.sized 3).2) hok408 H468 F469 hne9) ?_
                  rintro _ w471 ⟨rfl, K472⟩
                  refine ⟨_, _, rfl, rfl, ?_⟩
                  have K473 := K467.trans K472 (U := none_) (fun i h1 h2 => h2) (fun i h1 h2 => by exact h2)
                  clear K467
                  have H474 := H468.keep K472 (fun h => h)
                  clear H468
                  have F475 := RdO.keep0 F469 K472
                  clear F469
                  clear K472
                  refine Ops.regs 4 [(0, (Value.slice B bs.length bc)), (1, (Value.slice LA l.length lc)), (5, (Value.pointer (some ⟨b1, 0, none⟩))), (6, (i64 bad)), (7, (i64 ((ax : Nat) : Int))), (8, (i64 ((i : Nat) : Int))), (9, (i64 (((R.sized 3).2).end_))), (21, (Value.bool true)), (28, (i64 (cnt x 5))), (31, (Value.bool false)), (35, (Value.bool false)), (39, (Value.bool false)), (43, (Value.bool true)), (61, (Value.bool false)), (67, (Value.bool false)), (81, (Value.bool (decide (((((R.sized 3).2).pos : Nat) : Int) > ((bs.length : Nat) : Int)))))] (j := 11) (by kernel_rfl) (by kernel_rfl) ?_
                  refine Ops.done (by kernel_rfl) ?_
                  have h476 : (decide (((((R.sized 3).2).pos : Nat) : Int) > ((bs.length : Nat) : Int))) = false := decide_eq_false (by omega)
                  rw [h476]
                  refine q_else (o := .tmp 81) (by kernel_rfl) rfl ?_
                  refine q_skip (by kernel_rfl) ?_
                  refine q_region (by kernel_rfl) ?_
                  refine Ops.regs 2 [(0, (Value.slice B bs.length bc)), (1, (Value.slice LA l.length lc)), (5, (Value.pointer (some ⟨b1, 0, none⟩))), (6, (i64 bad)), (7, (i64 ((ax : Nat) : Int))), (8, (i64 ((i : Nat) : Int))), (9, (i64 (((R.sized 3).2).end_))), (21, (Value.bool true)), (23, (i64 (IntKind.i64.wrap (((i : Nat) : Int) + 1)))), (28, (i64 (cnt x 5))), (31, (Value.bool false)), (35, (Value.bool false)), (39, (Value.bool false)), (43, (Value.bool true)), (61, (Value.bool false)), (67, (Value.bool false)), (81, (Value.bool false))] (j := 2) (by kernel_rfl) (by kernel_rfl) ?_
                  have e477 : IntKind.i64.wrap (((i : Nat) : Int) + 1) = ((i + 1 : Nat) : Int) := by rw [wrap_i64 (by omega) (by omega)]; omega
                  rw [e477]
                  clear e477
                  refine Ops.regs 1 [(0, (Value.slice B bs.length bc)), (1, (Value.slice LA l.length lc)), (5, (Value.pointer (some ⟨b1, 0, none⟩))), (6, (i64 bad)), (7, (i64 ((ax : Nat) : Int))), (8, (i64 ((i + 1 : Nat) : Int))), (9, (i64 (((R.sized 3).2).end_))), (21, (Value.bool true)), (28, (i64 (cnt x 5))), (31, (Value.bool false)), (35, (Value.bool false)), (39, (Value.bool false)), (43, (Value.bool true)), (61, (Value.bool false)), (67, (Value.bool false)), (81, (Value.bool false))] (j := 3) (by kernel_rfl) (by kernel_rfl) ?_
                  refine Ops.keep (R := [(0, (Value.slice B bs.length bc)), (1, (Value.slice LA l.length lc)), (5, (Value.pointer (some ⟨b1, 0, none⟩))), (6, (i64 bad)), (7, (i64 ((ax : Nat) : Int))), (8, (i64 ((i + 1 : Nat) : Int)))]) (by kernel_rfl) ?_
                  refine Ops.done (by kernel_rfl) ?_
                  exact ⟨(i + 1, (R.sized 3).2, bad, ax), ⟨rfl, F475, hok408, (hgb.trans hbs), (by omega), (by omega), (by omega), (by omega), K473, H474⟩, (show 60 - (i + 1) < 60 - i from by omega)⟩
              · rw [h419]
                have p478 : bad = 0 := of_bne_f h419
                refine Ops.regs 10 [(0, (Value.slice B bs.length bc)), (1, (Value.slice LA l.length lc)), (5, (Value.pointer (some ⟨b1, 0, none⟩))), (6, (i64 bad)), (7, (i64 ((ax : Nat) : Int))), (8, (i64 ((i : Nat) : Int))), (9, (i64 (((R.sized 3).2).end_))), (21, (Value.bool true)), (28, (i64 (cnt x 5))), (31, (Value.bool false)), (35, (Value.bool false)), (39, (Value.bool false)), (43, (Value.bool true)), (61, (Value.bool false))] (j := 13) (by kernel_rfl) (by kernel_rfl) ?_
                refine Ops.done (by kernel_rfl) ?_
                refine q_else (o := .tmp 61) (by kernel_rfl) rfl ?_
                refine q_skip (by kernel_rfl) ?_
                refine q_seq (by kernel_rfl) ?_
                refine q_seq (by kernel_rfl) ?_
                refine q_region (by kernel_rfl) ?_
                refine Ops.regs 3 [(0, (Value.slice B bs.length bc)), (1, (Value.slice LA l.length lc)), (5, (Value.pointer (some ⟨b1, 0, none⟩))), (6, (i64 bad)), (7, (i64 ((ax : Nat) : Int))), (8, (i64 ((i : Nat) : Int))), (9, (i64 (((R.sized 3).2).end_))), (21, (Value.bool true)), (28, (i64 (cnt x 5))), (31, (Value.bool false)), (35, (Value.bool false)), (39, (Value.bool false)), (43, (Value.bool true)), (61, (Value.bool false)), (64, (Value.bool ((((R.sized 3).2).end_) != 0)))] (j := 3) (by kernel_rfl) (by kernel_rfl) ?_
                refine Ops.split ((((R.sized 3).2).end_) != 0) (fun h479 => ?_) (fun h479 => ?_)
                · rw [h479]
                  have p480 : ¬ (((R.sized 3).2).end_ = 0) := of_bne_t h479
                  refine Ops.regs 3 [(0, (Value.slice B bs.length bc)), (1, (Value.slice LA l.length lc)), (5, (Value.pointer (some ⟨b1, 0, none⟩))), (6, (i64 bad)), (7, (i64 ((ax : Nat) : Int))), (8, (i64 ((i : Nat) : Int))), (9, (i64 (((R.sized 3).2).end_))), (21, (Value.bool true)), (28, (i64 (cnt x 5))), (31, (Value.bool false)), (35, (Value.bool false)), (39, (Value.bool false)), (43, (Value.bool true)), (61, (Value.bool false)), (67, (Value.bool ((((R.sized 3).2).end_) != 11)))] (j := 6) (by kernel_rfl) (by kernel_rfl) ?_
                  refine Ops.done (by kernel_rfl) ?_
                  refine q_cond (o := .tmp 67) (b := ((((R.sized 3).2).end_) != 11)) (by kernel_rfl) rfl (fun h481 => ?_) (fun h481 => ?_)
                  · rw [h481]
                    have p482 : ¬ (((R.sized 3).2).end_ = 11) := of_bne_t h481
                    refine q_seq (by kernel_rfl) ?_
                    refine q_region (by kernel_rfl) ?_
                    refine Ops.regs 2 [(0, (Value.slice B bs.length bc)), (1, (Value.slice LA l.length lc)), (5, (Value.pointer (some ⟨b1, 0, none⟩))), (6, (i64 (((R.sized 3).2).end_))), (7, (i64 ((ax : Nat) : Int))), (8, (i64 ((i : Nat) : Int))), (9, (i64 (((R.sized 3).2).end_))), (21, (Value.bool true)), (28, (i64 (cnt x 5))), (31, (Value.bool false)), (35, (Value.bool false)), (39, (Value.bool false)), (43, (Value.bool true)), (61, (Value.bool false)), (67, (Value.bool true))] (j := 2) (by kernel_rfl) (by kernel_rfl) ?_
                    refine Ops.done (by kernel_rfl) ?_
                    refine q_region (by kernel_rfl) ?_
                    refine Ops.regs 1 [(0, (Value.slice B bs.length bc)), (1, (Value.slice LA l.length lc)), (5, (Value.pointer (some ⟨b1, 0, none⟩))), (6, (i64 (((R.sized 3).2).end_))), (7, (i64 ((ax : Nat) : Int))), (8, (i64 ((i : Nat) : Int))), (9, (i64 (((R.sized 3).2).end_))), (21, (Value.bool true)), (28, (i64 (cnt x 5))), (31, (Value.bool false)), (35, (Value.bool false)), (39, (Value.bool false)), (43, (Value.bool true)), (61, (Value.bool false)), (67, (Value.bool true)), (69, (Value.pointer (some ⟨b1, 0, none⟩)))] (j := 1) (by kernel_rfl) (by kernel_rfl) ?_
                    refine Ops.call (by kernel_rfl) (d := (some 70)) (by kernel_rfl) (At_calls _ b1 A2 c3 ((R.sized 3).2) hok408 H417 F418 hne9) ?_
                    rintro _ w483 ⟨rfl, K484⟩
                    refine ⟨_, _, rfl, rfl, ?_⟩
                    have K485 := K416.trans K484 (U := none_) (fun i h1 h2 => h2) (fun i h1 h2 => by exact h2)
                    clear K416
                    have H486 := H417.keep K484 (fun h => h)
                    clear H417
                    have F487 := RdO.keep0 F418 K484
                    clear F418
                    clear K484
                    refine Ops.regs 1 [(0, (Value.slice B bs.length bc)), (1, (Value.slice LA l.length lc)), (5, (Value.pointer (some ⟨b1, 0, none⟩))), (6, (i64 (((R.sized 3).2).end_))), (7, (i64 ((((R.sized 3).2).pos : Nat) : Int))), (8, (i64 ((i : Nat) : Int))), (9, (i64 (((R.sized 3).2).end_))), (21, (Value.bool true)), (28, (i64 (cnt x 5))), (31, (Value.bool false)), (35, (Value.bool false)), (39, (Value.bool false)), (43, (Value.bool true)), (61, (Value.bool false)), (67, (Value.bool true))] (j := 3) (by kernel_rfl) (by kernel_rfl) ?_
                    refine Ops.done (by kernel_rfl) ?_
                    refine q_seq (by kernel_rfl) ?_
                    refine q_region (by kernel_rfl) ?_
                    refine Ops.regs 1 [(0, (Value.slice B bs.length bc)), (1, (Value.slice LA l.length lc)), (5, (Value.pointer (some ⟨b1, 0, none⟩))), (6, (i64 (((R.sized 3).2).end_))), (7, (i64 ((((R.sized 3).2).pos : Nat) : Int))), (8, (i64 ((i : Nat) : Int))), (9, (i64 (((R.sized 3).2).end_))), (21, (Value.bool true)), (28, (i64 (cnt x 5))), (31, (Value.bool false)), (35, (Value.bool false)), (39, (Value.bool false)), (43, (Value.bool true)), (61, (Value.bool false)), (67, (Value.bool true)), (71, (Value.pointer (some ⟨b1, 0, none⟩)))] (j := 1) (by kernel_rfl) (by kernel_rfl) ?_
                    refine Ops.call (by kernel_rfl) (d := (some 72)) (by kernel_rfl) (At_calls _ b1 A2 c3 ((R.sized 3).2) hok408 H486 F487 hne9) ?_
                    rintro _ w488 ⟨rfl, K489⟩
                    refine ⟨_, _, rfl, rfl, ?_⟩
                    have K490 := K485.trans K489 (U := none_) (fun i h1 h2 => h2) (fun i h1 h2 => by exact h2)
                    clear K485
                    have H491 := H486.keep K489 (fun h => h)
                    clear H486
                    have F492 := RdO.keep0 F487 K489
                    clear F487
                    clear K489
                    refine Ops.regs 3 [(0, (Value.slice B bs.length bc)), (1, (Value.slice LA l.length lc)), (5, (Value.pointer (some ⟨b1, 0, none⟩))), (6, (i64 (((R.sized 3).2).end_))), (7, (i64 ((((R.sized 3).2).pos : Nat) : Int))), (8, (i64 ((i : Nat) : Int))), (9, (i64 (((R.sized 3).2).end_))), (21, (Value.bool true)), (28, (i64 (cnt x 5))), (31, (Value.bool false)), (35, (Value.bool false)), (39, (Value.bool false)), (43, (Value.bool true)), (61, (Value.bool false)), (67, (Value.bool true)), (75, (Value.bool (decide (((((R.sized 3).2).pos : Nat) : Int) < ((((R.sized 3).2).pos : Nat) : Int)))))] (j := 5) (by kernel_rfl) (by kernel_rfl) ?_
                    have h493 : (decide (((((R.sized 3).2).pos : Nat) : Int) < ((((R.sized 3).2).pos : Nat) : Int))) = false := decide_eq_false (by omega)
                    rw [h493]
                    refine Ops.regs 1 [(0, (Value.slice B bs.length bc)), (1, (Value.slice LA l.length lc)), (5, (Value.pointer (some ⟨b1, 0, none⟩))), (6, (i64 (((R.sized 3).2).end_))), (7, (i64 ((((R.sized 3).2).pos : Nat) : Int))), (8, (i64 ((i : Nat) : Int))), (9, (i64 (((R.sized 3).2).end_))), (21, (Value.bool true)), (28, (i64 (cnt x 5))), (31, (Value.bool false)), (35, (Value.bool false)), (39, (Value.bool false)), (43, (Value.bool true)), (61, (Value.bool false)), (67, (Value.bool true)), (75, (Value.bool false)), (76, (Value.pointer (some ⟨b1, 0, none⟩)))] (j := 6) (by kernel_rfl) (by kernel_rfl) ?_
                    refine Ops.call (by kernel_rfl) (d := (some 77)) (by kernel_rfl) (At_calls _ b1 A2 c3 ((R.sized 3).2) hok408 H491 F492 hne9) ?_
                    rintro _ w494 ⟨rfl, K495⟩
                    refine ⟨_, _, rfl, rfl, ?_⟩
                    have K496 := K490.trans K495 (U := none_) (fun i h1 h2 => h2) (fun i h1 h2 => by exact h2)
                    clear K490
                    have H497 := H491.keep K495 (fun h => h)
                    clear H491
                    have F498 := RdO.keep0 F492 K495
                    clear F492
                    clear K495
                    refine Ops.regs 4 [(0, (Value.slice B bs.length bc)), (1, (Value.slice LA l.length lc)), (5, (Value.pointer (some ⟨b1, 0, none⟩))), (6, (i64 (((R.sized 3).2).end_))), (7, (i64 ((((R.sized 3).2).pos : Nat) : Int))), (8, (i64 ((i : Nat) : Int))), (9, (i64 (((R.sized 3).2).end_))), (21, (Value.bool true)), (28, (i64 (cnt x 5))), (31, (Value.bool false)), (35, (Value.bool false)), (39, (Value.bool false)), (43, (Value.bool true)), (61, (Value.bool false)), (67, (Value.bool true)), (81, (Value.bool (decide (((((R.sized 3).2).pos : Nat) : Int) > ((bs.length : Nat) : Int)))))] (j := 11) (by kernel_rfl) (by kernel_rfl) ?_
                    refine Ops.done (by kernel_rfl) ?_
                    have h499 : (decide (((((R.sized 3).2).pos : Nat) : Int) > ((bs.length : Nat) : Int))) = false := decide_eq_false (by omega)
                    rw [h499]
                    refine q_else (o := .tmp 81) (by kernel_rfl) rfl ?_
                    refine q_skip (by kernel_rfl) ?_
                    refine q_region (by kernel_rfl) ?_
                    refine Ops.regs 2 [(0, (Value.slice B bs.length bc)), (1, (Value.slice LA l.length lc)), (5, (Value.pointer (some ⟨b1, 0, none⟩))), (6, (i64 (((R.sized 3).2).end_))), (7, (i64 ((((R.sized 3).2).pos : Nat) : Int))), (8, (i64 ((i : Nat) : Int))), (9, (i64 (((R.sized 3).2).end_))), (21, (Value.bool true)), (23, (i64 (IntKind.i64.wrap (((i : Nat) : Int) + 1)))), (28, (i64 (cnt x 5))), (31, (Value.bool false)), (35, (Value.bool false)), (39, (Value.bool false)), (43, (Value.bool true)), (61, (Value.bool false)), (67, (Value.bool true)), (81, (Value.bool false))] (j := 2) (by kernel_rfl) (by kernel_rfl) ?_
                    have e500 : IntKind.i64.wrap (((i : Nat) : Int) + 1) = ((i + 1 : Nat) : Int) := by rw [wrap_i64 (by omega) (by omega)]; omega
                    rw [e500]
                    clear e500
                    refine Ops.regs 1 [(0, (Value.slice B bs.length bc)), (1, (Value.slice LA l.length lc)), (5, (Value.pointer (some ⟨b1, 0, none⟩))), (6, (i64 (((R.sized 3).2).end_))), (7, (i64 ((((R.sized 3).2).pos : Nat) : Int))), (8, (i64 ((i + 1 : Nat) : Int))), (9, (i64 (((R.sized 3).2).end_))), (21, (Value.bool true)), (28, (i64 (cnt x 5))), (31, (Value.bool false)), (35, (Value.bool false)), (39, (Value.bool false)), (43, (Value.bool true)), (61, (Value.bool false)), (67, (Value.bool true)), (81, (Value.bool false))] (j := 3) (by kernel_rfl) (by kernel_rfl) ?_
                    refine Ops.keep (R := [(0, (Value.slice B bs.length bc)), (1, (Value.slice LA l.length lc)), (5, (Value.pointer (some ⟨b1, 0, none⟩))), (6, (i64 (((R.sized 3).2).end_))), (7, (i64 ((((R.sized 3).2).pos : Nat) : Int))), (8, (i64 ((i + 1 : Nat) : Int)))]) (by kernel_rfl) ?_
                    refine Ops.done (by kernel_rfl) ?_
                    exact ⟨(i + 1, (R.sized 3).2, ((R.sized 3).2).end_, ((R.sized 3).2).pos), ⟨rfl, F498, hok408, (hgb.trans hbs), (by omega), (by omega), (by omega), (by omega), K496, H497⟩, (show 60 - (i + 1) < 60 - i from by omega)⟩
                  · rw [h481]
                    have p501 : ((R.sized 3).2).end_ = 11 := of_bne_f h481
                    refine q_skip (by kernel_rfl) ?_
                    refine q_seq (by kernel_rfl) ?_
                    refine q_region (by kernel_rfl) ?_
                    refine Ops.regs 1 [(0, (Value.slice B bs.length bc)), (1, (Value.slice LA l.length lc)), (5, (Value.pointer (some ⟨b1, 0, none⟩))), (6, (i64 bad)), (7, (i64 ((ax : Nat) : Int))), (8, (i64 ((i : Nat) : Int))), (9, (i64 (((R.sized 3).2).end_))), (21, (Value.bool true)), (28, (i64 (cnt x 5))), (31, (Value.bool false)), (35, (Value.bool false)), (39, (Value.bool false)), (43, (Value.bool true)), (61, (Value.bool false)), (67, (Value.bool false)), (71, (Value.pointer (some ⟨b1, 0, none⟩)))] (j := 1) (by kernel_rfl) (by kernel_rfl) ?_
                    refine Ops.call (by kernel_rfl) (d := (some 72)) (by kernel_rfl) (At_calls _ b1 A2 c3 ((R.sized 3).2) hok408 H417 F418 hne9) ?_
                    rintro _ w502 ⟨rfl, K503⟩
                    refine ⟨_, _, rfl, rfl, ?_⟩
                    have K504 := K416.trans K503 (U := none_) (fun i h1 h2 => h2) (fun i h1 h2 => by exact h2)
                    clear K416
                    have H505 := H417.keep K503 (fun h => h)
                    clear H417
                    have F506 := RdO.keep0 F418 K503
                    clear F418
                    clear K503
                    refine Ops.regs 3 [(0, (Value.slice B bs.length bc)), (1, (Value.slice LA l.length lc)), (5, (Value.pointer (some ⟨b1, 0, none⟩))), (6, (i64 bad)), (7, (i64 ((ax : Nat) : Int))), (8, (i64 ((i : Nat) : Int))), (9, (i64 (((R.sized 3).2).end_))), (21, (Value.bool true)), (28, (i64 (cnt x 5))), (31, (Value.bool false)), (35, (Value.bool false)), (39, (Value.bool false)), (43, (Value.bool true)), (61, (Value.bool false)), (67, (Value.bool false)), (75, (Value.bool (decide (((((R.sized 3).2).pos : Nat) : Int) < ((ax : Nat) : Int)))))] (j := 5) (by kernel_rfl) (by kernel_rfl) ?_
                    have h507 : (decide (((((R.sized 3).2).pos : Nat) : Int) < ((ax : Nat) : Int))) = false := decide_eq_false (by omega)
                    rw [h507]
                    refine Ops.regs 1 [(0, (Value.slice B bs.length bc)), (1, (Value.slice LA l.length lc)), (5, (Value.pointer (some ⟨b1, 0, none⟩))), (6, (i64 bad)), (7, (i64 ((ax : Nat) : Int))), (8, (i64 ((i : Nat) : Int))), (9, (i64 (((R.sized 3).2).end_))), (21, (Value.bool true)), (28, (i64 (cnt x 5))), (31, (Value.bool false)), (35, (Value.bool false)), (39, (Value.bool false)), (43, (Value.bool true)), (61, (Value.bool false)), (67, (Value.bool false)), (75, (Value.bool false)), (76, (Value.pointer (some ⟨b1, 0, none⟩)))] (j := 6) (by kernel_rfl) (by kernel_rfl) ?_
                    refine Ops.call (by kernel_rfl) (d := (some 77)) (by kernel_rfl) (At_calls _ b1 A2 c3 ((R.sized 3).2) hok408 H505 F506 hne9) ?_
                    rintro _ w508 ⟨rfl, K509⟩
                    refine ⟨_, _, rfl, rfl, ?_⟩
                    have K510 := K504.trans K509 (U := none_) (fun i h1 h2 => h2) (fun i h1 h2 => by exact h2)
                    clear K504
                    have H511 := H505.keep K509 (fun h => h)
                    clear H505
                    have F512 := RdO.keep0 F506 K509
                    clear F506
                    clear K509
                    refine Ops.regs 4 [(0, (Value.slice B bs.length bc)), (1, (Value.slice LA l.length lc)), (5, (Value.pointer (some ⟨b1, 0, none⟩))), (6, (i64 bad)), (7, (i64 ((ax : Nat) : Int))), (8, (i64 ((i : Nat) : Int))), (9, (i64 (((R.sized 3).2).end_))), (21, (Value.bool true)), (28, (i64 (cnt x 5))), (31, (Value.bool false)), (35, (Value.bool false)), (39, (Value.bool false)), (43, (Value.bool true)), (61, (Value.bool false)), (67, (Value.bool false)), (81, (Value.bool (decide (((((R.sized 3).2).pos : Nat) : Int) > ((bs.length : Nat) : Int)))))] (j := 11) (by kernel_rfl) (by kernel_rfl) ?_
                    refine Ops.done (by kernel_rfl) ?_
                    have h513 : (decide (((((R.sized 3).2).pos : Nat) : Int) > ((bs.length : Nat) : Int))) = false := decide_eq_false (by omega)
                    rw [h513]
                    refine q_else (o := .tmp 81) (by kernel_rfl) rfl ?_
                    refine q_skip (by kernel_rfl) ?_
                    refine q_region (by kernel_rfl) ?_
                    refine Ops.regs 2 [(0, (Value.slice B bs.length bc)), (1, (Value.slice LA l.length lc)), (5, (Value.pointer (some ⟨b1, 0, none⟩))), (6, (i64 bad)), (7, (i64 ((ax : Nat) : Int))), (8, (i64 ((i : Nat) : Int))), (9, (i64 (((R.sized 3).2).end_))), (21, (Value.bool true)), (23, (i64 (IntKind.i64.wrap (((i : Nat) : Int) + 1)))), (28, (i64 (cnt x 5))), (31, (Value.bool false)), (35, (Value.bool false)), (39, (Value.bool false)), (43, (Value.bool true)), (61, (Value.bool false)), (67, (Value.bool false)), (81, (Value.bool false))] (j := 2) (by kernel_rfl) (by kernel_rfl) ?_
                    have e514 : IntKind.i64.wrap (((i : Nat) : Int) + 1) = ((i + 1 : Nat) : Int) := by rw [wrap_i64 (by omega) (by omega)]; omega
                    rw [e514]
                    clear e514
                    refine Ops.regs 1 [(0, (Value.slice B bs.length bc)), (1, (Value.slice LA l.length lc)), (5, (Value.pointer (some ⟨b1, 0, none⟩))), (6, (i64 bad)), (7, (i64 ((ax : Nat) : Int))), (8, (i64 ((i + 1 : Nat) : Int))), (9, (i64 (((R.sized 3).2).end_))), (21, (Value.bool true)), (28, (i64 (cnt x 5))), (31, (Value.bool false)), (35, (Value.bool false)), (39, (Value.bool false)), (43, (Value.bool true)), (61, (Value.bool false)), (67, (Value.bool false)), (81, (Value.bool false))] (j := 3) (by kernel_rfl) (by kernel_rfl) ?_
                    refine Ops.keep (R := [(0, (Value.slice B bs.length bc)), (1, (Value.slice LA l.length lc)), (5, (Value.pointer (some ⟨b1, 0, none⟩))), (6, (i64 bad)), (7, (i64 ((ax : Nat) : Int))), (8, (i64 ((i + 1 : Nat) : Int)))]) (by kernel_rfl) ?_
                    refine Ops.done (by kernel_rfl) ?_
                    exact ⟨(i + 1, (R.sized 3).2, bad, ax), ⟨rfl, F512, hok408, (hgb.trans hbs), (by omega), (by omega), (by omega), (by omega), K510, H511⟩, (show 60 - (i + 1) < 60 - i from by omega)⟩
                · rw [h479]
                  have p515 : ((R.sized 3).2).end_ = 0 := of_bne_f h479
                  refine Ops.regs 3 [(0, (Value.slice B bs.length bc)), (1, (Value.slice LA l.length lc)), (5, (Value.pointer (some ⟨b1, 0, none⟩))), (6, (i64 bad)), (7, (i64 ((ax : Nat) : Int))), (8, (i64 ((i : Nat) : Int))), (9, (i64 (((R.sized 3).2).end_))), (21, (Value.bool true)), (28, (i64 (cnt x 5))), (31, (Value.bool false)), (35, (Value.bool false)), (39, (Value.bool false)), (43, (Value.bool true)), (61, (Value.bool false)), (67, (Value.bool false))] (j := 6) (by kernel_rfl) (by kernel_rfl) ?_
                  refine Ops.done (by kernel_rfl) ?_
                  refine q_else (o := .tmp 67) (by kernel_rfl) rfl ?_
                  refine q_skip (by kernel_rfl) ?_
                  refine q_seq (by kernel_rfl) ?_
                  refine q_region (by kernel_rfl) ?_
                  refine Ops.regs 1 [(0, (Value.slice B bs.length bc)), (1, (Value.slice LA l.length lc)), (5, (Value.pointer (some ⟨b1, 0, none⟩))), (6, (i64 bad)), (7, (i64 ((ax : Nat) : Int))), (8, (i64 ((i : Nat) : Int))), (9, (i64 (((R.sized 3).2).end_))), (21, (Value.bool true)), (28, (i64 (cnt x 5))), (31, (Value.bool false)), (35, (Value.bool false)), (39, (Value.bool false)), (43, (Value.bool true)), (61, (Value.bool false)), (67, (Value.bool false)), (71, (Value.pointer (some ⟨b1, 0, none⟩)))] (j := 1) (by kernel_rfl) (by kernel_rfl) ?_
                  refine Ops.call (by kernel_rfl) (d := (some 72)) (by kernel_rfl) (At_calls _ b1 A2 c3 ((R.sized 3).2) hok408 H417 F418 hne9) ?_
                  rintro _ w516 ⟨rfl, K517⟩
                  refine ⟨_, _, rfl, rfl, ?_⟩
                  have K518 := K416.trans K517 (U := none_) (fun i h1 h2 => h2) (fun i h1 h2 => by exact h2)
                  clear K416
                  have H519 := H417.keep K517 (fun h => h)
                  clear H417
                  have F520 := RdO.keep0 F418 K517
                  clear F418
                  clear K517
                  refine Ops.regs 3 [(0, (Value.slice B bs.length bc)), (1, (Value.slice LA l.length lc)), (5, (Value.pointer (some ⟨b1, 0, none⟩))), (6, (i64 bad)), (7, (i64 ((ax : Nat) : Int))), (8, (i64 ((i : Nat) : Int))), (9, (i64 (((R.sized 3).2).end_))), (21, (Value.bool true)), (28, (i64 (cnt x 5))), (31, (Value.bool false)), (35, (Value.bool false)), (39, (Value.bool false)), (43, (Value.bool true)), (61, (Value.bool false)), (67, (Value.bool false)), (75, (Value.bool (decide (((((R.sized 3).2).pos : Nat) : Int) < ((ax : Nat) : Int)))))] (j := 5) (by kernel_rfl) (by kernel_rfl) ?_
                  have h521 : (decide (((((R.sized 3).2).pos : Nat) : Int) < ((ax : Nat) : Int))) = false := decide_eq_false (by omega)
                  rw [h521]
                  refine Ops.regs 1 [(0, (Value.slice B bs.length bc)), (1, (Value.slice LA l.length lc)), (5, (Value.pointer (some ⟨b1, 0, none⟩))), (6, (i64 bad)), (7, (i64 ((ax : Nat) : Int))), (8, (i64 ((i : Nat) : Int))), (9, (i64 (((R.sized 3).2).end_))), (21, (Value.bool true)), (28, (i64 (cnt x 5))), (31, (Value.bool false)), (35, (Value.bool false)), (39, (Value.bool false)), (43, (Value.bool true)), (61, (Value.bool false)), (67, (Value.bool false)), (75, (Value.bool false)), (76, (Value.pointer (some ⟨b1, 0, none⟩)))] (j := 6) (by kernel_rfl) (by kernel_rfl) ?_
                  refine Ops.call (by kernel_rfl) (d := (some 77)) (by kernel_rfl) (At_calls _ b1 A2 c3 ((R.sized 3).2) hok408 H519 F520 hne9) ?_
                  rintro _ w522 ⟨rfl, K523⟩
                  refine ⟨_, _, rfl, rfl, ?_⟩
                  have K524 := K518.trans K523 (U := none_) (fun i h1 h2 => h2) (fun i h1 h2 => by exact h2)
                  clear K518
                  have H525 := H519.keep K523 (fun h => h)
                  clear H519
                  have F526 := RdO.keep0 F520 K523
                  clear F520
                  clear K523
                  refine Ops.regs 4 [(0, (Value.slice B bs.length bc)), (1, (Value.slice LA l.length lc)), (5, (Value.pointer (some ⟨b1, 0, none⟩))), (6, (i64 bad)), (7, (i64 ((ax : Nat) : Int))), (8, (i64 ((i : Nat) : Int))), (9, (i64 (((R.sized 3).2).end_))), (21, (Value.bool true)), (28, (i64 (cnt x 5))), (31, (Value.bool false)), (35, (Value.bool false)), (39, (Value.bool false)), (43, (Value.bool true)), (61, (Value.bool false)), (67, (Value.bool false)), (81, (Value.bool (decide (((((R.sized 3).2).pos : Nat) : Int) > ((bs.length : Nat) : Int)))))] (j := 11) (by kernel_rfl) (by kernel_rfl) ?_
                  refine Ops.done (by kernel_rfl) ?_
                  have h527 : (decide (((((R.sized 3).2).pos : Nat) : Int) > ((bs.length : Nat) : Int))) = false := decide_eq_false (by omega)
                  rw [h527]
                  refine q_else (o := .tmp 81) (by kernel_rfl) rfl ?_
                  refine q_skip (by kernel_rfl) ?_
                  refine q_region (by kernel_rfl) ?_
                  refine Ops.regs 2 [(0, (Value.slice B bs.length bc)), (1, (Value.slice LA l.length lc)), (5, (Value.pointer (some ⟨b1, 0, none⟩))), (6, (i64 bad)), (7, (i64 ((ax : Nat) : Int))), (8, (i64 ((i : Nat) : Int))), (9, (i64 (((R.sized 3).2).end_))), (21, (Value.bool true)), (23, (i64 (IntKind.i64.wrap (((i : Nat) : Int) + 1)))), (28, (i64 (cnt x 5))), (31, (Value.bool false)), (35, (Value.bool false)), (39, (Value.bool false)), (43, (Value.bool true)), (61, (Value.bool false)), (67, (Value.bool false)), (81, (Value.bool false))] (j := 2) (by kernel_rfl) (by kernel_rfl) ?_
                  have e528 : IntKind.i64.wrap (((i : Nat) : Int) + 1) = ((i + 1 : Nat) : Int) := by rw [wrap_i64 (by omega) (by omega)]; omega
                  rw [e528]
                  clear e528
                  refine Ops.regs 1 [(0, (Value.slice B bs.length bc)), (1, (Value.slice LA l.length lc)), (5, (Value.pointer (some ⟨b1, 0, none⟩))), (6, (i64 bad)), (7, (i64 ((ax : Nat) : Int))), (8, (i64 ((i + 1 : Nat) : Int))), (9, (i64 (((R.sized 3).2).end_))), (21, (Value.bool true)), (28, (i64 (cnt x 5))), (31, (Value.bool false)), (35, (Value.bool false)), (39, (Value.bool false)), (43, (Value.bool true)), (61, (Value.bool false)), (67, (Value.bool false)), (81, (Value.bool false))] (j := 3) (by kernel_rfl) (by kernel_rfl) ?_
                  refine Ops.keep (R := [(0, (Value.slice B bs.length bc)), (1, (Value.slice LA l.length lc)), (5, (Value.pointer (some ⟨b1, 0, none⟩))), (6, (i64 bad)), (7, (i64 ((ax : Nat) : Int))), (8, (i64 ((i + 1 : Nat) : Int)))]) (by kernel_rfl) ?_
                  refine Ops.done (by kernel_rfl) ?_
                  exact ⟨(i + 1, (R.sized 3).2, bad, ax), ⟨rfl, F526, hok408, (hgb.trans hbs), (by omega), (by omega), (by omega), (by omega), K524, H525⟩, (show 60 - (i + 1) < 60 - i from by omega)⟩
            · rw [h403]
              have p529 : ¬ (cnt x 5 = 3) := of_beq_f h403
              refine q_region (by kernel_rfl) ?_
              refine Ops.regs 1 [(0, (Value.slice B bs.length bc)), (1, (Value.slice LA l.length lc)), (5, (Value.pointer (some ⟨b1, 0, none⟩))), (6, (i64 bad)), (7, (i64 ((ax : Nat) : Int))), (8, (i64 ((i : Nat) : Int))), (21, (Value.bool true)), (28, (i64 (cnt x 5))), (29, (Value.pointer (some ⟨b1, 0, none⟩))), (31, (Value.bool false)), (35, (Value.bool false)), (39, (Value.bool false)), (43, (Value.bool false))] (j := 1) (by kernel_rfl) (by kernel_rfl) ?_
              refine Ops.call (by kernel_rfl) (d := (some 30)) (by kernel_rfl) (GetOp_calls _ b1 A2 c3 R hokR H15 hRd hne9 ) ?_
              rintro _ w530 ⟨rfl, K531, H532⟩
              have hok533 : (R.op).2.Ok := Rdr.Ok.op hokR
              have hgo := Rdr.goes_op R
              have hes := Rdr.end_spec ((R.op).2)
              have hgb := hgo.bs
              have hgm := hgo.mono
              have hgp := hgo.pos
              have hgw := hgo.why
              have hgk := hok533.pos
              rw [hgb, hbs] at hgk
              refine ⟨_, _, rfl, rfl, ?_⟩
              have K534 := K14.trans K531 (U := none_) (fun i h1 h2 => h2) (fun i h1 h2 => by have h2 : i = b1 := h2; exfalso; omega)
              clear K14
              have F535 := RdO.keep hRd K531 (fun i _ _ hi hs => by have hs : i = b1 := hs; have := hne9 i _ _ hi; omega)
              clear hRd
              clear K531
              have F536 : RdO w530 A2 c3 (R.op).2.bs := by rw [Rdr.op_bs]; exact F535
              clear F535
              refine Ops.done (by kernel_rfl) ?_
              refine q_seq (by kernel_rfl) ?_
              refine q_region (by kernel_rfl) ?_
              refine Ops.regs 1 [(0, (Value.slice B bs.length bc)), (1, (Value.slice LA l.length lc)), (5, (Value.pointer (some ⟨b1, 0, none⟩))), (6, (i64 bad)), (7, (i64 ((ax : Nat) : Int))), (8, (i64 ((i : Nat) : Int))), (21, (Value.bool true)), (28, (i64 (cnt x 5))), (31, (Value.bool false)), (35, (Value.bool false)), (39, (Value.bool false)), (43, (Value.bool false)), (47, (Value.pointer (some ⟨b1, 0, none⟩)))] (j := 1) (by kernel_rfl) (by kernel_rfl) ?_
              refine Ops.call (by kernel_rfl) (d := (some 48)) (by kernel_rfl) (RdEnd_calls _ b1 A2 c3 ((R.op).2) hok533 H532 F536 hne9) ?_
              rintro _ w537 ⟨rfl, K538⟩
              refine ⟨_, _, rfl, rfl, ?_⟩
              have K539 := K534.trans K538 (U := none_) (fun i h1 h2 => h2) (fun i h1 h2 => by exact h2)
              clear K534
              have H540 := H532.keep K538 (fun h => h)
              clear H532
              have F541 := RdO.keep0 F536 K538
              clear F536
              clear K538
              refine Ops.regs 1 [(0, (Value.slice B bs.length bc)), (1, (Value.slice LA l.length lc)), (5, (Value.pointer (some ⟨b1, 0, none⟩))), (6, (i64 bad)), (7, (i64 ((ax : Nat) : Int))), (8, (i64 ((i : Nat) : Int))), (9, (i64 (((R.op).2).end_))), (21, (Value.bool true)), (28, (i64 (cnt x 5))), (31, (Value.bool false)), (35, (Value.bool false)), (39, (Value.bool false)), (43, (Value.bool false))] (j := 3) (by kernel_rfl) (by kernel_rfl) ?_
              refine Ops.done (by kernel_rfl) ?_
              refine q_seq (by kernel_rfl) ?_
              refine q_seq (by kernel_rfl) ?_
              refine q_region (by kernel_rfl) ?_
              refine Ops.regs 3 [(0, (Value.slice B bs.length bc)), (1, (Value.slice LA l.length lc)), (5, (Value.pointer (some ⟨b1, 0, none⟩))), (6, (i64 bad)), (7, (i64 ((ax : Nat) : Int))), (8, (i64 ((i : Nat) : Int))), (9, (i64 (((R.op).2).end_))), (21, (Value.bool true)), (28, (i64 (cnt x 5))), (31, (Value.bool false)), (35, (Value.bool false)), (39, (Value.bool false)), (43, (Value.bool false)), (51, (Value.bool (bad != 0)))] (j := 3) (by kernel_rfl) (by kernel_rfl) ?_
              refine Ops.split (bad != 0) (fun h542 => ?_) (fun h542 => ?_)
              · rw [h542]
                have p543 : ¬ (bad = 0) := of_bne_t h542
                refine Ops.regs 4 [(0, (Value.slice B bs.length bc)), (1, (Value.slice LA l.length lc)), (5, (Value.pointer (some ⟨b1, 0, none⟩))), (6, (i64 bad)), (7, (i64 ((ax : Nat) : Int))), (8, (i64 ((i : Nat) : Int))), (9, (i64 (((R.op).2).end_))), (21, (Value.bool true)), (28, (i64 (cnt x 5))), (31, (Value.bool false)), (35, (Value.bool false)), (39, (Value.bool false)), (43, (Value.bool false)), (51, (Value.bool true)), (55, (Value.bool ((((R.op).2).end_) != bad)))] (j := 7) (by kernel_rfl) (by kernel_rfl) ?_
                have h544 : ((((R.op).2).end_) != bad) = false := bne_f (by omega)
                rw [h544]
                refine Ops.regs 1 [(0, (Value.slice B bs.length bc)), (1, (Value.slice LA l.length lc)), (5, (Value.pointer (some ⟨b1, 0, none⟩))), (6, (i64 bad)), (7, (i64 ((ax : Nat) : Int))), (8, (i64 ((i : Nat) : Int))), (9, (i64 (((R.op).2).end_))), (21, (Value.bool true)), (28, (i64 (cnt x 5))), (31, (Value.bool false)), (35, (Value.bool false)), (39, (Value.bool false)), (43, (Value.bool false)), (51, (Value.bool true)), (55, (Value.bool false)), (56, (Value.pointer (some ⟨b1, 0, none⟩)))] (j := 8) (by kernel_rfl) (by kernel_rfl) ?_
                refine Ops.call (by kernel_rfl) (d := (some 57)) (by kernel_rfl) (At_calls _ b1 A2 c3 ((R.op).2) hok533 H540 F541 hne9) ?_
                rintro _ w545 ⟨rfl, K546⟩
                refine ⟨_, _, rfl, rfl, ?_⟩
                have K547 := K539.trans K546 (U := none_) (fun i h1 h2 => h2) (fun i h1 h2 => by exact h2)
                clear K539
                have H548 := H540.keep K546 (fun h => h)
                clear H540
                have F549 := RdO.keep0 F541 K546
                clear F541
                clear K546
                refine Ops.regs 4 [(0, (Value.slice B bs.length bc)), (1, (Value.slice LA l.length lc)), (5, (Value.pointer (some ⟨b1, 0, none⟩))), (6, (i64 bad)), (7, (i64 ((ax : Nat) : Int))), (8, (i64 ((i : Nat) : Int))), (9, (i64 (((R.op).2).end_))), (21, (Value.bool true)), (28, (i64 (cnt x 5))), (31, (Value.bool false)), (35, (Value.bool false)), (39, (Value.bool false)), (43, (Value.bool false)), (61, (Value.bool (((((R.op).2).pos : Nat) : Int) != ((ax : Nat) : Int))))] (j := 13) (by kernel_rfl) (by kernel_rfl) ?_
                refine Ops.done (by kernel_rfl) ?_
                have h550 : (((((R.op).2).pos : Nat) : Int) != ((ax : Nat) : Int)) = false := bne_f (by omega)
                rw [h550]
                refine q_else (o := .tmp 61) (by kernel_rfl) rfl ?_
                refine q_skip (by kernel_rfl) ?_
                refine q_seq (by kernel_rfl) ?_
                refine q_seq (by kernel_rfl) ?_
                refine q_region (by kernel_rfl) ?_
                refine Ops.regs 3 [(0, (Value.slice B bs.length bc)), (1, (Value.slice LA l.length lc)), (5, (Value.pointer (some ⟨b1, 0, none⟩))), (6, (i64 bad)), (7, (i64 ((ax : Nat) : Int))), (8, (i64 ((i : Nat) : Int))), (9, (i64 (((R.op).2).end_))), (21, (Value.bool true)), (28, (i64 (cnt x 5))), (31, (Value.bool false)), (35, (Value.bool false)), (39, (Value.bool false)), (43, (Value.bool false)), (61, (Value.bool false)), (64, (Value.bool ((((R.op).2).end_) != 0)))] (j := 3) (by kernel_rfl) (by kernel_rfl) ?_
                refine Ops.split ((((R.op).2).end_) != 0) (fun h551 => ?_) (fun h551 => ?_)
                · rw [h551]
                  have p552 : ¬ (((R.op).2).end_ = 0) := of_bne_t h551
                  refine Ops.regs 3 [(0, (Value.slice B bs.length bc)), (1, (Value.slice LA l.length lc)), (5, (Value.pointer (some ⟨b1, 0, none⟩))), (6, (i64 bad)), (7, (i64 ((ax : Nat) : Int))), (8, (i64 ((i : Nat) : Int))), (9, (i64 (((R.op).2).end_))), (21, (Value.bool true)), (28, (i64 (cnt x 5))), (31, (Value.bool false)), (35, (Value.bool false)), (39, (Value.bool false)), (43, (Value.bool false)), (61, (Value.bool false)), (67, (Value.bool ((((R.op).2).end_) != 11)))] (j := 6) (by kernel_rfl) (by kernel_rfl) ?_
                  refine Ops.done (by kernel_rfl) ?_
                  refine q_cond (o := .tmp 67) (b := ((((R.op).2).end_) != 11)) (by kernel_rfl) rfl (fun h553 => ?_) (fun h553 => ?_)
                  · rw [h553]
                    have p554 : ¬ (((R.op).2).end_ = 11) := of_bne_t h553
                    refine q_seq (by kernel_rfl) ?_
                    refine q_region (by kernel_rfl) ?_
                    refine Ops.regs 2 [(0, (Value.slice B bs.length bc)), (1, (Value.slice LA l.length lc)), (5, (Value.pointer (some ⟨b1, 0, none⟩))), (6, (i64 (((R.op).2).end_))), (7, (i64 ((ax : Nat) : Int))), (8, (i64 ((i : Nat) : Int))), (9, (i64 (((R.op).2).end_))), (21, (Value.bool true)), (28, (i64 (cnt x 5))), (31, (Value.bool false)), (35, (Value.bool false)), (39, (Value.bool false)), (43, (Value.bool false)), (61, (Value.bool false)), (67, (Value.bool true))] (j := 2) (by kernel_rfl) (by kernel_rfl) ?_
                    refine Ops.done (by kernel_rfl) ?_
                    refine q_region (by kernel_rfl) ?_
                    refine Ops.regs 1 [(0, (Value.slice B bs.length bc)), (1, (Value.slice LA l.length lc)), (5, (Value.pointer (some ⟨b1, 0, none⟩))), (6, (i64 (((R.op).2).end_))), (7, (i64 ((ax : Nat) : Int))), (8, (i64 ((i : Nat) : Int))), (9, (i64 (((R.op).2).end_))), (21, (Value.bool true)), (28, (i64 (cnt x 5))), (31, (Value.bool false)), (35, (Value.bool false)), (39, (Value.bool false)), (43, (Value.bool false)), (61, (Value.bool false)), (67, (Value.bool true)), (69, (Value.pointer (some ⟨b1, 0, none⟩)))] (j := 1) (by kernel_rfl) (by kernel_rfl) ?_
                    refine Ops.call (by kernel_rfl) (d := (some 70)) (by kernel_rfl) (At_calls _ b1 A2 c3 ((R.op).2) hok533 H548 F549 hne9) ?_
                    rintro _ w555 ⟨rfl, K556⟩
                    refine ⟨_, _, rfl, rfl, ?_⟩
                    have K557 := K547.trans K556 (U := none_) (fun i h1 h2 => h2) (fun i h1 h2 => by exact h2)
                    clear K547
                    have H558 := H548.keep K556 (fun h => h)
                    clear H548
                    have F559 := RdO.keep0 F549 K556
                    clear F549
                    clear K556
                    refine Ops.regs 1 [(0, (Value.slice B bs.length bc)), (1, (Value.slice LA l.length lc)), (5, (Value.pointer (some ⟨b1, 0, none⟩))), (6, (i64 (((R.op).2).end_))), (7, (i64 ((((R.op).2).pos : Nat) : Int))), (8, (i64 ((i : Nat) : Int))), (9, (i64 (((R.op).2).end_))), (21, (Value.bool true)), (28, (i64 (cnt x 5))), (31, (Value.bool false)), (35, (Value.bool false)), (39, (Value.bool false)), (43, (Value.bool false)), (61, (Value.bool false)), (67, (Value.bool true))] (j := 3) (by kernel_rfl) (by kernel_rfl) ?_
                    refine Ops.done (by kernel_rfl) ?_
                    refine q_seq (by kernel_rfl) ?_
                    refine q_region (by kernel_rfl) ?_
                    refine Ops.regs 1 [(0, (Value.slice B bs.length bc)), (1, (Value.slice LA l.length lc)), (5, (Value.pointer (some ⟨b1, 0, none⟩))), (6, (i64 (((R.op).2).end_))), (7, (i64 ((((R.op).2).pos : Nat) : Int))), (8, (i64 ((i : Nat) : Int))), (9, (i64 (((R.op).2).end_))), (21, (Value.bool true)), (28, (i64 (cnt x 5))), (31, (Value.bool false)), (35, (Value.bool false)), (39, (Value.bool false)), (43, (Value.bool false)), (61, (Value.bool false)), (67, (Value.bool true)), (71, (Value.pointer (some ⟨b1, 0, none⟩)))] (j := 1) (by kernel_rfl) (by kernel_rfl) ?_
                    refine Ops.call (by kernel_rfl) (d := (some 72)) (by kernel_rfl) (At_calls _ b1 A2 c3 ((R.op).2) hok533 H558 F559 hne9) ?_
                    rintro _ w560 ⟨rfl, K561⟩
                    refine ⟨_, _, rfl, rfl, ?_⟩
                    have K562 := K557.trans K561 (U := none_) (fun i h1 h2 => h2) (fun i h1 h2 => by exact h2)
                    clear K557
                    have H563 := H558.keep K561 (fun h => h)
                    clear H558
                    have F564 := RdO.keep0 F559 K561
                    clear F559
                    clear K561
                    refine Ops.regs 3 [(0, (Value.slice B bs.length bc)), (1, (Value.slice LA l.length lc)), (5, (Value.pointer (some ⟨b1, 0, none⟩))), (6, (i64 (((R.op).2).end_))), (7, (i64 ((((R.op).2).pos : Nat) : Int))), (8, (i64 ((i : Nat) : Int))), (9, (i64 (((R.op).2).end_))), (21, (Value.bool true)), (28, (i64 (cnt x 5))), (31, (Value.bool false)), (35, (Value.bool false)), (39, (Value.bool false)), (43, (Value.bool false)), (61, (Value.bool false)), (67, (Value.bool true)), (75, (Value.bool (decide (((((R.op).2).pos : Nat) : Int) < ((((R.op).2).pos : Nat) : Int)))))] (j := 5) (by kernel_rfl) (by kernel_rfl) ?_
                    have h565 : (decide (((((R.op).2).pos : Nat) : Int) < ((((R.op).2).pos : Nat) : Int))) = false := decide_eq_false (by omega)
                    rw [h565]
                    refine Ops.regs 1 [(0, (Value.slice B bs.length bc)), (1, (Value.slice LA l.length lc)), (5, (Value.pointer (some ⟨b1, 0, none⟩))), (6, (i64 (((R.op).2).end_))), (7, (i64 ((((R.op).2).pos : Nat) : Int))), (8, (i64 ((i : Nat) : Int))), (9, (i64 (((R.op).2).end_))), (21, (Value.bool true)), (28, (i64 (cnt x 5))), (31, (Value.bool false)), (35, (Value.bool false)), (39, (Value.bool false)), (43, (Value.bool false)), (61, (Value.bool false)), (67, (Value.bool true)), (75, (Value.bool false)), (76, (Value.pointer (some ⟨b1, 0, none⟩)))] (j := 6) (by kernel_rfl) (by kernel_rfl) ?_
                    refine Ops.call (by kernel_rfl) (d := (some 77)) (by kernel_rfl) (At_calls _ b1 A2 c3 ((R.op).2) hok533 H563 F564 hne9) ?_
                    rintro _ w566 ⟨rfl, K567⟩
                    refine ⟨_, _, rfl, rfl, ?_⟩
                    have K568 := K562.trans K567 (U := none_) (fun i h1 h2 => h2) (fun i h1 h2 => by exact h2)
                    clear K562
                    have H569 := H563.keep K567 (fun h => h)
                    clear H563
                    have F570 := RdO.keep0 F564 K567
                    clear F564
                    clear K567
                    refine Ops.regs 4 [(0, (Value.slice B bs.length bc)), (1, (Value.slice LA l.length lc)), (5, (Value.pointer (some ⟨b1, 0, none⟩))), (6, (i64 (((R.op).2).end_))), (7, (i64 ((((R.op).2).pos : Nat) : Int))), (8, (i64 ((i : Nat) : Int))), (9, (i64 (((R.op).2).end_))), (21, (Value.bool true)), (28, (i64 (cnt x 5))), (31, (Value.bool false)), (35, (Value.bool false)), (39, (Value.bool false)), (43, (Value.bool false)), (61, (Value.bool false)), (67, (Value.bool true)), (81, (Value.bool (decide (((((R.op).2).pos : Nat) : Int) > ((bs.length : Nat) : Int)))))] (j := 11) (by kernel_rfl) (by kernel_rfl) ?_
                    refine Ops.done (by kernel_rfl) ?_
                    have h571 : (decide (((((R.op).2).pos : Nat) : Int) > ((bs.length : Nat) : Int))) = false := decide_eq_false (by omega)
                    rw [h571]
                    refine q_else (o := .tmp 81) (by kernel_rfl) rfl ?_
                    refine q_skip (by kernel_rfl) ?_
                    refine q_region (by kernel_rfl) ?_
                    refine Ops.regs 2 [(0, (Value.slice B bs.length bc)), (1, (Value.slice LA l.length lc)), (5, (Value.pointer (some ⟨b1, 0, none⟩))), (6, (i64 (((R.op).2).end_))), (7, (i64 ((((R.op).2).pos : Nat) : Int))), (8, (i64 ((i : Nat) : Int))), (9, (i64 (((R.op).2).end_))), (21, (Value.bool true)), (23, (i64 (IntKind.i64.wrap (((i : Nat) : Int) + 1)))), (28, (i64 (cnt x 5))), (31, (Value.bool false)), (35, (Value.bool false)), (39, (Value.bool false)), (43, (Value.bool false)), (61, (Value.bool false)), (67, (Value.bool true)), (81, (Value.bool false))] (j := 2) (by kernel_rfl) (by kernel_rfl) ?_
                    have e572 : IntKind.i64.wrap (((i : Nat) : Int) + 1) = ((i + 1 : Nat) : Int) := by rw [wrap_i64 (by omega) (by omega)]; omega
                    rw [e572]
                    clear e572
                    refine Ops.regs 1 [(0, (Value.slice B bs.length bc)), (1, (Value.slice LA l.length lc)), (5, (Value.pointer (some ⟨b1, 0, none⟩))), (6, (i64 (((R.op).2).end_))), (7, (i64 ((((R.op).2).pos : Nat) : Int))), (8, (i64 ((i + 1 : Nat) : Int))), (9, (i64 (((R.op).2).end_))), (21, (Value.bool true)), (28, (i64 (cnt x 5))), (31, (Value.bool false)), (35, (Value.bool false)), (39, (Value.bool false)), (43, (Value.bool false)), (61, (Value.bool false)), (67, (Value.bool true)), (81, (Value.bool false))] (j := 3) (by kernel_rfl) (by kernel_rfl) ?_
                    refine Ops.keep (R := [(0, (Value.slice B bs.length bc)), (1, (Value.slice LA l.length lc)), (5, (Value.pointer (some ⟨b1, 0, none⟩))), (6, (i64 (((R.op).2).end_))), (7, (i64 ((((R.op).2).pos : Nat) : Int))), (8, (i64 ((i + 1 : Nat) : Int)))]) (by kernel_rfl) ?_
                    refine Ops.done (by kernel_rfl) ?_
                    exact ⟨(i + 1, (R.op).2, ((R.op).2).end_, ((R.op).2).pos), ⟨rfl, F570, hok533, (hgb.trans hbs), (by omega), (by omega), (by omega), (by omega), K568, H569⟩, (show 60 - (i + 1) < 60 - i from by omega)⟩
                  · rw [h553]
                    have p573 : ((R.op).2).end_ = 11 := of_bne_f h553
                    refine q_skip (by kernel_rfl) ?_
                    refine q_seq (by kernel_rfl) ?_
                    refine q_region (by kernel_rfl) ?_
                    refine Ops.regs 1 [(0, (Value.slice B bs.length bc)), (1, (Value.slice LA l.length lc)), (5, (Value.pointer (some ⟨b1, 0, none⟩))), (6, (i64 bad)), (7, (i64 ((ax : Nat) : Int))), (8, (i64 ((i : Nat) : Int))), (9, (i64 (((R.op).2).end_))), (21, (Value.bool true)), (28, (i64 (cnt x 5))), (31, (Value.bool false)), (35, (Value.bool false)), (39, (Value.bool false)), (43, (Value.bool false)), (61, (Value.bool false)), (67, (Value.bool false)), (71, (Value.pointer (some ⟨b1, 0, none⟩)))] (j := 1) (by kernel_rfl) (by kernel_rfl) ?_
                    refine Ops.call (by kernel_rfl) (d := (some 72)) (by kernel_rfl) (At_calls _ b1 A2 c3 ((R.op).2) hok533 H548 F549 hne9) ?_
                    rintro _ w574 ⟨rfl, K575⟩
                    refine ⟨_, _, rfl, rfl, ?_⟩
                    have K576 := K547.trans K575 (U := none_) (fun i h1 h2 => h2) (fun i h1 h2 => by exact h2)
                    clear K547
                    have H577 := H548.keep K575 (fun h => h)
                    clear H548
                    have F578 := RdO.keep0 F549 K575
                    clear F549
                    clear K575
                    refine Ops.regs 3 [(0, (Value.slice B bs.length bc)), (1, (Value.slice LA l.length lc)), (5, (Value.pointer (some ⟨b1, 0, none⟩))), (6, (i64 bad)), (7, (i64 ((ax : Nat) : Int))), (8, (i64 ((i : Nat) : Int))), (9, (i64 (((R.op).2).end_))), (21, (Value.bool true)), (28, (i64 (cnt x 5))), (31, (Value.bool false)), (35, (Value.bool false)), (39, (Value.bool false)), (43, (Value.bool false)), (61, (Value.bool false)), (67, (Value.bool false)), (75, (Value.bool (decide (((((R.op).2).pos : Nat) : Int) < ((ax : Nat) : Int)))))] (j := 5) (by kernel_rfl) (by kernel_rfl) ?_
                    have h579 : (decide (((((R.op).2).pos : Nat) : Int) < ((ax : Nat) : Int))) = false := decide_eq_false (by omega)
                    rw [h579]
                    refine Ops.regs 1 [(0, (Value.slice B bs.length bc)), (1, (Value.slice LA l.length lc)), (5, (Value.pointer (some ⟨b1, 0, none⟩))), (6, (i64 bad)), (7, (i64 ((ax : Nat) : Int))), (8, (i64 ((i : Nat) : Int))), (9, (i64 (((R.op).2).end_))), (21, (Value.bool true)), (28, (i64 (cnt x 5))), (31, (Value.bool false)), (35, (Value.bool false)), (39, (Value.bool false)), (43, (Value.bool false)), (61, (Value.bool false)), (67, (Value.bool false)), (75, (Value.bool false)), (76, (Value.pointer (some ⟨b1, 0, none⟩)))] (j := 6) (by kernel_rfl) (by kernel_rfl) ?_
                    refine Ops.call (by kernel_rfl) (d := (some 77)) (by kernel_rfl) (At_calls _ b1 A2 c3 ((R.op).2) hok533 H577 F578 hne9) ?_
                    rintro _ w580 ⟨rfl, K581⟩
                    refine ⟨_, _, rfl, rfl, ?_⟩
                    have K582 := K576.trans K581 (U := none_) (fun i h1 h2 => h2) (fun i h1 h2 => by exact h2)
                    clear K576
                    have H583 := H577.keep K581 (fun h => h)
                    clear H577
                    have F584 := RdO.keep0 F578 K581
                    clear F578
                    clear K581
                    refine Ops.regs 4 [(0, (Value.slice B bs.length bc)), (1, (Value.slice LA l.length lc)), (5, (Value.pointer (some ⟨b1, 0, none⟩))), (6, (i64 bad)), (7, (i64 ((ax : Nat) : Int))), (8, (i64 ((i : Nat) : Int))), (9, (i64 (((R.op).2).end_))), (21, (Value.bool true)), (28, (i64 (cnt x 5))), (31, (Value.bool false)), (35, (Value.bool false)), (39, (Value.bool false)), (43, (Value.bool false)), (61, (Value.bool false)), (67, (Value.bool false)), (81, (Value.bool (decide (((((R.op).2).pos : Nat) : Int) > ((bs.length : Nat) : Int)))))] (j := 11) (by kernel_rfl) (by kernel_rfl) ?_
                    refine Ops.done (by kernel_rfl) ?_
                    have h585 : (decide (((((R.op).2).pos : Nat) : Int) > ((bs.length : Nat) : Int))) = false := decide_eq_false (by omega)
                    rw [h585]
                    refine q_else (o := .tmp 81) (by kernel_rfl) rfl ?_
                    refine q_skip (by kernel_rfl) ?_
                    refine q_region (by kernel_rfl) ?_
                    refine Ops.regs 2 [(0, (Value.slice B bs.length bc)), (1, (Value.slice LA l.length lc)), (5, (Value.pointer (some ⟨b1, 0, none⟩))), (6, (i64 bad)), (7, (i64 ((ax : Nat) : Int))), (8, (i64 ((i : Nat) : Int))), (9, (i64 (((R.op).2).end_))), (21, (Value.bool true)), (23, (i64 (IntKind.i64.wrap (((i : Nat) : Int) + 1)))), (28, (i64 (cnt x 5))), (31, (Value.bool false)), (35, (Value.bool false)), (39, (Value.bool false)), (43, (Value.bool false)), (61, (Value.bool false)), (67, (Value.bool false)), (81, (Value.bool false))] (j := 2) (by kernel_rfl) (by kernel_rfl) ?_
                    have e586 : IntKind.i64.wrap (((i : Nat) : Int) + 1) = ((i + 1 : Nat) : Int) := by rw [wrap_i64 (by omega) (by omega)]; omega
                    rw [e586]
                    clear e586
                    refine Ops.regs 1 [(0, (Value.slice B bs.length bc)), (1, (Value.slice LA l.length lc)), (5, (Value.pointer (some ⟨b1, 0, none⟩))), (6, (i64 bad)), (7, (i64 ((ax : Nat) : Int))), (8, (i64 ((i + 1 : Nat) : Int))), (9, (i64 (((R.op).2).end_))), (21, (Value.bool true)), (28, (i64 (cnt x 5))), (31, (Value.bool false)), (35, (Value.bool false)), (39, (Value.bool false)), (43, (Value.bool false)), (61, (Value.bool false)), (67, (Value.bool false)), (81, (Value.bool false))] (j := 3) (by kernel_rfl) (by kernel_rfl) ?_
                    refine Ops.keep (R := [(0, (Value.slice B bs.length bc)), (1, (Value.slice LA l.length lc)), (5, (Value.pointer (some ⟨b1, 0, none⟩))), (6, (i64 bad)), (7, (i64 ((ax : Nat) : Int))), (8, (i64 ((i + 1 : Nat) : Int)))]) (by kernel_rfl) ?_
                    refine Ops.done (by kernel_rfl) ?_
                    exact ⟨(i + 1, (R.op).2, bad, ax), ⟨rfl, F584, hok533, (hgb.trans hbs), (by omega), (by omega), (by omega), (by omega), K582, H583⟩, (show 60 - (i + 1) < 60 - i from by omega)⟩
                · rw [h551]
                  have p587 : ((R.op).2).end_ = 0 := of_bne_f h551
                  refine Ops.regs 3 [(0, (Value.slice B bs.length bc)), (1, (Value.slice LA l.length lc)), (5, (Value.pointer (some ⟨b1, 0, none⟩))), (6, (i64 bad)), (7, (i64 ((ax : Nat) : Int))), (8, (i64 ((i : Nat) : Int))), (9, (i64 (((R.op).2).end_))), (21, (Value.bool true)), (28, (i64 (cnt x 5))), (31, (Value.bool false)), (35, (Value.bool false)), (39, (Value.bool false)), (43, (Value.bool false)), (61, (Value.bool false)), (67, (Value.bool false))] (j := 6) (by kernel_rfl) (by kernel_rfl) ?_
                  refine Ops.done (by kernel_rfl) ?_
                  refine q_else (o := .tmp 67) (by kernel_rfl) rfl ?_
                  refine q_skip (by kernel_rfl) ?_
                  refine q_seq (by kernel_rfl) ?_
                  refine q_region (by kernel_rfl) ?_
                  refine Ops.regs 1 [(0, (Value.slice B bs.length bc)), (1, (Value.slice LA l.length lc)), (5, (Value.pointer (some ⟨b1, 0, none⟩))), (6, (i64 bad)), (7, (i64 ((ax : Nat) : Int))), (8, (i64 ((i : Nat) : Int))), (9, (i64 (((R.op).2).end_))), (21, (Value.bool true)), (28, (i64 (cnt x 5))), (31, (Value.bool false)), (35, (Value.bool false)), (39, (Value.bool false)), (43, (Value.bool false)), (61, (Value.bool false)), (67, (Value.bool false)), (71, (Value.pointer (some ⟨b1, 0, none⟩)))] (j := 1) (by kernel_rfl) (by kernel_rfl) ?_
                  refine Ops.call (by kernel_rfl) (d := (some 72)) (by kernel_rfl) (At_calls _ b1 A2 c3 ((R.op).2) hok533 H548 F549 hne9) ?_
                  rintro _ w588 ⟨rfl, K589⟩
                  refine ⟨_, _, rfl, rfl, ?_⟩
                  have K590 := K547.trans K589 (U := none_) (fun i h1 h2 => h2) (fun i h1 h2 => by exact h2)
                  clear K547
                  have H591 := H548.keep K589 (fun h => h)
                  clear H548
                  have F592 := RdO.keep0 F549 K589
                  clear F549
                  clear K589
                  refine Ops.regs 3 [(0, (Value.slice B bs.length bc)), (1, (Value.slice LA l.length lc)), (5, (Value.pointer (some ⟨b1, 0, none⟩))), (6, (i64 bad)), (7, (i64 ((ax : Nat) : Int))), (8, (i64 ((i : Nat) : Int))), (9, (i64 (((R.op).2).end_))), (21, (Value.bool true)), (28, (i64 (cnt x 5))), (31, (Value.bool false)), (35, (Value.bool false)), (39, (Value.bool false)), (43, (Value.bool false)), (61, (Value.bool false)), (67, (Value.bool false)), (75, (Value.bool (decide (((((R.op).2).pos : Nat) : Int) < ((ax : Nat) : Int)))))] (j := 5) (by kernel_rfl) (by kernel_rfl) ?_
                  have h593 : (decide (((((R.op).2).pos : Nat) : Int) < ((ax : Nat) : Int))) = false := decide_eq_false (by omega)
                  rw [h593]
                  refine Ops.regs 1 [(0, (Value.slice B bs.length bc)), (1, (Value.slice LA l.length lc)), (5, (Value.pointer (some ⟨b1, 0, none⟩))), (6, (i64 bad)), (7, (i64 ((ax : Nat) : Int))), (8, (i64 ((i : Nat) : Int))), (9, (i64 (((R.op).2).end_))), (21, (Value.bool true)), (28, (i64 (cnt x 5))), (31, (Value.bool false)), (35, (Value.bool false)), (39, (Value.bool false)), (43, (Value.bool false)), (61, (Value.bool false)), (67, (Value.bool false)), (75, (Value.bool false)), (76, (Value.pointer (some ⟨b1, 0, none⟩)))] (j := 6) (by kernel_rfl) (by kernel_rfl) ?_
                  refine Ops.call (by kernel_rfl) (d := (some 77)) (by kernel_rfl) (At_calls _ b1 A2 c3 ((R.op).2) hok533 H591 F592 hne9) ?_
                  rintro _ w594 ⟨rfl, K595⟩
                  refine ⟨_, _, rfl, rfl, ?_⟩
                  have K596 := K590.trans K595 (U := none_) (fun i h1 h2 => h2) (fun i h1 h2 => by exact h2)
                  clear K590
                  have H597 := H591.keep K595 (fun h => h)
                  clear H591
                  have F598 := RdO.keep0 F592 K595
                  clear F592
                  clear K595
                  refine Ops.regs 4 [(0, (Value.slice B bs.length bc)), (1, (Value.slice LA l.length lc)), (5, (Value.pointer (some ⟨b1, 0, none⟩))), (6, (i64 bad)), (7, (i64 ((ax : Nat) : Int))), (8, (i64 ((i : Nat) : Int))), (9, (i64 (((R.op).2).end_))), (21, (Value.bool true)), (28, (i64 (cnt x 5))), (31, (Value.bool false)), (35, (Value.bool false)), (39, (Value.bool false)), (43, (Value.bool false)), (61, (Value.bool false)), (67, (Value.bool false)), (81, (Value.bool (decide (((((R.op).2).pos : Nat) : Int) > ((bs.length : Nat) : Int)))))] (j := 11) (by kernel_rfl) (by kernel_rfl) ?_
                  refine Ops.done (by kernel_rfl) ?_
                  have h599 : (decide (((((R.op).2).pos : Nat) : Int) > ((bs.length : Nat) : Int))) = false := decide_eq_false (by omega)
                  rw [h599]
                  refine q_else (o := .tmp 81) (by kernel_rfl) rfl ?_
                  refine q_skip (by kernel_rfl) ?_
                  refine q_region (by kernel_rfl) ?_
                  refine Ops.regs 2 [(0, (Value.slice B bs.length bc)), (1, (Value.slice LA l.length lc)), (5, (Value.pointer (some ⟨b1, 0, none⟩))), (6, (i64 bad)), (7, (i64 ((ax : Nat) : Int))), (8, (i64 ((i : Nat) : Int))), (9, (i64 (((R.op).2).end_))), (21, (Value.bool true)), (23, (i64 (IntKind.i64.wrap (((i : Nat) : Int) + 1)))), (28, (i64 (cnt x 5))), (31, (Value.bool false)), (35, (Value.bool false)), (39, (Value.bool false)), (43, (Value.bool false)), (61, (Value.bool false)), (67, (Value.bool false)), (81, (Value.bool false))] (j := 2) (by kernel_rfl) (by kernel_rfl) ?_
                  have e600 : IntKind.i64.wrap (((i : Nat) : Int) + 1) = ((i + 1 : Nat) : Int) := by rw [wrap_i64 (by omega) (by omega)]; omega
                  rw [e600]
                  clear e600
                  refine Ops.regs 1 [(0, (Value.slice B bs.length bc)), (1, (Value.slice LA l.length lc)), (5, (Value.pointer (some ⟨b1, 0, none⟩))), (6, (i64 bad)), (7, (i64 ((ax : Nat) : Int))), (8, (i64 ((i + 1 : Nat) : Int))), (9, (i64 (((R.op).2).end_))), (21, (Value.bool true)), (28, (i64 (cnt x 5))), (31, (Value.bool false)), (35, (Value.bool false)), (39, (Value.bool false)), (43, (Value.bool false)), (61, (Value.bool false)), (67, (Value.bool false)), (81, (Value.bool false))] (j := 3) (by kernel_rfl) (by kernel_rfl) ?_
                  refine Ops.keep (R := [(0, (Value.slice B bs.length bc)), (1, (Value.slice LA l.length lc)), (5, (Value.pointer (some ⟨b1, 0, none⟩))), (6, (i64 bad)), (7, (i64 ((ax : Nat) : Int))), (8, (i64 ((i + 1 : Nat) : Int)))]) (by kernel_rfl) ?_
                  refine Ops.done (by kernel_rfl) ?_
                  exact ⟨(i + 1, (R.op).2, bad, ax), ⟨rfl, F598, hok533, (hgb.trans hbs), (by omega), (by omega), (by omega), (by omega), K596, H597⟩, (show 60 - (i + 1) < 60 - i from by omega)⟩
              · rw [h542]
                have p601 : bad = 0 := of_bne_f h542
                refine Ops.regs 10 [(0, (Value.slice B bs.length bc)), (1, (Value.slice LA l.length lc)), (5, (Value.pointer (some ⟨b1, 0, none⟩))), (6, (i64 bad)), (7, (i64 ((ax : Nat) : Int))), (8, (i64 ((i : Nat) : Int))), (9, (i64 (((R.op).2).end_))), (21, (Value.bool true)), (28, (i64 (cnt x 5))), (31, (Value.bool false)), (35, (Value.bool false)), (39, (Value.bool false)), (43, (Value.bool false)), (61, (Value.bool false))] (j := 13) (by kernel_rfl) (by kernel_rfl) ?_
                refine Ops.done (by kernel_rfl) ?_
                refine q_else (o := .tmp 61) (by kernel_rfl) rfl ?_
                refine q_skip (by kernel_rfl) ?_
                refine q_seq (by kernel_rfl) ?_
                refine q_seq (by kernel_rfl) ?_
                refine q_region (by kernel_rfl) ?_
                refine Ops.regs 3 [(0, (Value.slice B bs.length bc)), (1, (Value.slice LA l.length lc)), (5, (Value.pointer (some ⟨b1, 0, none⟩))), (6, (i64 bad)), (7, (i64 ((ax : Nat) : Int))), (8, (i64 ((i : Nat) : Int))), (9, (i64 (((R.op).2).end_))), (21, (Value.bool true)), (28, (i64 (cnt x 5))), (31, (Value.bool false)), (35, (Value.bool false)), (39, (Value.bool false)), (43, (Value.bool false)), (61, (Value.bool false)), (64, (Value.bool ((((R.op).2).end_) != 0)))] (j := 3) (by kernel_rfl) (by kernel_rfl) ?_
                refine Ops.split ((((R.op).2).end_) != 0) (fun h602 => ?_) (fun h602 => ?_)
                · rw [h602]
                  have p603 : ¬ (((R.op).2).end_ = 0) := of_bne_t h602
                  refine Ops.regs 3 [(0, (Value.slice B bs.length bc)), (1, (Value.slice LA l.length lc)), (5, (Value.pointer (some ⟨b1, 0, none⟩))), (6, (i64 bad)), (7, (i64 ((ax : Nat) : Int))), (8, (i64 ((i : Nat) : Int))), (9, (i64 (((R.op).2).end_))), (21, (Value.bool true)), (28, (i64 (cnt x 5))), (31, (Value.bool false)), (35, (Value.bool false)), (39, (Value.bool false)), (43, (Value.bool false)), (61, (Value.bool false)), (67, (Value.bool ((((R.op).2).end_) != 11)))] (j := 6) (by kernel_rfl) (by kernel_rfl) ?_
                  refine Ops.done (by kernel_rfl) ?_
                  refine q_cond (o := .tmp 67) (b := ((((R.op).2).end_) != 11)) (by kernel_rfl) rfl (fun h604 => ?_) (fun h604 => ?_)
                  · rw [h604]
                    have p605 : ¬ (((R.op).2).end_ = 11) := of_bne_t h604
                    refine q_seq (by kernel_rfl) ?_
                    refine q_region (by kernel_rfl) ?_
                    refine Ops.regs 2 [(0, (Value.slice B bs.length bc)), (1, (Value.slice LA l.length lc)), (5, (Value.pointer (some ⟨b1, 0, none⟩))), (6, (i64 (((R.op).2).end_))), (7, (i64 ((ax : Nat) : Int))), (8, (i64 ((i : Nat) : Int))), (9, (i64 (((R.op).2).end_))), (21, (Value.bool true)), (28, (i64 (cnt x 5))), (31, (Value.bool false)), (35, (Value.bool false)), (39, (Value.bool false)), (43, (Value.bool false)), (61, (Value.bool false)), (67, (Value.bool true))] (j := 2) (by kernel_rfl) (by kernel_rfl) ?_
                    refine Ops.done (by kernel_rfl) ?_
                    refine q_region (by kernel_rfl) ?_
                    refine Ops.regs 1 [(0, (Value.slice B bs.length bc)), (1, (Value.slice LA l.length lc)), (5, (Value.pointer (some ⟨b1, 0, none⟩))), (6, (i64 (((R.op).2).end_))), (7, (i64 ((ax : Nat) : Int))), (8, (i64 ((i : Nat) : Int))), (9, (i64 (((R.op).2).end_))), (21, (Value.bool true)), (28, (i64 (cnt x 5))), (31, (Value.bool false)), (35, (Value.bool false)), (39, (Value.bool false)), (43, (Value.bool false)), (61, (Value.bool false)), (67, (Value.bool true)), (69, (Value.pointer (some ⟨b1, 0, none⟩)))] (j := 1) (by kernel_rfl) (by kernel_rfl) ?_
                    refine Ops.call (by kernel_rfl) (d := (some 70)) (by kernel_rfl) (At_calls _ b1 A2 c3 ((R.op).2) hok533 H540 F541 hne9) ?_
                    rintro _ w606 ⟨rfl, K607⟩
                    refine ⟨_, _, rfl, rfl, ?_⟩
                    have K608 := K539.trans K607 (U := none_) (fun i h1 h2 => h2) (fun i h1 h2 => by exact h2)
                    clear K539
                    have H609 := H540.keep K607 (fun h => h)
                    clear H540
                    have F610 := RdO.keep0 F541 K607
                    clear F541
                    clear K607
                    refine Ops.regs 1 [(0, (Value.slice B bs.length bc)), (1, (Value.slice LA l.length lc)), (5, (Value.pointer (some ⟨b1, 0, none⟩))), (6, (i64 (((R.op).2).end_))), (7, (i64 ((((R.op).2).pos : Nat) : Int))), (8, (i64 ((i : Nat) : Int))), (9, (i64 (((R.op).2).end_))), (21, (Value.bool true)), (28, (i64 (cnt x 5))), (31, (Value.bool false)), (35, (Value.bool false)), (39, (Value.bool false)), (43, (Value.bool false)), (61, (Value.bool false)), (67, (Value.bool true))] (j := 3) (by kernel_rfl) (by kernel_rfl) ?_
                    refine Ops.done (by kernel_rfl) ?_
                    refine q_seq (by kernel_rfl) ?_
                    refine q_region (by kernel_rfl) ?_
                    refine Ops.regs 1 [(0, (Value.slice B bs.length bc)), (1, (Value.slice LA l.length lc)), (5, (Value.pointer (some ⟨b1, 0, none⟩))), (6, (i64 (((R.op).2).end_))), (7, (i64 ((((R.op).2).pos : Nat) : Int))), (8, (i64 ((i : Nat) : Int))), (9, (i64 (((R.op).2).end_))), (21, (Value.bool true)), (28, (i64 (cnt x 5))), (31, (Value.bool false)), (35, (Value.bool false)), (39, (Value.bool false)), (43, (Value.bool false)), (61, (Value.bool false)), (67, (Value.bool true)), (71, (Value.pointer (some ⟨b1, 0, none⟩)))] (j := 1) (by kernel_rfl) (by kernel_rfl) ?_
                    refine Ops.call (by kernel_rfl) (d := (some 72)) (by kernel_rfl) (At_calls _ b1 A2 c3 ((R.op).2) hok533 H609 F610 hne9) ?_
                    rintro _ w611 ⟨rfl, K612⟩
                    refine ⟨_, _, rfl, rfl, ?_⟩
                    have K613 := K608.trans K612 (U := none_) (fun i h1 h2 => h2) (fun i h1 h2 => by exact h2)
                    clear K608
                    have H614 := H609.keep K612 (fun h => h)
                    clear H609
                    have F615 := RdO.keep0 F610 K612
                    clear F610
                    clear K612
                    refine Ops.regs 3 [(0, (Value.slice B bs.length bc)), (1, (Value.slice LA l.length lc)), (5, (Value.pointer (some ⟨b1, 0, none⟩))), (6, (i64 (((R.op).2).end_))), (7, (i64 ((((R.op).2).pos : Nat) : Int))), (8, (i64 ((i : Nat) : Int))), (9, (i64 (((R.op).2).end_))), (21, (Value.bool true)), (28, (i64 (cnt x 5))), (31, (Value.bool false)), (35, (Value.bool false)), (39, (Value.bool false)), (43, (Value.bool false)), (61, (Value.bool false)), (67, (Value.bool true)), (75, (Value.bool (decide (((((R.op).2).pos : Nat) : Int) < ((((R.op).2).pos : Nat) : Int)))))] (j := 5) (by kernel_rfl) (by kernel_rfl) ?_
                    have h616 : (decide (((((R.op).2).pos : Nat) : Int) < ((((R.op).2).pos : Nat) : Int))) = false := decide_eq_false (by omega)
                    rw [h616]
                    refine Ops.regs 1 [(0, (Value.slice B bs.length bc)), (1, (Value.slice LA l.length lc)), (5, (Value.pointer (some ⟨b1, 0, none⟩))), (6, (i64 (((R.op).2).end_))), (7, (i64 ((((R.op).2).pos : Nat) : Int))), (8, (i64 ((i : Nat) : Int))), (9, (i64 (((R.op).2).end_))), (21, (Value.bool true)), (28, (i64 (cnt x 5))), (31, (Value.bool false)), (35, (Value.bool false)), (39, (Value.bool false)), (43, (Value.bool false)), (61, (Value.bool false)), (67, (Value.bool true)), (75, (Value.bool false)), (76, (Value.pointer (some ⟨b1, 0, none⟩)))] (j := 6) (by kernel_rfl) (by kernel_rfl) ?_
                    refine Ops.call (by kernel_rfl) (d := (some 77)) (by kernel_rfl) (At_calls _ b1 A2 c3 ((R.op).2) hok533 H614 F615 hne9) ?_
                    rintro _ w617 ⟨rfl, K618⟩
                    refine ⟨_, _, rfl, rfl, ?_⟩
                    have K619 := K613.trans K618 (U := none_) (fun i h1 h2 => h2) (fun i h1 h2 => by exact h2)
                    clear K613
                    have H620 := H614.keep K618 (fun h => h)
                    clear H614
                    have F621 := RdO.keep0 F615 K618
                    clear F615
                    clear K618
                    refine Ops.regs 4 [(0, (Value.slice B bs.length bc)), (1, (Value.slice LA l.length lc)), (5, (Value.pointer (some ⟨b1, 0, none⟩))), (6, (i64 (((R.op).2).end_))), (7, (i64 ((((R.op).2).pos : Nat) : Int))), (8, (i64 ((i : Nat) : Int))), (9, (i64 (((R.op).2).end_))), (21, (Value.bool true)), (28, (i64 (cnt x 5))), (31, (Value.bool false)), (35, (Value.bool false)), (39, (Value.bool false)), (43, (Value.bool false)), (61, (Value.bool false)), (67, (Value.bool true)), (81, (Value.bool (decide (((((R.op).2).pos : Nat) : Int) > ((bs.length : Nat) : Int)))))] (j := 11) (by kernel_rfl) (by kernel_rfl) ?_
                    refine Ops.done (by kernel_rfl) ?_
                    have h622 : (decide (((((R.op).2).pos : Nat) : Int) > ((bs.length : Nat) : Int))) = false := decide_eq_false (by omega)
                    rw [h622]
                    refine q_else (o := .tmp 81) (by kernel_rfl) rfl ?_
                    refine q_skip (by kernel_rfl) ?_
                    refine q_region (by kernel_rfl) ?_
                    refine Ops.regs 2 [(0, (Value.slice B bs.length bc)), (1, (Value.slice LA l.length lc)), (5, (Value.pointer (some ⟨b1, 0, none⟩))), (6, (i64 (((R.op).2).end_))), (7, (i64 ((((R.op).2).pos : Nat) : Int))), (8, (i64 ((i : Nat) : Int))), (9, (i64 (((R.op).2).end_))), (21, (Value.bool true)), (23, (i64 (IntKind.i64.wrap (((i : Nat) : Int) + 1)))), (28, (i64 (cnt x 5))), (31, (Value.bool false)), (35, (Value.bool false)), (39, (Value.bool false)), (43, (Value.bool false)), (61, (Value.bool false)), (67, (Value.bool true)), (81, (Value.bool false))] (j := 2) (by kernel_rfl) (by kernel_rfl) ?_
                    have e623 : IntKind.i64.wrap (((i : Nat) : Int) + 1) = ((i + 1 : Nat) : Int) := by rw [wrap_i64 (by omega) (by omega)]; omega
                    rw [e623]
                    clear e623
                    refine Ops.regs 1 [(0, (Value.slice B bs.length bc)), (1, (Value.slice LA l.length lc)), (5, (Value.pointer (some ⟨b1, 0, none⟩))), (6, (i64 (((R.op).2).end_))), (7, (i64 ((((R.op).2).pos : Nat) : Int))), (8, (i64 ((i + 1 : Nat) : Int))), (9, (i64 (((R.op).2).end_))), (21, (Value.bool true)), (28, (i64 (cnt x 5))), (31, (Value.bool false)), (35, (Value.bool false)), (39, (Value.bool false)), (43, (Value.bool false)), (61, (Value.bool false)), (67, (Value.bool true)), (81, (Value.bool false))] (j := 3) (by kernel_rfl) (by kernel_rfl) ?_
                    refine Ops.keep (R := [(0, (Value.slice B bs.length bc)), (1, (Value.slice LA l.length lc)), (5, (Value.pointer (some ⟨b1, 0, none⟩))), (6, (i64 (((R.op).2).end_))), (7, (i64 ((((R.op).2).pos : Nat) : Int))), (8, (i64 ((i + 1 : Nat) : Int)))]) (by kernel_rfl) ?_
                    refine Ops.done (by kernel_rfl) ?_
                    exact ⟨(i + 1, (R.op).2, ((R.op).2).end_, ((R.op).2).pos), ⟨rfl, F621, hok533, (hgb.trans hbs), (by omega), (by omega), (by omega), (by omega), K619, H620⟩, (show 60 - (i + 1) < 60 - i from by omega)⟩
                  · rw [h604]
                    have p624 : ((R.op).2).end_ = 11 := of_bne_f h604
                    refine q_skip (by kernel_rfl) ?_
                    refine q_seq (by kernel_rfl) ?_
                    refine q_region (by kernel_rfl) ?_
                    refine Ops.regs 1 [(0, (Value.slice B bs.length bc)), (1, (Value.slice LA l.length lc)), (5, (Value.pointer (some ⟨b1, 0, none⟩))), (6, (i64 bad)), (7, (i64 ((ax : Nat) : Int))), (8, (i64 ((i : Nat) : Int))), (9, (i64 (((R.op).2).end_))), (21, (Value.bool true)), (28, (i64 (cnt x 5))), (31, (Value.bool false)), (35, (Value.bool false)), (39, (Value.bool false)), (43, (Value.bool false)), (61, (Value.bool false)), (67, (Value.bool false)), (71, (Value.pointer (some ⟨b1, 0, none⟩)))] (j := 1) (by kernel_rfl) (by kernel_rfl) ?_
                    refine Ops.call (by kernel_rfl) (d := (some 72)) (by kernel_rfl) (At_calls _ b1 A2 c3 ((R.op).2) hok533 H540 F541 hne9) ?_
                    rintro _ w625 ⟨rfl, K626⟩
                    refine ⟨_, _, rfl, rfl, ?_⟩
                    have K627 := K539.trans K626 (U := none_) (fun i h1 h2 => h2) (fun i h1 h2 => by exact h2)
                    clear K539
                    have H628 := H540.keep K626 (fun h => h)
                    clear H540
                    have F629 := RdO.keep0 F541 K626
                    clear F541
                    clear K626
                    refine Ops.regs 3 [(0, (Value.slice B bs.length bc)), (1, (Value.slice LA l.length lc)), (5, (Value.pointer (some ⟨b1, 0, none⟩))), (6, (i64 bad)), (7, (i64 ((ax : Nat) : Int))), (8, (i64 ((i : Nat) : Int))), (9, (i64 (((R.op).2).end_))), (21, (Value.bool true)), (28, (i64 (cnt x 5))), (31, (Value.bool false)), (35, (Value.bool false)), (39, (Value.bool false)), (43, (Value.bool false)), (61, (Value.bool false)), (67, (Value.bool false)), (75, (Value.bool (decide (((((R.op).2).pos : Nat) : Int) < ((ax : Nat) : Int)))))] (j := 5) (by kernel_rfl) (by kernel_rfl) ?_
                    have h630 : (decide (((((R.op).2).pos : Nat) : Int) < ((ax : Nat) : Int))) = false := decide_eq_false (by omega)
                    rw [h630]
                    refine Ops.regs 1 [(0, (Value.slice B bs.length bc)), (1, (Value.slice LA l.length lc)), (5, (Value.pointer (some ⟨b1, 0, none⟩))), (6, (i64 bad)), (7, (i64 ((ax : Nat) : Int))), (8, (i64 ((i : Nat) : Int))), (9, (i64 (((R.op).2).end_))), (21, (Value.bool true)), (28, (i64 (cnt x 5))), (31, (Value.bool false)), (35, (Value.bool false)), (39, (Value.bool false)), (43, (Value.bool false)), (61, (Value.bool false)), (67, (Value.bool false)), (75, (Value.bool false)), (76, (Value.pointer (some ⟨b1, 0, none⟩)))] (j := 6) (by kernel_rfl) (by kernel_rfl) ?_
                    refine Ops.call (by kernel_rfl) (d := (some 77)) (by kernel_rfl) (At_calls _ b1 A2 c3 ((R.op).2) hok533 H628 F629 hne9) ?_
                    rintro _ w631 ⟨rfl, K632⟩
                    refine ⟨_, _, rfl, rfl, ?_⟩
                    have K633 := K627.trans K632 (U := none_) (fun i h1 h2 => h2) (fun i h1 h2 => by exact h2)
                    clear K627
                    have H634 := H628.keep K632 (fun h => h)
                    clear H628
                    have F635 := RdO.keep0 F629 K632
                    clear F629
                    clear K632
                    refine Ops.regs 4 [(0, (Value.slice B bs.length bc)), (1, (Value.slice LA l.length lc)), (5, (Value.pointer (some ⟨b1, 0, none⟩))), (6, (i64 bad)), (7, (i64 ((ax : Nat) : Int))), (8, (i64 ((i : Nat) : Int))), (9, (i64 (((R.op).2).end_))), (21, (Value.bool true)), (28, (i64 (cnt x 5))), (31, (Value.bool false)), (35, (Value.bool false)), (39, (Value.bool false)), (43, (Value.bool false)), (61, (Value.bool false)), (67, (Value.bool false)), (81, (Value.bool (decide (((((R.op).2).pos : Nat) : Int) > ((bs.length : Nat) : Int)))))] (j := 11) (by kernel_rfl) (by kernel_rfl) ?_
                    refine Ops.done (by kernel_rfl) ?_
                    have h636 : (decide (((((R.op).2).pos : Nat) : Int) > ((bs.length : Nat) : Int))) = false := decide_eq_false (by omega)
                    rw [h636]
                    refine q_else (o := .tmp 81) (by kernel_rfl) rfl ?_
                    refine q_skip (by kernel_rfl) ?_
                    refine q_region (by kernel_rfl) ?_
                    refine Ops.regs 2 [(0, (Value.slice B bs.length bc)), (1, (Value.slice LA l.length lc)), (5, (Value.pointer (some ⟨b1, 0, none⟩))), (6, (i64 bad)), (7, (i64 ((ax : Nat) : Int))), (8, (i64 ((i : Nat) : Int))), (9, (i64 (((R.op).2).end_))), (21, (Value.bool true)), (23, (i64 (IntKind.i64.wrap (((i : Nat) : Int) + 1)))), (28, (i64 (cnt x 5))), (31, (Value.bool false)), (35, (Value.bool false)), (39, (Value.bool false)), (43, (Value.bool false)), (61, (Value.bool false)), (67, (Value.bool false)), (81, (Value.bool false))] (j := 2) (by kernel_rfl) (by kernel_rfl) ?_
                    have e637 : IntKind.i64.wrap (((i : Nat) : Int) + 1) = ((i + 1 : Nat) : Int) := by rw [wrap_i64 (by omega) (by omega)]; omega
                    rw [e637]
                    clear e637
                    refine Ops.regs 1 [(0, (Value.slice B bs.length bc)), (1, (Value.slice LA l.length lc)), (5, (Value.pointer (some ⟨b1, 0, none⟩))), (6, (i64 bad)), (7, (i64 ((ax : Nat) : Int))), (8, (i64 ((i + 1 : Nat) : Int))), (9, (i64 (((R.op).2).end_))), (21, (Value.bool true)), (28, (i64 (cnt x 5))), (31, (Value.bool false)), (35, (Value.bool false)), (39, (Value.bool false)), (43, (Value.bool false)), (61, (Value.bool false)), (67, (Value.bool false)), (81, (Value.bool false))] (j := 3) (by kernel_rfl) (by kernel_rfl) ?_
                    refine Ops.keep (R := [(0, (Value.slice B bs.length bc)), (1, (Value.slice LA l.length lc)), (5, (Value.pointer (some ⟨b1, 0, none⟩))), (6, (i64 bad)), (7, (i64 ((ax : Nat) : Int))), (8, (i64 ((i + 1 : Nat) : Int)))]) (by kernel_rfl) ?_
                    refine Ops.done (by kernel_rfl) ?_
                    exact ⟨(i + 1, (R.op).2, bad, ax), ⟨rfl, F635, hok533, (hgb.trans hbs), (by omega), (by omega), (by omega), (by omega), K633, H634⟩, (show 60 - (i + 1) < 60 - i from by omega)⟩
                · rw [h602]
                  have p638 : ((R.op).2).end_ = 0 := of_bne_f h602
                  refine Ops.regs 3 [(0, (Value.slice B bs.length bc)), (1, (Value.slice LA l.length lc)), (5, (Value.pointer (some ⟨b1, 0, none⟩))), (6, (i64 bad)), (7, (i64 ((ax : Nat) : Int))), (8, (i64 ((i : Nat) : Int))), (9, (i64 (((R.op).2).end_))), (21, (Value.bool true)), (28, (i64 (cnt x 5))), (31, (Value.bool false)), (35, (Value.bool false)), (39, (Value.bool false)), (43, (Value.bool false)), (61, (Value.bool false)), (67, (Value.bool false))] (j := 6) (by kernel_rfl) (by kernel_rfl) ?_
                  refine Ops.done (by kernel_rfl) ?_
                  refine q_else (o := .tmp 67) (by kernel_rfl) rfl ?_
                  refine q_skip (by kernel_rfl) ?_
                  refine q_seq (by kernel_rfl) ?_
                  refine q_region (by kernel_rfl) ?_
                  refine Ops.regs 1 [(0, (Value.slice B bs.length bc)), (1, (Value.slice LA l.length lc)), (5, (Value.pointer (some ⟨b1, 0, none⟩))), (6, (i64 bad)), (7, (i64 ((ax : Nat) : Int))), (8, (i64 ((i : Nat) : Int))), (9, (i64 (((R.op).2).end_))), (21, (Value.bool true)), (28, (i64 (cnt x 5))), (31, (Value.bool false)), (35, (Value.bool false)), (39, (Value.bool false)), (43, (Value.bool false)), (61, (Value.bool false)), (67, (Value.bool false)), (71, (Value.pointer (some ⟨b1, 0, none⟩)))] (j := 1) (by kernel_rfl) (by kernel_rfl) ?_
                  refine Ops.call (by kernel_rfl) (d := (some 72)) (by kernel_rfl) (At_calls _ b1 A2 c3 ((R.op).2) hok533 H540 F541 hne9) ?_
                  rintro _ w639 ⟨rfl, K640⟩
                  refine ⟨_, _, rfl, rfl, ?_⟩
                  have K641 := K539.trans K640 (U := none_) (fun i h1 h2 => h2) (fun i h1 h2 => by exact h2)
                  clear K539
                  have H642 := H540.keep K640 (fun h => h)
                  clear H540
                  have F643 := RdO.keep0 F541 K640
                  clear F541
                  clear K640
                  refine Ops.regs 3 [(0, (Value.slice B bs.length bc)), (1, (Value.slice LA l.length lc)), (5, (Value.pointer (some ⟨b1, 0, none⟩))), (6, (i64 bad)), (7, (i64 ((ax : Nat) : Int))), (8, (i64 ((i : Nat) : Int))), (9, (i64 (((R.op).2).end_))), (21, (Value.bool true)), (28, (i64 (cnt x 5))), (31, (Value.bool false)), (35, (Value.bool false)), (39, (Value.bool false)), (43, (Value.bool false)), (61, (Value.bool false)), (67, (Value.bool false)), (75, (Value.bool (decide (((((R.op).2).pos : Nat) : Int) < ((ax : Nat) : Int)))))] (j := 5) (by kernel_rfl) (by kernel_rfl) ?_
                  have h644 : (decide (((((R.op).2).pos : Nat) : Int) < ((ax : Nat) : Int))) = false := decide_eq_false (by omega)
                  rw [h644]
                  refine Ops.regs 1 [(0, (Value.slice B bs.length bc)), (1, (Value.slice LA l.length lc)), (5, (Value.pointer (some ⟨b1, 0, none⟩))), (6, (i64 bad)), (7, (i64 ((ax : Nat) : Int))), (8, (i64 ((i : Nat) : Int))), (9, (i64 (((R.op).2).end_))), (21, (Value.bool true)), (28, (i64 (cnt x 5))), (31, (Value.bool false)), (35, (Value.bool false)), (39, (Value.bool false)), (43, (Value.bool false)), (61, (Value.bool false)), (67, (Value.bool false)), (75, (Value.bool false)), (76, (Value.pointer (some ⟨b1, 0, none⟩)))] (j := 6) (by kernel_rfl) (by kernel_rfl) ?_
                  refine Ops.call (by kernel_rfl) (d := (some 77)) (by kernel_rfl) (At_calls _ b1 A2 c3 ((R.op).2) hok533 H642 F643 hne9) ?_
                  rintro _ w645 ⟨rfl, K646⟩
                  refine ⟨_, _, rfl, rfl, ?_⟩
                  have K647 := K641.trans K646 (U := none_) (fun i h1 h2 => h2) (fun i h1 h2 => by exact h2)
                  clear K641
                  have H648 := H642.keep K646 (fun h => h)
                  clear H642
                  have F649 := RdO.keep0 F643 K646
                  clear F643
                  clear K646
                  refine Ops.regs 4 [(0, (Value.slice B bs.length bc)), (1, (Value.slice LA l.length lc)), (5, (Value.pointer (some ⟨b1, 0, none⟩))), (6, (i64 bad)), (7, (i64 ((ax : Nat) : Int))), (8, (i64 ((i : Nat) : Int))), (9, (i64 (((R.op).2).end_))), (21, (Value.bool true)), (28, (i64 (cnt x 5))), (31, (Value.bool false)), (35, (Value.bool false)), (39, (Value.bool false)), (43, (Value.bool false)), (61, (Value.bool false)), (67, (Value.bool false)), (81, (Value.bool (decide (((((R.op).2).pos : Nat) : Int) > ((bs.length : Nat) : Int)))))] (j := 11) (by kernel_rfl) (by kernel_rfl) ?_
                  refine Ops.done (by kernel_rfl) ?_
                  have h650 : (decide (((((R.op).2).pos : Nat) : Int) > ((bs.length : Nat) : Int))) = false := decide_eq_false (by omega)
                  rw [h650]
                  refine q_else (o := .tmp 81) (by kernel_rfl) rfl ?_
                  refine q_skip (by kernel_rfl) ?_
                  refine q_region (by kernel_rfl) ?_
                  refine Ops.regs 2 [(0, (Value.slice B bs.length bc)), (1, (Value.slice LA l.length lc)), (5, (Value.pointer (some ⟨b1, 0, none⟩))), (6, (i64 bad)), (7, (i64 ((ax : Nat) : Int))), (8, (i64 ((i : Nat) : Int))), (9, (i64 (((R.op).2).end_))), (21, (Value.bool true)), (23, (i64 (IntKind.i64.wrap (((i : Nat) : Int) + 1)))), (28, (i64 (cnt x 5))), (31, (Value.bool false)), (35, (Value.bool false)), (39, (Value.bool false)), (43, (Value.bool false)), (61, (Value.bool false)), (67, (Value.bool false)), (81, (Value.bool false))] (j := 2) (by kernel_rfl) (by kernel_rfl) ?_
                  have e651 : IntKind.i64.wrap (((i : Nat) : Int) + 1) = ((i + 1 : Nat) : Int) := by rw [wrap_i64 (by omega) (by omega)]; omega
                  rw [e651]
                  clear e651
                  refine Ops.regs 1 [(0, (Value.slice B bs.length bc)), (1, (Value.slice LA l.length lc)), (5, (Value.pointer (some ⟨b1, 0, none⟩))), (6, (i64 bad)), (7, (i64 ((ax : Nat) : Int))), (8, (i64 ((i + 1 : Nat) : Int))), (9, (i64 (((R.op).2).end_))), (21, (Value.bool true)), (28, (i64 (cnt x 5))), (31, (Value.bool false)), (35, (Value.bool false)), (39, (Value.bool false)), (43, (Value.bool false)), (61, (Value.bool false)), (67, (Value.bool false)), (81, (Value.bool false))] (j := 3) (by kernel_rfl) (by kernel_rfl) ?_
                  refine Ops.keep (R := [(0, (Value.slice B bs.length bc)), (1, (Value.slice LA l.length lc)), (5, (Value.pointer (some ⟨b1, 0, none⟩))), (6, (i64 bad)), (7, (i64 ((ax : Nat) : Int))), (8, (i64 ((i + 1 : Nat) : Int)))]) (by kernel_rfl) ?_
                  refine Ops.done (by kernel_rfl) ?_
                  exact ⟨(i + 1, (R.op).2, bad, ax), ⟨rfl, F649, hok533, (hgb.trans hbs), (by omega), (by omega), (by omega), (by omega), K647, H648⟩, (show 60 - (i + 1) < 60 - i from by omega)⟩
    · rw [h23]
      have p652 : ¬ (((i : Nat) : Int) < 60) := of_decide_eq_false h23
      refine q_exit (id := 0) (by kernel_rfl) ?_
      refine q_seq (by kernel_rfl) ?_
      refine q_region (by kernel_rfl) ?_
      refine Ops.call (by kernel_rfl) (d := (some 82)) (by kernel_rfl) (known_calls _) ?_
      rintro _ w653 ⟨rfl, K654⟩
      refine ⟨_, _, rfl, rfl, ?_⟩
      have K655 := K14.trans K654 (U := none_) (fun i h1 h2 => h2) (fun i h1 h2 => by exact h2)
      clear K14
      have H656 := H15.keep K654 (fun h => h)
      clear H15
      have F657 := RdO.keep0 hRd K654
      clear hRd
      clear K654
      refine Ops.regs 1 [(4, (Value.bool true))] (j := 2) (by kernel_rfl) (by kernel_rfl) ?_
      refine Ops.done (by kernel_rfl) ?_
      refine q_ret (by kernel_rfl) ?_
      refine ⟨(Value.bool true), retv_tmp rfl rfl, ?_⟩
      exact ⟨rfl, K655⟩
  · rw [h16]
    have p658 : ¬ (((i : Nat) : Int) < ((l.length : Nat) : Int)) := of_decide_eq_false h16
    refine Ops.regs 3 [(0, (Value.slice B bs.length bc)), (1, (Value.slice LA l.length lc)), (5, (Value.pointer (some ⟨b1, 0, none⟩))), (6, (i64 bad)), (7, (i64 ((ax : Nat) : Int))), (8, (i64 ((i : Nat) : Int))), (21, (Value.bool false))] (j := 8) (by kernel_rfl) (by kernel_rfl) ?_
    refine Ops.done (by kernel_rfl) ?_
    refine q_else (o := .tmp 21) (by kernel_rfl) rfl ?_
    refine q_exit (id := 0) (by kernel_rfl) ?_
    refine q_seq (by kernel_rfl) ?_
    refine q_region (by kernel_rfl) ?_
    refine Ops.call (by kernel_rfl) (d := (some 82)) (by kernel_rfl) (known_calls _) ?_
    rintro _ w659 ⟨rfl, K660⟩
    refine ⟨_, _, rfl, rfl, ?_⟩
    have K661 := K14.trans K660 (U := none_) (fun i h1 h2 => h2) (fun i h1 h2 => by exact h2)
    clear K14
    have H662 := H15.keep K660 (fun h => h)
    clear H15
    have F663 := RdO.keep0 hRd K660
    clear hRd
    clear K660
    refine Ops.regs 1 [(4, (Value.bool true))] (j := 2) (by kernel_rfl) (by kernel_rfl) ?_
    refine Ops.done (by kernel_rfl) ?_
    refine q_ret (by kernel_rfl) ?_
    refine ⟨(Value.bool true), retv_tmp rfl rfl, ?_⟩
    exact ⟨rfl, K661⟩
end Go.Proofs.Ytnepjfnkaigakaa
