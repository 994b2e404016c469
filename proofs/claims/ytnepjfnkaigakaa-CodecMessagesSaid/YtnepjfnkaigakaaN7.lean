/- chapter 02: CodecMessages returns true -/
import Derived.Test.YtnepjfnkaigakaaProg
import Derived.Test.YtnepjfnkaigakaaLK
import Derived.Test.YtnepjfnkaigakaaKJ
import Derived.Test.YtnepjfnkaigakaaKL
set_option linter.unusedVariables false
namespace Go.Proofs.Ytnepjfnkaigakaa
open Go.Q Go.RowKit

theorem Unmsg_of (w : World) (v : Value) (bs : List UInt8) (hB : RdB w v bs) (hbl : bs.length ≤ 140737488351232) : Calls Try.prog 51 ⟨[v]⟩ w (fun e w' => ∃ (m : MsgP) (E D : Option Addr) (ec dc : Nat) (er : Int), e = .returned (.tuple #[agg [i64 m.kind, i64 m.group, i64 m.frm, i64 m.to, i64 m.term, i64 m.index, i64 m.logTerm, i64 m.commit, .bool m.ok, .slice E m.entries.length ec, .slice D m.data.length dc], i64 er]) ∧ Keeps none_ w w' ∧ m.Ok ∧ (m.core, er) = unmsgB bs ∧ RdE w' (.slice E m.entries.length ec) m.entries ∧ EntsIn w' m.entries ∧ RdB w' (.slice D m.data.length dc) m.data) := by
  obtain ⟨B, bc, rfl⟩ := hB.form
  exact Unmsg_calls w B bc bs hB hbl

theorem Unframe_of (w : World) (v : Value) (bs : List UInt8) (hB : RdB w v bs) (hbl : bs.length ≤ 140737488351232) : Calls Try.prog 49 ⟨[v]⟩ w (fun e w' => ∃ v', e = .returned (.tuple #[v', i64 (unframeB bs).2]) ∧ Keeps none_ w w' ∧ OwnB w' w.heap.size 5 v' (unframeB bs).1) := by
  obtain ⟨B, bc, rfl⟩ := hB.form
  exact Unframe_calls w B bc bs hB hbl

theorem Frame_of (w : World) (v : Value) (bs : List UInt8) (hB : RdB w v bs) : Calls Try.prog 18 ⟨[v]⟩ w (fun e w' => ∃ v' er out, e = .returned (.tuple #[v', i64 er]) ∧ Keeps none_ w w' ∧ OwnB w' w.heap.size 5 v' out ∧ (bs.length ≤ 65536 ∧ er = 0 ∧ out = frameB bs ∨ 65536 < bs.length ∧ er = 3 ∧ out = [])) := by
  obtain ⟨B, bc, rfl⟩ := hB.form
  by_cases h : bs.length ≤ 65536
  · exact (Frame_calls w B bc bs hB h).mono fun e w' ⟨v, he, hk, ho⟩ => ⟨v, 0, _, he, hk, ho, .inl ⟨h, rfl, rfl⟩⟩
  · exact (Frame_long w B bc bs hB (by omega)).mono fun e w' ⟨he, hk⟩ => ⟨_, 3, [], he, hk, World.ownsRow_nil _ _ _ _, .inr ⟨by omega, rfl, rfl⟩⟩

theorem Count_nat (w : World) (a : Int) (n : Nat) (hk : 0 < n ∧ ((n : Nat) : Int) ≤ 9223372036854775807) : Calls Try.prog 19 ⟨[i64 a, i64 ((n : Nat) : Int)]⟩ w (fun e w' => ∃ k : Nat, e = .returned (i64 ((k : Nat) : Int)) ∧ k < n ∧ w = w') := by
  refine (Count01_calls w a n (by omega)).mono fun e w' ⟨he, hw⟩ => ?_
  have h := cnt_range a (k := (n : Int)) (by omega)
  exact ⟨(cnt a n).toNat, by rw [he, Int.toNat_of_nonneg h.1], by omega, hw⟩

set_option maxHeartbeats 4000000 in
theorem Messages_calls (w : World) (m : MsgP) (E : Option Addr) (ec : Nat) (D : Option Addr) (dc : Nat) (B : Option Addr) (bc : Nat) (bs : List UInt8) (cut : Int) (z : UInt8) (hm : m.Ok) (hE : RdE w (.slice E m.entries.length ec) m.entries) (hC : EntsIn w m.entries) (hD : RdB w (.slice D m.data.length dc) m.data) (hB : RdB w (.slice B bs.length bc) bs) (hcut : -9223372036854775808 ≤ cut ∧ cut ≤ 9223372036854775807) : Calls Try.prog 11 ⟨[(agg [(i64 m.kind), (i64 m.group), (i64 m.frm), (i64 m.to), (i64 m.term), (i64 m.index), (i64 m.logTerm), (i64 m.commit), (Value.bool m.ok), (Value.slice E m.entries.length ec), (Value.slice D m.data.length dc)]), (Value.slice B bs.length bc), (i64 cut), (Value.int IntKind.u8 ((z.toNat : Nat) : Int))]⟩ w (fun e w' => e = .returned (.bool true) ∧ Keeps none_ w w') := by
  have K0 : Keeps none_ w w := Keeps.refl w
  have hlz : [z].length = 1 := rfl
  refine q_calls Try.func11 (by kernel_rfl) (by kernel_rfl) ?_
  refine q_seq (by kernel_rfl) ?_
  refine q_region (by kernel_rfl) ?_
  refine Ops.new (o := rowL [(i64 m.kind), (i64 m.group), (i64 m.frm), (i64 m.to), (i64 m.term), (i64 m.index), (i64 m.logTerm), (i64 m.commit), (Value.bool m.ok), (Value.slice E m.entries.length ec), (Value.slice D m.data.length dc)] 49) (V := fun b => (Value.pointer (some ⟨b, 0, none⟩))) (by kernel_rfl) (d := (some 4)) (by kernel_rfl) (fun b => rfl) (fun b1 w2 hb3 H4 K5 hs6 => ?_)
  have nb1 : w.heap.size ≤ b1 := by have := K0.size; omega
  have K7 := K0.trans K5 (U := none_) (fun i h1 h2 => h2) (fun i h1 h2 => by exact h2)
  clear K0
  clear K5 hs6
  refine Ops.regs 1 [(1, (Value.slice B bs.length bc)), (2, (i64 cut)), (3, (Value.int IntKind.u8 ((z.toNat : Nat) : Int))), (4, (Value.pointer (some ⟨b1, 0, none⟩))), (8, (Value.bool false))] (j := 2) (by kernel_rfl) (by kernel_rfl) ?_
  refine Ops.done (by kernel_rfl) ?_
  refine q_seq (by kernel_rfl) ?_
  refine q_region (by kernel_rfl) ?_
  refine Ops.go (v := (agg [(i64 m.kind), (i64 m.group), (i64 m.frm), (i64 m.to), (i64 m.term), (i64 m.index), (i64 m.logTerm), (i64 m.commit), (Value.bool m.ok), (Value.slice E m.entries.length ec), (Value.slice D m.data.length dc)])) (by kernel_rfl) (Runs.load (t := 49) (a := ⟨b1, 0, none⟩) (by kernel_rfl) (H4.loads (by kernel_rfl))) (d := (some 24)) (by kernel_rfl) rfl ?_
  refine Ops.call (by kernel_rfl) (d := (some 25)) (by kernel_rfl) (Msg_calls _ m E ec D dc hm (hE.keep0 (by omega) K7) (hC.keep K7) (hD.keep0 (by omega) K7) ) ?_
  rintro _ w11 ⟨v8, er9, out10, rfl, K12, hO13, hc15⟩
  obtain ⟨A16, c17, hf18⟩ := RdB.form (OwnB.rd hO13)
  subst hf18
  have hsA16 := (OwnB.rd hO13).slice
  have O14 := own_base hO13 K7.size
  clear hO13
  refine ⟨_, _, rfl, rfl, ?_⟩
  have K19 := K7.trans K12 (U := none_) (fun i h1 h2 => h2) (fun i h1 h2 => by exact h2)
  clear K7
  have H20 := H4.keep K12 (fun h => h)
  clear H4
  clear K12
  refine Ops.regs 5 [(1, (Value.slice B bs.length bc)), (2, (i64 cut)), (3, (Value.int IntKind.u8 ((z.toNat : Nat) : Int))), (4, (Value.pointer (some ⟨b1, 0, none⟩))), (8, (Value.bool false)), (9, (Value.slice A16 out10.length c17)), (10, (i64 er9))] (j := 7) (by kernel_rfl) (by kernel_rfl) ?_
  refine Ops.done (by kernel_rfl) ?_
  refine q_seq (by kernel_rfl) ?_
  refine q_seq (by kernel_rfl) ?_
  refine q_region (by kernel_rfl) ?_
  refine Ops.regs 2 [(1, (Value.slice B bs.length bc)), (2, (i64 cut)), (3, (Value.int IntKind.u8 ((z.toNat : Nat) : Int))), (4, (Value.pointer (some ⟨b1, 0, none⟩))), (8, (Value.bool false)), (9, (Value.slice A16 out10.length c17)), (10, (i64 er9)), (29, (Value.bool (er9 == 0)))] (j := 2) (by kernel_rfl) (by kernel_rfl) ?_
  refine Ops.done (by kernel_rfl) ?_
  refine q_cond (o := .tmp 29) (b := (er9 == 0)) (by kernel_rfl) rfl (fun h21 => ?_) (fun h21 => ?_)
  · rw [h21]
    have p22 : er9 = 0 := of_beq_t h21
    obtain ⟨hfit, hout⟩ : m.Fits ∧ out10 = msgv m := by rcases hc15 with ⟨a, b, c⟩ | ⟨a, b, c⟩; (exact ⟨a, c⟩); (exfalso; omega)
    have hbp : 0 < out10.length := by rw [hout]; exact msgv_pos m
    have hbs : out10.length ≤ 1048576 := by rw [hout]; exact hfit.size
    refine q_seq (by kernel_rfl) ?_
    refine q_region (by kernel_rfl) ?_
    refine Ops.regs 1 [(1, (Value.slice B bs.length bc)), (2, (i64 cut)), (3, (Value.int IntKind.u8 ((z.toNat : Nat) : Int))), (4, (Value.pointer (some ⟨b1, 0, none⟩))), (8, (Value.bool false)), (9, (Value.slice A16 out10.length c17)), (10, (i64 er9)), (31, (Value.slice A16 out10.length c17))] (j := 1) (by kernel_rfl) (by kernel_rfl) ?_
    refine Ops.call (by kernel_rfl) (d := (some 32)) (by kernel_rfl) (Unmsg_of _ (Value.slice A16 out10.length c17) out10 (OwnB.rd O14) (by first | omega | (simp only [List.length_append]; omega))) ?_
    rintro _ w29 ⟨x23, E24, D25, ec26, dc27, er28, rfl, K30, hok31, hq32, hE33, hC34, hD35⟩
    have kx36 : Keeps none_ w29 w29 := Keeps.refl _
    have htw := unmsg_two (x := x23.core) (f := er28) hm hfit (by have h := hq32; rw [hout] at h; exact h)
    have hf01 := htw.1
    have hsm := htw.2
    clear htw
    refine ⟨_, _, rfl, rfl, ?_⟩
    have K37 := K19.trans K30 (U := none_) (fun i h1 h2 => h2) (fun i h1 h2 => by exact h2)
    clear K19
    have H38 := H20.keep K30 (fun h => h)
    clear H20
    have F39 := own_keep0 O14 K30
    clear O14
    clear K30
    refine Ops.regs 3 [(1, (Value.slice B bs.length bc)), (2, (i64 cut)), (3, (Value.int IntKind.u8 ((z.toNat : Nat) : Int))), (4, (Value.pointer (some ⟨b1, 0, none⟩))), (8, (Value.bool false)), (9, (Value.slice A16 out10.length c17)), (10, (i64 er9)), (33, (agg [(i64 x23.kind), (i64 x23.group), (i64 x23.frm), (i64 x23.to), (i64 x23.term), (i64 x23.index), (i64 x23.logTerm), (i64 x23.commit), (Value.bool x23.ok), (Value.slice E24 x23.entries.length ec26), (Value.slice D25 x23.data.length dc27)])), (34, (i64 er28))] (j := 5) (by kernel_rfl) (by kernel_rfl) ?_
    refine Ops.new (o := rowL [(i64 0), (i64 0), (i64 0), (i64 0), (i64 0), (i64 0), (i64 0), (i64 0), (Value.bool false), (Value.slice none 0 0), (Value.slice none 0 0)] 49) (V := fun b => (Value.pointer (some ⟨b, 0, none⟩))) (by kernel_rfl) (d := (some 11)) (by kernel_rfl) (fun b => rfl) (fun b40 w41 hb42 H43 K44 hs45 => ?_)
    have lb40b1 : b1 < b40 := by have := H38.lt; omega
    have nb40 : w.heap.size ≤ b40 := by have := K37.size; omega
    have ob46 : ∀ i, ((Value.slice A16 out10.length c17)).ownBlock = some i → i < b40 := fun i hi => by have := (World.ownsRow.lt F39 i hi).2; omega
    have ox47 : w29.heap.size ≤ b40 := by have := kx36.size; omega
    have K48 := K37.trans K44 (U := none_) (fun i h1 h2 => h2) (fun i h1 h2 => by exact h2)
    clear K37
    have H49 := H38.keep K44 (fun h => h)
    clear H38
    have F50 := own_keep0 F39 K44
    clear F39
    have F51 := Keeps.trans kx36 K44 (U := none_) (fun _ _ h => h) (fun _ _ h => h)
    clear kx36
    clear K44 hs45
    refine Ops.put (t := 49) (b := b40) (off := 0) (v := (agg [(i64 x23.kind), (i64 x23.group), (i64 x23.frm), (i64 x23.to), (i64 x23.term), (i64 x23.index), (i64 x23.logTerm), (i64 x23.commit), (Value.bool x23.ok), (Value.slice E24 x23.entries.length ec26), (Value.slice D25 x23.data.length dc27)])) (ys := [(i64 x23.kind), (i64 x23.group), (i64 x23.frm), (i64 x23.to), (i64 x23.term), (i64 x23.index), (i64 x23.logTerm), (i64 x23.commit), (Value.bool x23.ok), (Value.slice E24 x23.entries.length ec26), (Value.slice D25 x23.data.length dc27)]) (by kernel_rfl) (by kernel_rfl) H43 (by kernel_rfl) (d := none) (by kernel_rfl) rfl (fun w52 H53 K54 => ?_)
    clear H43
    have K55 := K48.trans K54 (U := none_) (fun i h1 h2 => h2) (fun i h1 h2 => by have h2 : i = b40 := h2; exfalso; omega)
    clear K48
    have H56 := H49.keep K54 (by intro h; change b1 = b40 at h; omega)
    clear H49
    have F57 := own_keep F50 K54 (fun i hi hs => by have hs : i = b40 := hs; have := ob46 i hi; omega)
    clear F50
    have F58 := Keeps.trans F51 K54 (U := none_) (fun _ _ h => h) (fun i hi hs => by have hs : i = b40 := hs; exfalso; have := ox47; omega)
    clear F51
    clear K54
    refine Ops.regs 1 [(1, (Value.slice B bs.length bc)), (2, (i64 cut)), (3, (Value.int IntKind.u8 ((z.toNat : Nat) : Int))), (4, (Value.pointer (some ⟨b1, 0, none⟩))), (8, (Value.bool false)), (9, (Value.slice A16 out10.length c17)), (10, (i64 er9)), (11, (Value.pointer (some ⟨b40, 0, none⟩))), (12, (i64 er28))] (j := 8) (by kernel_rfl) (by kernel_rfl) ?_
    refine Ops.done (by kernel_rfl) ?_
    refine q_seq (by kernel_rfl) ?_
    refine q_seq (by kernel_rfl) ?_
    refine q_region (by kernel_rfl) ?_
    refine Ops.regs 2 [(1, (Value.slice B bs.length bc)), (2, (i64 cut)), (3, (Value.int IntKind.u8 ((z.toNat : Nat) : Int))), (4, (Value.pointer (some ⟨b1, 0, none⟩))), (8, (Value.bool false)), (9, (Value.slice A16 out10.length c17)), (10, (i64 er9)), (11, (Value.pointer (some ⟨b40, 0, none⟩))), (12, (i64 er28)), (36, (Value.bool (er28 == 0)))] (j := 2) (by kernel_rfl) (by kernel_rfl) ?_
    refine Ops.done (by kernel_rfl) ?_
    refine q_cond (o := .tmp 36) (b := (er28 == 0)) (by kernel_rfl) rfl (fun h59 => ?_) (fun h59 => ?_)
    · rw [h59]
      have p60 : er28 = 0 := of_beq_t h59
      refine q_seq (by kernel_rfl) ?_
      refine q_region (by kernel_rfl) ?_
      refine Ops.go (v := (agg [(i64 x23.kind), (i64 x23.group), (i64 x23.frm), (i64 x23.to), (i64 x23.term), (i64 x23.index), (i64 x23.logTerm), (i64 x23.commit), (Value.bool x23.ok), (Value.slice E24 x23.entries.length ec26), (Value.slice D25 x23.data.length dc27)])) (by kernel_rfl) (Runs.load (t := 49) (a := ⟨b40, 0, none⟩) (by kernel_rfl) (H53.loads (by kernel_rfl))) (d := (some 38)) (by kernel_rfl) rfl ?_
      refine Ops.call (by kernel_rfl) (d := (some 39)) (by kernel_rfl) (Msg_calls _ x23 E24 ec26 D25 dc27 hok31 (hE33.keep0 (by omega) F58) (hC34.keep F58) (hD35.keep0 (by omega) F58) ) ?_
      rintro _ w64 ⟨v61, er62, out63, rfl, K65, hO66, hc68⟩
      obtain ⟨A69, c70, hf71⟩ := RdB.form (OwnB.rd hO66)
      subst hf71
      have hsA69 := (OwnB.rd hO66).slice
      have O67 := own_base hO66 K55.size
      clear hO66
      have hsame := hsm (by omega)
      have hag : er62 = 0 ∧ out63 = out10 := by rcases hc68 with ⟨a, b, c⟩ | ⟨a, b, c⟩; (exact ⟨b, by rw [c, hout, msgv_same (MsgP.same_core.2 hsame)]⟩); (exact absurd (fits_core hsame hfit) a)
      refine ⟨_, _, rfl, rfl, ?_⟩
      have K72 := K55.trans K65 (U := none_) (fun i h1 h2 => h2) (fun i h1 h2 => by exact h2)
      clear K55
      have H73 := H56.keep K65 (fun h => h)
      clear H56
      have H74 := H53.keep K65 (fun h => h)
      clear H53
      have F75 := own_keep0 F57 K65
      clear F57
      have F76 := Keeps.trans F58 K65 (U := none_) (fun _ _ h => h) (fun _ _ h => h)
      clear F58
      clear K65
      refine Ops.regs 5 [(1, (Value.slice B bs.length bc)), (2, (i64 cut)), (3, (Value.int IntKind.u8 ((z.toNat : Nat) : Int))), (4, (Value.pointer (some ⟨b1, 0, none⟩))), (8, (Value.bool false)), (9, (Value.slice A16 out10.length c17)), (10, (i64 er9)), (11, (Value.pointer (some ⟨b40, 0, none⟩))), (12, (i64 er28)), (13, (Value.slice A69 out63.length c70)), (14, (i64 er62))] (j := 7) (by kernel_rfl) (by kernel_rfl) ?_
      refine Ops.done (by kernel_rfl) ?_
      refine q_seq (by kernel_rfl) ?_
      refine q_region (by kernel_rfl) ?_
      refine Ops.go (v := (agg [(i64 x23.kind), (i64 x23.group), (i64 x23.frm), (i64 x23.to), (i64 x23.term), (i64 x23.index), (i64 x23.logTerm), (i64 x23.commit), (Value.bool x23.ok), (Value.slice E24 x23.entries.length ec26), (Value.slice D25 x23.data.length dc27)])) (by kernel_rfl) (Runs.load (t := 49) (a := ⟨b40, 0, none⟩) (by kernel_rfl) (H74.loads (by kernel_rfl))) (d := (some 42)) (by kernel_rfl) rfl ?_
      refine Ops.go (v := (agg [(i64 m.kind), (i64 m.group), (i64 m.frm), (i64 m.to), (i64 m.term), (i64 m.index), (i64 m.logTerm), (i64 m.commit), (Value.bool m.ok), (Value.slice E m.entries.length ec), (Value.slice D m.data.length dc)])) (by kernel_rfl) (Runs.load (t := 49) (a := ⟨b1, 0, none⟩) (by kernel_rfl) (H73.loads (by kernel_rfl))) (d := (some 43)) (by kernel_rfl) rfl ?_
      refine Ops.call (by kernel_rfl) (d := (some 44)) (by kernel_rfl) (SameMsg_calls _ x23 E24 ec26 D25 dc27 m E ec D dc (hE33.keep0 (by omega) F76) (hC34.keep F76) (hD35.keep0 (by omega) F76) (hE.keep0 (by omega) K72) (hC.keep K72) (hD.keep0 (by omega) K72)) ?_
      rintro _ w80 ⟨t77, rfl, ht78, K79⟩
      have httt77 : t77 = true := ht78.2 (MsgP.same_core.2 hsame)
      refine ⟨_, _, rfl, rfl, ?_⟩
      have K81 := K72.trans K79 (U := none_) (fun i h1 h2 => h2) (fun i h1 h2 => by exact h2)
      clear K72
      have H82 := H73.keep K79 (fun h => h)
      clear H73
      have H83 := H74.keep K79 (fun h => h)
      clear H74
      have F84 := own_keep0 F75 K79
      clear F75
      have F85 := Keeps.trans F76 K79 (U := none_) (fun _ _ h => h) (fun _ _ h => h)
      clear F76
      have F86 := own_keep0 O67 K79
      clear O67
      clear K79
      refine Ops.regs 2 [(1, (Value.slice B bs.length bc)), (2, (i64 cut)), (3, (Value.int IntKind.u8 ((z.toNat : Nat) : Int))), (8, (Value.bool false)), (9, (Value.slice A16 out10.length c17)), (10, (i64 er9)), (12, (i64 er28)), (13, (Value.slice A69 out63.length c70)), (14, (i64 er62)), (46, (Value.bool (!t77)))] (j := 5) (by kernel_rfl) (by kernel_rfl) ?_
      have h87 : (!t77) = false := by rw [httt77]; rfl
      rw [h87]
      refine Ops.regs 4 [(1, (Value.slice B bs.length bc)), (2, (i64 cut)), (3, (Value.int IntKind.u8 ((z.toNat : Nat) : Int))), (8, (Value.bool false)), (9, (Value.slice A16 out10.length c17)), (10, (i64 er9)), (12, (i64 er28)), (13, (Value.slice A69 out63.length c70)), (50, (Value.bool (er62 != 0)))] (j := 9) (by kernel_rfl) (by kernel_rfl) ?_
      have h88 : (er62 != 0) = false := bne_f hag.1
      rw [h88]
      refine Ops.regs 1 [(1, (Value.slice B bs.length bc)), (2, (i64 cut)), (3, (Value.int IntKind.u8 ((z.toNat : Nat) : Int))), (8, (Value.bool false)), (9, (Value.slice A16 out10.length c17)), (10, (i64 er9)), (12, (i64 er28)), (50, (Value.bool false)), (51, (Value.slice A69 out63.length c70))] (j := 10) (by kernel_rfl) (by kernel_rfl) ?_
      refine Ops.go (v := (Value.string (str out63))) (by kernel_rfl) (Runs.b2s (s := 23) (d := 9) (e := 5) (by kernel_rfl) (by kernel_rfl) (by kernel_rfl) (OwnB.rd F86)) (d := (some 52)) (by kernel_rfl) rfl ?_
      refine Ops.regs 1 [(1, (Value.slice B bs.length bc)), (2, (i64 cut)), (3, (Value.int IntKind.u8 ((z.toNat : Nat) : Int))), (8, (Value.bool false)), (9, (Value.slice A16 out10.length c17)), (10, (i64 er9)), (12, (i64 er28)), (50, (Value.bool false)), (52, (Value.string (str out63))), (53, (Value.slice A16 out10.length c17))] (j := 12) (by kernel_rfl) (by kernel_rfl) ?_
      refine Ops.go (v := (Value.string (str out10))) (by kernel_rfl) (Runs.b2s (s := 23) (d := 9) (e := 5) (by kernel_rfl) (by kernel_rfl) (by kernel_rfl) (OwnB.rd F84)) (d := (some 54)) (by kernel_rfl) rfl ?_
      refine Ops.go (v := (Value.bool (!(out63 == out10)))) (by kernel_rfl) (Runs.strne (t := 9) (by kernel_rfl)) (d := (some 55)) (by kernel_rfl) rfl ?_
      refine Ops.regs 1 [(1, (Value.slice B bs.length bc)), (2, (i64 cut)), (3, (Value.int IntKind.u8 ((z.toNat : Nat) : Int))), (8, (Value.bool false)), (9, (Value.slice A16 out10.length c17)), (10, (i64 er9)), (12, (i64 er28)), (56, (Value.bool (!(out63 == out10))))] (j := 15) (by kernel_rfl) (by kernel_rfl) ?_
      refine Ops.done (by kernel_rfl) ?_
      have h89 : (!(out63 == out10)) = false := by rw [hag.2]; simp
      rw [h89]
      refine q_else (o := .tmp 56) (by kernel_rfl) rfl ?_
      refine q_skip (by kernel_rfl) ?_
      refine q_seq (by kernel_rfl) ?_
      refine q_seq (by kernel_rfl) ?_
      refine q_region (by kernel_rfl) ?_
      refine Ops.regs 3 [(1, (Value.slice B bs.length bc)), (2, (i64 cut)), (3, (Value.int IntKind.u8 ((z.toNat : Nat) : Int))), (8, (Value.bool false)), (9, (Value.slice A16 out10.length c17)), (10, (i64 er9)), (12, (i64 er28)), (61, (Value.bool (((out10.length : Nat) : Int) == 0)))] (j := 3) (by kernel_rfl) (by kernel_rfl) ?_
      refine Ops.done (by kernel_rfl) ?_
      have h90 : (((out10.length : Nat) : Int) == 0) = false := beq_f (by omega)
      rw [h90]
      refine q_else (o := .tmp 61) (by kernel_rfl) rfl ?_
      refine q_skip (by kernel_rfl) ?_
      refine q_seq (by kernel_rfl) ?_
      refine q_region (by kernel_rfl) ?_
      refine Ops.regs 4 [(1, (Value.slice B bs.length bc)), (2, (i64 cut)), (3, (Value.int IntKind.u8 ((z.toNat : Nat) : Int))), (8, (Value.bool false)), (9, (Value.slice A16 out10.length c17)), (10, (i64 er9)), (12, (i64 er28)), (63, (Value.slice A16 out10.length c17)), (64, (i64 cut)), (66, (i64 ((out10.length : Nat) : Int)))] (j := 4) (by kernel_rfl) (by kernel_rfl) ?_
      refine Ops.call (by kernel_rfl) (d := (some 67)) (by kernel_rfl) (Count_nat _ cut out10.length (by omega)) ?_
      rintro _ _ ⟨k91, rfl, hk92, rfl⟩
      refine ⟨_, _, rfl, rfl, ?_⟩
      have hcut := run_cut (sz := 1) (P := Try.prog) (w := w80) (t := 23) (A := A16) (n := out10.length) (c := c17) 0 k91 c17 (lo := none) (hi := some (i64 ((k91 : Nat) : Int))) (mx := none) tyB.slice (by kernel_rfl) (.inl ⟨rfl, rfl⟩) (.inr ⟨_, rfl⟩) (.inl ⟨rfl, rfl⟩) (by omega) (by omega) (by omega)
      have hA0 : (if c17 = 0 then A16 else Option.map (fun q => Addr.add q (0 * 1)) A16) = A16 := by cases A16 <;> simp [Addr.add]
      rw [hA0, Nat.sub_zero, Nat.sub_zero] at hcut
      have F93 := RdB.take (OwnB.rd F84) (k := k91) (by omega)
      have htl : ((out10).take k91).length = k91 := by rw [List.length_take]; omega
      refine Ops.go (v := (Value.slice A16 k91 c17)) (by kernel_rfl) (Runs.slice (by kernel_rfl) hcut) (d := (some 68)) (by kernel_rfl) rfl ?_
      clear hcut hA0
      refine Ops.call (by kernel_rfl) (d := (some 69)) (by kernel_rfl) (Unmsg_of _ (Value.slice A16 k91 c17) ((out10).take k91) F93 (by first | omega | (simp only [List.length_append]; omega))) ?_
      rintro _ w100 ⟨x94, E95, D96, ec97, dc98, er99, rfl, K101, hok102, hq103, hE104, hC105, hD106⟩
      have kx107 : Keeps none_ w100 w100 := Keeps.refl _
      have hcutne : er99 ≠ 0 := by have h := unmsg_cut (k := k91) hm hfit (by rw [← hout]; omega); rw [← hout] at h; rw [← hq103] at h; exact h
      refine ⟨_, _, rfl, rfl, ?_⟩
      have K108 := K81.trans K101 (U := none_) (fun i h1 h2 => h2) (fun i h1 h2 => by exact h2)
      clear K81
      have H109 := H82.keep K101 (fun h => h)
      clear H82
      have H110 := H83.keep K101 (fun h => h)
      clear H83
      have F111 := own_keep0 F84 K101
      clear F84
      have F112 := Keeps.trans F85 K101 (U := none_) (fun _ _ h => h) (fun _ _ h => h)
      clear F85
      have F113 := own_keep0 F86 K101
      clear F86
      have F114 := (Rd.keep0 (by omega) F93 K101)
      clear F93
      clear K101
      refine Ops.regs 4 [(1, (Value.slice B bs.length bc)), (2, (i64 cut)), (3, (Value.int IntKind.u8 ((z.toNat : Nat) : Int))), (8, (Value.bool false)), (9, (Value.slice A16 out10.length c17)), (10, (i64 er9)), (12, (i64 er99))] (j := 11) (by kernel_rfl) (by kernel_rfl) ?_
      refine Ops.done (by kernel_rfl) ?_
      refine q_seq (by kernel_rfl) ?_
      refine q_region (by kernel_rfl) ?_
      refine Ops.regs 1 [(1, (Value.slice B bs.length bc)), (2, (i64 cut)), (3, (Value.int IntKind.u8 ((z.toNat : Nat) : Int))), (8, (Value.bool false)), (9, (Value.slice A16 out10.length c17)), (10, (i64 er9)), (12, (i64 er99)), (15, (Value.slice none 0 0))] (j := 1) (by kernel_rfl) (by kernel_rfl) ?_
      refine Ops.done (by kernel_rfl) ?_
      refine q_seq (by kernel_rfl) ?_
      refine q_region (by kernel_rfl) ?_
      refine Ops.regs 2 [(1, (Value.slice B bs.length bc)), (2, (i64 cut)), (3, (Value.int IntKind.u8 ((z.toNat : Nat) : Int))), (8, (Value.bool false)), (10, (i64 er9)), (12, (i64 er99)), (15, (Value.slice none 0 0)), (72, (Value.slice none 0 0)), (73, (Value.slice A16 out10.length c17))] (j := 2) (by kernel_rfl) (by kernel_rfl) ?_
      obtain ⟨v115, w116, hr117, hO118, hK119⟩ := OwnB.app (ty := 23) (base := w100.heap.size) tyB (show OwnB w100 w100.heap.size 5 (.slice none 0 0) [] from World.ownsRow_nil _ _ _ _) (OwnB.rd F111) (by simp only [List.length_nil]; omega) (Nat.le_refl _)
      have hO120 : OwnB w116 _ 5 v115 out10 := hO118
      have ob123 : ∀ i, (v115).ownBlock = some i → i ≠ b1 := fun i hi => by have := (World.ownsRow.lt hO120 i hi).1; have := H109.lt; omega
      have ob124 : ∀ i, (v115).ownBlock = some i → i ≠ b40 := fun i hi => by have := (World.ownsRow.lt hO120 i hi).1; have := H110.lt; omega
      have oo125 : ∀ i, ((Value.slice A16 out10.length c17)).ownBlock = some i → (v115).ownBlock = some i → False := fun i hi hs => by have := (World.ownsRow.lt hO120 i hs).1; have := (World.ownsRow.lt F111 i hi).2; omega
      have oo126 : ∀ i, (v115).ownBlock = some i → ((Value.slice A16 out10.length c17)).ownBlock = some i → False := fun i hi hs => oo125 i hs hi
      have oo127 : ∀ i, ((Value.slice A69 out63.length c70)).ownBlock = some i → (v115).ownBlock = some i → False := fun i hi hs => by have := (World.ownsRow.lt hO120 i hs).1; have := (World.ownsRow.lt F113 i hi).2; omega
      have oo128 : ∀ i, (v115).ownBlock = some i → ((Value.slice A69 out63.length c70)).ownBlock = some i → False := fun i hi hs => oo127 i hs hi
      have K122 := Keeps.new hK119
      have O121 := own_base hO120 K108.size
      refine Ops.go (v := v115) (by kernel_rfl) (Runs.append (ts := #[23, 23]) (ty := 23) (vs := [(Value.slice none 0 0), (Value.slice A16 out10.length c17)]) (by kernel_rfl) hr117) (d := (some 74)) (by kernel_rfl) rfl ?_
      have K129 := K108.trans K122 (U := none_) (fun i h1 h2 => h2) (fun i h1 h2 => by exact h2)
      clear K108
      have H130 := H109.keep K122 (fun h => h)
      clear H109
      have H131 := H110.keep K122 (fun h => h)
      clear H110
      have F132 := own_keep0 F111 K122
      clear F111
      have F133 := Keeps.trans F112 K122 (U := none_) (fun _ _ h => h) (fun _ _ h => h)
      clear F112
      have F134 := own_keep0 F113 K122
      clear F113
      have F135 := (Rd.keep0 (by omega) F114 K122)
      clear F114
      have F136 := Keeps.trans kx107 K122 (U := none_) (fun _ _ h => h) (fun _ _ h => h)
      clear kx107
      clear K122 hr117 hK119 hO118 hO120
      refine Ops.regs 1 [(1, (Value.slice B bs.length bc)), (2, (i64 cut)), (3, (Value.int IntKind.u8 ((z.toNat : Nat) : Int))), (8, (Value.bool false)), (10, (i64 er9)), (12, (i64 er99)), (15, v115)] (j := 4) (by kernel_rfl) (by kernel_rfl) ?_
      refine Ops.done (by kernel_rfl) ?_
      refine q_seq (by kernel_rfl) ?_
      refine q_region (by kernel_rfl) ?_
      refine Ops.regs 2 [(1, (Value.slice B bs.length bc)), (2, (i64 cut)), (8, (Value.bool false)), (10, (i64 er9)), (12, (i64 er99)), (15, v115), (75, v115), (76, (Value.int IntKind.u8 ((z.toNat : Nat) : Int)))] (j := 2) (by kernel_rfl) (by kernel_rfl) ?_
      refine Ops.new (o := rowL [(Value.int IntKind.u8 ((z.toNat : Nat) : Int))] 5) (V := fun b => (Value.slice (some ⟨b, 0, none⟩) 1 1)) (by kernel_rfl) (d := (some 77)) (by kernel_rfl) (fun b => rfl) (fun b137 w138 hb139 H140 K141 hs142 => ?_)
      have lb137b1 : b1 < b137 := by have := H130.lt; omega
      have lb137b40 : b40 < b137 := by have := H131.lt; omega
      have nb137 : w.heap.size ≤ b137 := by have := K129.size; omega
      have ob143 : ∀ i, ((Value.slice A16 out10.length c17)).ownBlock = some i → i < b137 := fun i hi => by have := (World.ownsRow.lt F132 i hi).2; omega
      have ox144 : w29.heap.size ≤ b137 := by have := F133.size; omega
      have ob145 : ∀ i, ((Value.slice A69 out63.length c70)).ownBlock = some i → i < b137 := fun i hi => by have := (World.ownsRow.lt F134 i hi).2; omega
      have ox146 : w100.heap.size ≤ b137 := by have := F136.size; omega
      have ob147 : ∀ i, (v115).ownBlock = some i → i < b137 := fun i hi => by have := (World.ownsRow.lt O121 i hi).2; omega
      have K148 := K129.trans K141 (U := none_) (fun i h1 h2 => h2) (fun i h1 h2 => by exact h2)
      clear K129
      have H149 := H130.keep K141 (fun h => h)
      clear H130
      have H150 := H131.keep K141 (fun h => h)
      clear H131
      have F151 := own_keep0 F132 K141
      clear F132
      have F152 := Keeps.trans F133 K141 (U := none_) (fun _ _ h => h) (fun _ _ h => h)
      clear F133
      have F153 := own_keep0 F134 K141
      clear F134
      have F154 := (Rd.keep0 (by omega) F135 K141)
      clear F135
      have F155 := Keeps.trans F136 K141 (U := none_) (fun _ _ h => h) (fun _ _ h => h)
      clear F136
      have F156 := own_keep0 O121 K141
      clear O121
      clear K141 hs142
      obtain ⟨v157, w158, hr159, hO160, K161, hg162⟩ := OwnB.app2 (ty := 23) tyB F156 (RdB.lit (xs := [z]) (show Has _ b137 (rowL (bv [z]) 5) from H140) (by first | decide | (simp [maxLen]; done))) (by (try simp only [List.length_append]); (try simp only [List.length_nil]); omega) K148.size
      obtain ⟨A164, c165, hf163⟩ := RdB.form (OwnB.rd hO160)
      subst hf163
      have ob166 : ∀ i, ((Value.slice A164 ((out10 ++ [z]).length) c165)).ownBlock = some i → i ≠ b1 := fun i hi => by rcases hg162 i hi with h | h; (have := ob123 i h; omega); (have := H149.lt; omega)
      have ob167 : ∀ i, ((Value.slice A164 ((out10 ++ [z]).length) c165)).ownBlock = some i → i ≠ b40 := fun i hi => by rcases hg162 i hi with h | h; (have := ob124 i h; omega); (have := H150.lt; omega)
      have ob168 : ∀ i, ((Value.slice A164 ((out10 ++ [z]).length) c165)).ownBlock = some i → i ≠ b137 := fun i hi => by rcases hg162 i hi with h | h; (have := ob147 i h; omega); (have := H140.lt; omega)
      have oo169 : ∀ i, ((Value.slice A16 out10.length c17)).ownBlock = some i → ((Value.slice A164 ((out10 ++ [z]).length) c165)).ownBlock = some i → False := fun i hi hs => by rcases hg162 i hs with h | h; (exact oo125 i hi h); (have := (World.ownsRow.lt F151 i hi).2; omega)
      have oo170 : ∀ i, ((Value.slice A164 ((out10 ++ [z]).length) c165)).ownBlock = some i → ((Value.slice A16 out10.length c17)).ownBlock = some i → False := fun i hi hs => oo169 i hs hi
      have oo171 : ∀ i, ((Value.slice A69 out63.length c70)).ownBlock = some i → ((Value.slice A164 ((out10 ++ [z]).length) c165)).ownBlock = some i → False := fun i hi hs => by rcases hg162 i hs with h | h; (exact oo127 i hi h); (have := (World.ownsRow.lt F153 i hi).2; omega)
      have oo172 : ∀ i, ((Value.slice A164 ((out10 ++ [z]).length) c165)).ownBlock = some i → ((Value.slice A69 out63.length c70)).ownBlock = some i → False := fun i hi hs => oo171 i hs hi
      refine Ops.go (v := (Value.slice A164 ((out10 ++ [z]).length) c165)) (by kernel_rfl) (Runs.append (ts := #[23, 23]) (ty := 23) (vs := [v115, (Value.slice (some ⟨b137, 0, none⟩) 1 1)]) (by kernel_rfl) hr159) (d := (some 78)) (by kernel_rfl) rfl ?_
      have K173 := K148.trans K161 (U := none_) (fun i h1 h2 => h2) (fun i h1 h2 => by have h2 : (v115).ownBlock = some i := h2; exfalso; have := (World.ownsRow.lt F156 i h2).1; omega)
      clear K148
      have H174 := H149.keep K161 (by intro h; change (v115).ownBlock = some b1 at h; have := ob123 b1 h; omega)
      clear H149
      have H175 := H150.keep K161 (by intro h; change (v115).ownBlock = some b40 at h; have := ob124 b40 h; omega)
      clear H150
      have H176 := H140.keep K161 (by intro h; change (v115).ownBlock = some b137 at h; have := ob147 b137 h; omega)
      clear H140
      have F177 := own_keep F151 K161 (fun i hi hs => by have hs : (v115).ownBlock = some i := hs; exact oo125 i hi hs)
      clear F151
      clear F152
      have F178 := own_keep F153 K161 (fun i hi hs => by have hs : (v115).ownBlock = some i := hs; exact oo127 i hi hs)
      clear F153
      clear F154
      clear F155
      clear F156
      clear K161 hr159 hg162
      refine Ops.regs 1 [(1, (Value.slice B bs.length bc)), (2, (i64 cut)), (8, (Value.bool false)), (10, (i64 er9)), (12, (i64 er99)), (15, (Value.slice A164 ((out10 ++ [z]).length) c165))] (j := 5) (by kernel_rfl) (by kernel_rfl) ?_
      refine Ops.done (by kernel_rfl) ?_
      refine q_seq (by kernel_rfl) ?_
      refine q_region (by kernel_rfl) ?_
      refine Ops.regs 1 [(1, (Value.slice B bs.length bc)), (2, (i64 cut)), (8, (Value.bool false)), (10, (i64 er9)), (12, (i64 er99)), (80, (Value.slice A164 ((out10 ++ [z]).length) c165))] (j := 1) (by kernel_rfl) (by kernel_rfl) ?_
      refine Ops.call (by kernel_rfl) (d := (some 81)) (by kernel_rfl) (Unmsg_of _ (Value.slice A164 ((out10 ++ [z]).length) c165) (out10 ++ [z]) (OwnB.rd hO160) (by first | omega | (simp only [List.length_append]; omega))) ?_
      rintro _ w185 ⟨x179, E180, D181, ec182, dc183, er184, rfl, K186, hok187, hq188, hE189, hC190, hD191⟩
      have kx192 : Keeps none_ w185 w185 := Keeps.refl _
      have hmorene : er184 ≠ 0 := by have h := unmsg_more (x := z) hm hfit; rw [← hout] at h; rw [← hq188] at h; exact h
      refine ⟨_, _, rfl, rfl, ?_⟩
      have K193 := K173.trans K186 (U := none_) (fun i h1 h2 => h2) (fun i h1 h2 => by exact h2)
      clear K173
      have H194 := H174.keep K186 (fun h => h)
      clear H174
      have H195 := H175.keep K186 (fun h => h)
      clear H175
      have H196 := H176.keep K186 (fun h => h)
      clear H176
      have F197 := own_keep0 F177 K186
      clear F177
      have F198 := own_keep0 F178 K186
      clear F178
      have F199 := own_keep0 hO160 K186
      clear hO160
      clear K186
      refine Ops.regs 3 [(1, (Value.slice B bs.length bc)), (2, (i64 cut)), (8, (Value.bool false)), (10, (i64 er9)), (12, (i64 er99)), (82, (agg [(i64 x179.kind), (i64 x179.group), (i64 x179.frm), (i64 x179.to), (i64 x179.term), (i64 x179.index), (i64 x179.logTerm), (i64 x179.commit), (Value.bool x179.ok), (Value.slice E180 x179.entries.length ec182), (Value.slice D181 x179.data.length dc183)])), (83, (i64 er184))] (j := 5) (by kernel_rfl) (by kernel_rfl) ?_
      refine Ops.new (o := rowL [(i64 0), (i64 0), (i64 0), (i64 0), (i64 0), (i64 0), (i64 0), (i64 0), (Value.bool false), (Value.slice none 0 0), (Value.slice none 0 0)] 49) (V := fun b => (Value.pointer (some ⟨b, 0, none⟩))) (by kernel_rfl) (d := (some 16)) (by kernel_rfl) (fun b => rfl) (fun b200 w201 hb202 H203 K204 hs205 => ?_)
      have lb200b1 : b1 < b200 := by have := H194.lt; omega
      have lb200b40 : b40 < b200 := by have := H195.lt; omega
      have lb200b137 : b137 < b200 := by have := H196.lt; omega
      have nb200 : w.heap.size ≤ b200 := by have := K193.size; omega
      have ob206 : ∀ i, ((Value.slice A16 out10.length c17)).ownBlock = some i → i < b200 := fun i hi => by have := (World.ownsRow.lt F197 i hi).2; omega
      have ob207 : ∀ i, ((Value.slice A69 out63.length c70)).ownBlock = some i → i < b200 := fun i hi => by have := (World.ownsRow.lt F198 i hi).2; omega
      have ob208 : ∀ i, ((Value.slice A164 ((out10 ++ [z]).length) c165)).ownBlock = some i → i < b200 := fun i hi => by have := (World.ownsRow.lt F199 i hi).2; omega
      have ox209 : w185.heap.size ≤ b200 := by have := kx192.size; omega
      have K210 := K193.trans K204 (U := none_) (fun i h1 h2 => h2) (fun i h1 h2 => by exact h2)
      clear K193
      have H211 := H194.keep K204 (fun h => h)
      clear H194
      have H212 := H195.keep K204 (fun h => h)
      clear H195
      have H213 := H196.keep K204 (fun h => h)
      clear H196
      have F214 := own_keep0 F197 K204
      clear F197
      have F215 := own_keep0 F198 K204
      clear F198
      have F216 := own_keep0 F199 K204
      clear F199
      have F217 := Keeps.trans kx192 K204 (U := none_) (fun _ _ h => h) (fun _ _ h => h)
      clear kx192
      clear K204 hs205
      refine Ops.put (t := 49) (b := b200) (off := 0) (v := (agg [(i64 x179.kind), (i64 x179.group), (i64 x179.frm), (i64 x179.to), (i64 x179.term), (i64 x179.index), (i64 x179.logTerm), (i64 x179.commit), (Value.bool x179.ok), (Value.slice E180 x179.entries.length ec182), (Value.slice D181 x179.data.length dc183)])) (ys := [(i64 x179.kind), (i64 x179.group), (i64 x179.frm), (i64 x179.to), (i64 x179.term), (i64 x179.index), (i64 x179.logTerm), (i64 x179.commit), (Value.bool x179.ok), (Value.slice E180 x179.entries.length ec182), (Value.slice D181 x179.data.length dc183)]) (by kernel_rfl) (by kernel_rfl) H203 (by kernel_rfl) (d := none) (by kernel_rfl) rfl (fun w218 H219 K220 => ?_)
      clear H203
      have K221 := K210.trans K220 (U := none_) (fun i h1 h2 => h2) (fun i h1 h2 => by have h2 : i = b200 := h2; exfalso; omega)
      clear K210
      have H222 := H211.keep K220 (by intro h; change b1 = b200 at h; omega)
      clear H211
      have H223 := H212.keep K220 (by intro h; change b40 = b200 at h; omega)
      clear H212
      have H224 := H213.keep K220 (by intro h; change b137 = b200 at h; omega)
      clear H213
      have F225 := own_keep F214 K220 (fun i hi hs => by have hs : i = b200 := hs; have := ob206 i hi; omega)
      clear F214
      have F226 := own_keep F215 K220 (fun i hi hs => by have hs : i = b200 := hs; have := ob207 i hi; omega)
      clear F215
      have F227 := own_keep F216 K220 (fun i hi hs => by have hs : i = b200 := hs; have := ob208 i hi; omega)
      clear F216
      have F228 := Keeps.trans F217 K220 (U := none_) (fun _ _ h => h) (fun i hi hs => by have hs : i = b200 := hs; exfalso; have := ox209; omega)
      clear F217
      clear K220
      refine Ops.regs 1 [(1, (Value.slice B bs.length bc)), (2, (i64 cut)), (8, (Value.bool false)), (10, (i64 er9)), (12, (i64 er99)), (17, (i64 er184))] (j := 8) (by kernel_rfl) (by kernel_rfl) ?_
      refine Ops.done (by kernel_rfl) ?_
      refine q_seq (by kernel_rfl) ?_
      refine q_region (by kernel_rfl) ?_
      refine Ops.regs 3 [(1, (Value.slice B bs.length bc)), (2, (i64 cut)), (8, (Value.bool false)), (10, (i64 er9)), (17, (i64 er184)), (86, (Value.bool (er99 == 0)))] (j := 3) (by kernel_rfl) (by kernel_rfl) ?_
      have h229 : (er99 == 0) = false := beq_f hcutne
      rw [h229]
      refine Ops.regs 3 [(1, (Value.slice B bs.length bc)), (2, (i64 cut)), (8, (Value.bool false)), (10, (i64 er9)), (89, (Value.bool (er184 == 0)))] (j := 6) (by kernel_rfl) (by kernel_rfl) ?_
      refine Ops.done (by kernel_rfl) ?_
      have h230 : (er184 == 0) = false := beq_f hmorene
      rw [h230]
      refine q_else (o := .tmp 89) (by kernel_rfl) rfl ?_
      refine q_skip (by kernel_rfl) ?_
      refine q_seq (by kernel_rfl) ?_
      refine q_region (by kernel_rfl) ?_
      refine Ops.regs 1 [(1, (Value.slice B bs.length bc)), (2, (i64 cut)), (8, (Value.bool false)), (10, (i64 er9)), (91, (Value.slice B bs.length bc))] (j := 1) (by kernel_rfl) (by kernel_rfl) ?_
      refine Ops.call (by kernel_rfl) (d := (some 92)) (by kernel_rfl) (Frame_of _ (Value.slice B bs.length bc) bs (hB.keep0 (by omega) K221)) ?_
      rintro _ w234 ⟨v231, er232, fo233, rfl, K235, hO236, hc238⟩
      obtain ⟨A239, c240, hf241⟩ := RdB.form (OwnB.rd hO236)
      subst hf241
      have hsA239 := (OwnB.rd hO236).slice
      have O237 := own_base hO236 K221.size
      clear hO236
      have hfr := hc238
      have hfr3 : er232 = 0 ∨ er232 = 3 := by rcases hfr with ⟨a, b, c⟩ | ⟨a, b, c⟩; (exact .inl b); (exact .inr b)
      refine ⟨_, _, rfl, rfl, ?_⟩
      have K242 := K221.trans K235 (U := none_) (fun i h1 h2 => h2) (fun i h1 h2 => by exact h2)
      clear K221
      have H243 := H222.keep K235 (fun h => h)
      clear H222
      have H244 := H223.keep K235 (fun h => h)
      clear H223
      have H245 := H224.keep K235 (fun h => h)
      clear H224
      have H246 := H219.keep K235 (fun h => h)
      clear H219
      have F247 := own_keep0 F225 K235
      clear F225
      have F248 := own_keep0 F226 K235
      clear F226
      have F249 := own_keep0 F227 K235
      clear F227
      have F250 := Keeps.trans F228 K235 (U := none_) (fun _ _ h => h) (fun _ _ h => h)
      clear F228
      clear K235
      refine Ops.regs 5 [(1, (Value.slice B bs.length bc)), (2, (i64 cut)), (8, (Value.bool false)), (10, (i64 er232)), (18, (Value.slice A239 fo233.length c240))] (j := 7) (by kernel_rfl) (by kernel_rfl) ?_
      refine Ops.done (by kernel_rfl) ?_
      refine q_seq (by kernel_rfl) ?_
      refine q_seq (by kernel_rfl) ?_
      refine q_region (by kernel_rfl) ?_
      refine Ops.regs 2 [(1, (Value.slice B bs.length bc)), (2, (i64 cut)), (8, (Value.bool false)), (18, (Value.slice A239 fo233.length c240)), (96, (Value.bool (er232 != 0)))] (j := 2) (by kernel_rfl) (by kernel_rfl) ?_
      refine Ops.done (by kernel_rfl) ?_
      refine q_cond (o := .tmp 96) (b := (er232 != 0)) (by kernel_rfl) rfl (fun h251 => ?_) (fun h251 => ?_)
      · rw [h251]
        have p252 : ¬ (er232 = 0) := of_bne_t h251
        have hlong : 65536 < bs.length := by rcases hfr with ⟨a, b, c⟩ | ⟨a, b, c⟩; (exfalso; omega); (exact a)
        refine q_seq (by kernel_rfl) ?_
        refine q_region (by kernel_rfl) ?_
        refine Ops.regs 4 [(1, (Value.slice B bs.length bc)), (2, (i64 cut)), (8, (Value.bool false)), (18, (Value.slice A239 fo233.length c240)), (100, (Value.bool (decide (((bs.length : Nat) : Int) > 65536))))] (j := 4) (by kernel_rfl) (by kernel_rfl) ?_
        have h253 : (decide (((bs.length : Nat) : Int) > 65536)) = true := decide_eq_true (by omega)
        rw [h253]
        refine Ops.call (by kernel_rfl) (d := (some 101)) (by kernel_rfl) (known_calls _) ?_
        rintro _ w254 ⟨rfl, K255⟩
        refine ⟨_, _, rfl, rfl, ?_⟩
        have K256 := K242.trans K255 (U := none_) (fun i h1 h2 => h2) (fun i h1 h2 => by exact h2)
        clear K242
        have H257 := H243.keep K255 (fun h => h)
        clear H243
        have H258 := H244.keep K255 (fun h => h)
        clear H244
        have H259 := H245.keep K255 (fun h => h)
        clear H245
        have H260 := H246.keep K255 (fun h => h)
        clear H246
        have F261 := own_keep0 F247 K255
        clear F247
        have F262 := own_keep0 F248 K255
        clear F248
        have F263 := own_keep0 F249 K255
        clear F249
        have F264 := Keeps.trans F250 K255 (U := none_) (fun _ _ h => h) (fun _ _ h => h)
        clear F250
        have F265 := own_keep0 O237 K255
        clear O237
        clear K255
        refine Ops.regs 2 [(1, (Value.slice B bs.length bc)), (2, (i64 cut)), (8, (Value.bool true)), (18, (Value.slice A239 fo233.length c240))] (j := 7) (by kernel_rfl) (by kernel_rfl) ?_
        refine Ops.done (by kernel_rfl) ?_
        refine q_ret (by kernel_rfl) ?_
        refine ⟨(Value.bool true), retv_tmp rfl rfl, ?_⟩
        exact ⟨rfl, K256⟩
      · rw [h251]
        have p266 : er232 = 0 := of_bne_f h251
        obtain ⟨hple, hfo⟩ : bs.length ≤ 65536 ∧ fo233 = frameB bs := by rcases hfr with ⟨a, b, c⟩ | ⟨a, b, c⟩; (exact ⟨a, c⟩); (exfalso; omega)
        have hfl := frame_len bs
        rw [← hfo] at hfl
        have hu5 := uv_length_10 (n := bs.length) (by omega)
        refine q_skip (by kernel_rfl) ?_
        refine q_seq (by kernel_rfl) ?_
        refine q_seq (by kernel_rfl) ?_
        refine q_region (by kernel_rfl) ?_
        refine Ops.regs 3 [(1, (Value.slice B bs.length bc)), (2, (i64 cut)), (8, (Value.bool false)), (18, (Value.slice A239 fo233.length c240)), (105, (Value.bool (((fo233.length : Nat) : Int) == 0)))] (j := 3) (by kernel_rfl) (by kernel_rfl) ?_
        refine Ops.done (by kernel_rfl) ?_
        have h267 : (((fo233.length : Nat) : Int) == 0) = false := beq_f (by omega)
        rw [h267]
        refine q_else (o := .tmp 105) (by kernel_rfl) rfl ?_
        refine q_skip (by kernel_rfl) ?_
        refine q_seq (by kernel_rfl) ?_
        refine q_region (by kernel_rfl) ?_
        refine Ops.regs 1 [(1, (Value.slice B bs.length bc)), (2, (i64 cut)), (8, (Value.bool false)), (18, (Value.slice A239 fo233.length c240)), (107, (Value.slice A239 fo233.length c240))] (j := 1) (by kernel_rfl) (by kernel_rfl) ?_
        refine Ops.call (by kernel_rfl) (d := (some 108)) (by kernel_rfl) (Unframe_of _ (Value.slice A239 fo233.length c240) fo233 (OwnB.rd O237) (by omega)) ?_
        rintro _ w269 ⟨v268, rfl, K270, hO271⟩
        have O272 := own_base hO271 K242.size
        clear hO271
        have hun : unframeB fo233 = (bs, 0) := by rw [hfo]; exact unframe_frame hple
        refine ⟨_, _, rfl, rfl, ?_⟩
        have K273 := K242.trans K270 (U := none_) (fun i h1 h2 => h2) (fun i h1 h2 => by exact h2)
        clear K242
        have H274 := H243.keep K270 (fun h => h)
        clear H243
        have H275 := H244.keep K270 (fun h => h)
        clear H244
        have H276 := H245.keep K270 (fun h => h)
        clear H245
        have H277 := H246.keep K270 (fun h => h)
        clear H246
        have F278 := own_keep0 F247 K270
        clear F247
        have F279 := own_keep0 F248 K270
        clear F248
        have F280 := own_keep0 F249 K270
        clear F249
        have F281 := Keeps.trans F250 K270 (U := none_) (fun _ _ h => h) (fun _ _ h => h)
        clear F250
        have F282 := own_keep0 O237 K270
        clear O237
        clear K270
        refine Ops.regs 5 [(1, (Value.slice B bs.length bc)), (2, (i64 cut)), (8, (Value.bool false)), (18, (Value.slice A239 fo233.length c240)), (19, v268), (20, (i64 ((unframeB fo233).2)))] (j := 7) (by kernel_rfl) (by kernel_rfl) ?_
        refine Ops.done (by kernel_rfl) ?_
        refine q_seq (by kernel_rfl) ?_
        refine q_region (by kernel_rfl) ?_
        refine Ops.regs 4 [(1, (Value.slice B bs.length bc)), (8, (Value.bool false)), (19, v268), (20, (i64 ((unframeB fo233).2))), (112, (Value.slice A239 fo233.length c240)), (113, (i64 cut)), (115, (i64 ((fo233.length : Nat) : Int)))] (j := 4) (by kernel_rfl) (by kernel_rfl) ?_
        refine Ops.call (by kernel_rfl) (d := (some 116)) (by kernel_rfl) (Count_nat _ cut fo233.length (by omega)) ?_
        rintro _ _ ⟨k283, rfl, hk284, rfl⟩
        refine ⟨_, _, rfl, rfl, ?_⟩
        have hcut := run_cut (sz := 1) (P := Try.prog) (w := w269) (t := 23) (A := A239) (n := fo233.length) (c := c240) 0 k283 c240 (lo := none) (hi := some (i64 ((k283 : Nat) : Int))) (mx := none) tyB.slice (by kernel_rfl) (.inl ⟨rfl, rfl⟩) (.inr ⟨_, rfl⟩) (.inl ⟨rfl, rfl⟩) (by omega) (by omega) (by omega)
        have hA0 : (if c240 = 0 then A239 else Option.map (fun q => Addr.add q (0 * 1)) A239) = A239 := by cases A239 <;> simp [Addr.add]
        rw [hA0, Nat.sub_zero, Nat.sub_zero] at hcut
        have F285 := RdB.take (OwnB.rd F282) (k := k283) (by omega)
        have htl : ((fo233).take k283).length = k283 := by rw [List.length_take]; omega
        refine Ops.go (v := (Value.slice A239 k283 c240)) (by kernel_rfl) (Runs.slice (by kernel_rfl) hcut) (d := (some 117)) (by kernel_rfl) rfl ?_
        clear hcut hA0
        refine Ops.call (by kernel_rfl) (d := (some 118)) (by kernel_rfl) (Unframe_of _ (Value.slice A239 k283 c240) ((fo233).take k283) F285 (by omega)) ?_
        rintro _ w287 ⟨v286, rfl, K288, hO289⟩
        have O290 := own_base hO289 K273.size
        clear hO289
        have hush : unframeB ((fo233).take k283) = ([], 10) := by rw [hfo]; exact unframe_short hple (by rw [← hfo]; omega)
        refine ⟨_, _, rfl, rfl, ?_⟩
        have K291 := K273.trans K288 (U := none_) (fun i h1 h2 => h2) (fun i h1 h2 => by exact h2)
        clear K273
        have H292 := H274.keep K288 (fun h => h)
        clear H274
        have H293 := H275.keep K288 (fun h => h)
        clear H275
        have H294 := H276.keep K288 (fun h => h)
        clear H276
        have H295 := H277.keep K288 (fun h => h)
        clear H277
        have F296 := own_keep0 F278 K288
        clear F278
        have F297 := own_keep0 F279 K288
        clear F279
        have F298 := own_keep0 F280 K288
        clear F280
        have F299 := Keeps.trans F281 K288 (U := none_) (fun _ _ h => h) (fun _ _ h => h)
        clear F281
        have F300 := own_keep0 F282 K288
        clear F282
        have F301 := own_keep0 O272 K288
        clear O272
        have F302 := (Rd.keep0 (by omega) F285 K288)
        clear F285
        clear K288
        refine Ops.regs 5 [(1, (Value.slice B bs.length bc)), (8, (Value.bool false)), (19, v268), (20, (i64 ((unframeB fo233).2))), (22, (i64 ((unframeB ((fo233).take k283)).2)))] (j := 12) (by kernel_rfl) (by kernel_rfl) ?_
        refine Ops.done (by kernel_rfl) ?_
        refine q_seq (by kernel_rfl) ?_
        refine q_region (by kernel_rfl) ?_
        refine Ops.regs 3 [(1, (Value.slice B bs.length bc)), (8, (Value.bool false)), (19, v268), (22, (i64 ((unframeB ((fo233).take k283)).2))), (123, (Value.bool (((unframeB fo233).2) == 0)))] (j := 3) (by kernel_rfl) (by kernel_rfl) ?_
        have h303 : (((unframeB fo233).2) == 0) = true := beq_t (by rw [hun])
        rw [h303]
        refine Ops.regs 1 [(8, (Value.bool false)), (19, v268), (22, (i64 ((unframeB ((fo233).take k283)).2))), (123, (Value.bool true)), (124, (Value.slice B bs.length bc))] (j := 4) (by kernel_rfl) (by kernel_rfl) ?_
        refine Ops.go (v := (Value.string (str bs))) (by kernel_rfl) (Runs.b2s (s := 23) (d := 9) (e := 5) (by kernel_rfl) (by kernel_rfl) (by kernel_rfl) (hB.keep0 (by omega) K291)) (d := (some 125)) (by kernel_rfl) rfl ?_
        refine Ops.regs 1 [(8, (Value.bool false)), (22, (i64 ((unframeB ((fo233).take k283)).2))), (123, (Value.bool true)), (125, (Value.string (str bs))), (126, v268)] (j := 6) (by kernel_rfl) (by kernel_rfl) ?_
        refine Ops.go (v := (Value.string (str ((unframeB fo233).1)))) (by kernel_rfl) (Runs.b2s (s := 23) (d := 9) (e := 5) (by kernel_rfl) (by kernel_rfl) (by kernel_rfl) (OwnB.rd F301)) (d := (some 127)) (by kernel_rfl) rfl ?_
        refine Ops.go (v := (Value.bool (bs == ((unframeB fo233).1)))) (by kernel_rfl) (Runs.streq (t := 9) (by kernel_rfl)) (d := (some 128)) (by kernel_rfl) rfl ?_
        refine Ops.regs 2 [(8, (Value.bool false)), (22, (i64 ((unframeB ((fo233).take k283)).2))), (130, (Value.bool (bs == ((unframeB fo233).1))))] (j := 10) (by kernel_rfl) (by kernel_rfl) ?_
        have h304 : (bs == ((unframeB fo233).1)) = true := by rw [hun]; simp
        rw [h304]
        refine Ops.regs 4 [(8, (Value.bool false)), (134, (Value.bool (((unframeB ((fo233).take k283)).2) == 10)))] (j := 14) (by kernel_rfl) (by kernel_rfl) ?_
        have h305 : (((unframeB ((fo233).take k283)).2) == 10) = true := beq_t (by rw [hush])
        rw [h305]
        refine Ops.call (by kernel_rfl) (d := (some 135)) (by kernel_rfl) (known_calls _) ?_
        rintro _ w306 ⟨rfl, K307⟩
        refine ⟨_, _, rfl, rfl, ?_⟩
        have K308 := K291.trans K307 (U := none_) (fun i h1 h2 => h2) (fun i h1 h2 => by exact h2)
        clear K291
        have H309 := H292.keep K307 (fun h => h)
        clear H292
        have H310 := H293.keep K307 (fun h => h)
        clear H293
        have H311 := H294.keep K307 (fun h => h)
        clear H294
        have H312 := H295.keep K307 (fun h => h)
        clear H295
        have F313 := own_keep0 F296 K307
        clear F296
        have F314 := own_keep0 F297 K307
        clear F297
        have F315 := own_keep0 F298 K307
        clear F298
        have F316 := Keeps.trans F299 K307 (U := none_) (fun _ _ h => h) (fun _ _ h => h)
        clear F299
        have F317 := own_keep0 F300 K307
        clear F300
        have F318 := own_keep0 F301 K307
        clear F301
        have F319 := (Rd.keep0 (by omega) F302 K307)
        clear F302
        have F320 := own_keep0 O290 K307
        clear O290
        clear K307
        refine Ops.regs 2 [(8, (Value.bool true))] (j := 17) (by kernel_rfl) (by kernel_rfl) ?_
        refine Ops.done (by kernel_rfl) ?_
        refine q_ret (by kernel_rfl) ?_
        refine ⟨(Value.bool true), retv_tmp rfl rfl, ?_⟩
        exact ⟨rfl, K308⟩
    · rw [h59]
      have p321 : ¬ (er28 = 0) := of_beq_f h59
      refine q_seq (by kernel_rfl) ?_
      refine q_region (by kernel_rfl) ?_
      refine Ops.regs 2 [(1, (Value.slice B bs.length bc)), (2, (i64 cut)), (3, (Value.int IntKind.u8 ((z.toNat : Nat) : Int))), (8, (Value.bool false)), (9, (Value.slice A16 out10.length c17)), (10, (i64 er9)), (12, (i64 er28)), (58, (Value.bool (er28 != 1)))] (j := 2) (by kernel_rfl) (by kernel_rfl) ?_
      refine Ops.done (by kernel_rfl) ?_
      have h322 : (er28 != 1) = false := bne_f (by omega)
      rw [h322]
      refine q_else (o := .tmp 58) (by kernel_rfl) rfl ?_
      refine q_skip (by kernel_rfl) ?_
      refine q_seq (by kernel_rfl) ?_
      refine q_seq (by kernel_rfl) ?_
      refine q_region (by kernel_rfl) ?_
      refine Ops.regs 3 [(1, (Value.slice B bs.length bc)), (2, (i64 cut)), (3, (Value.int IntKind.u8 ((z.toNat : Nat) : Int))), (8, (Value.bool false)), (9, (Value.slice A16 out10.length c17)), (10, (i64 er9)), (12, (i64 er28)), (61, (Value.bool (((out10.length : Nat) : Int) == 0)))] (j := 3) (by kernel_rfl) (by kernel_rfl) ?_
      refine Ops.done (by kernel_rfl) ?_
      have h323 : (((out10.length : Nat) : Int) == 0) = false := beq_f (by omega)
      rw [h323]
      refine q_else (o := .tmp 61) (by kernel_rfl) rfl ?_
      refine q_skip (by kernel_rfl) ?_
      refine q_seq (by kernel_rfl) ?_
      refine q_region (by kernel_rfl) ?_
      refine Ops.regs 4 [(1, (Value.slice B bs.length bc)), (2, (i64 cut)), (3, (Value.int IntKind.u8 ((z.toNat : Nat) : Int))), (8, (Value.bool false)), (9, (Value.slice A16 out10.length c17)), (10, (i64 er9)), (12, (i64 er28)), (63, (Value.slice A16 out10.length c17)), (64, (i64 cut)), (66, (i64 ((out10.length : Nat) : Int)))] (j := 4) (by kernel_rfl) (by kernel_rfl) ?_
      refine Ops.call (by kernel_rfl) (d := (some 67)) (by kernel_rfl) (Count_nat _ cut out10.length (by omega)) ?_
      rintro _ _ ⟨k324, rfl, hk325, rfl⟩
      refine ⟨_, _, rfl, rfl, ?_⟩
      have hcut := run_cut (sz := 1) (P := Try.prog) (w := w52) (t := 23) (A := A16) (n := out10.length) (c := c17) 0 k324 c17 (lo := none) (hi := some (i64 ((k324 : Nat) : Int))) (mx := none) tyB.slice (by kernel_rfl) (.inl ⟨rfl, rfl⟩) (.inr ⟨_, rfl⟩) (.inl ⟨rfl, rfl⟩) (by omega) (by omega) (by omega)
      have hA0 : (if c17 = 0 then A16 else Option.map (fun q => Addr.add q (0 * 1)) A16) = A16 := by cases A16 <;> simp [Addr.add]
      rw [hA0, Nat.sub_zero, Nat.sub_zero] at hcut
      have F326 := RdB.take (OwnB.rd F57) (k := k324) (by omega)
      have htl : ((out10).take k324).length = k324 := by rw [List.length_take]; omega
      refine Ops.go (v := (Value.slice A16 k324 c17)) (by kernel_rfl) (Runs.slice (by kernel_rfl) hcut) (d := (some 68)) (by kernel_rfl) rfl ?_
      clear hcut hA0
      refine Ops.call (by kernel_rfl) (d := (some 69)) (by kernel_rfl) (Unmsg_of _ (Value.slice A16 k324 c17) ((out10).take k324) F326 (by first | omega | (simp only [List.length_append]; omega))) ?_
      rintro _ w333 ⟨x327, E328, D329, ec330, dc331, er332, rfl, K334, hok335, hq336, hE337, hC338, hD339⟩
      have kx340 : Keeps none_ w333 w333 := Keeps.refl _
      have hcutne : er332 ≠ 0 := by have h := unmsg_cut (k := k324) hm hfit (by rw [← hout]; omega); rw [← hout] at h; rw [← hq336] at h; exact h
      refine ⟨_, _, rfl, rfl, ?_⟩
      have K341 := K55.trans K334 (U := none_) (fun i h1 h2 => h2) (fun i h1 h2 => by exact h2)
      clear K55
      have H342 := H56.keep K334 (fun h => h)
      clear H56
      have H343 := H53.keep K334 (fun h => h)
      clear H53
      have F344 := own_keep0 F57 K334
      clear F57
      have F345 := Keeps.trans F58 K334 (U := none_) (fun _ _ h => h) (fun _ _ h => h)
      clear F58
      have F346 := (Rd.keep0 (by omega) F326 K334)
      clear F326
      clear K334
      refine Ops.regs 4 [(1, (Value.slice B bs.length bc)), (2, (i64 cut)), (3, (Value.int IntKind.u8 ((z.toNat : Nat) : Int))), (8, (Value.bool false)), (9, (Value.slice A16 out10.length c17)), (10, (i64 er9)), (12, (i64 er332))] (j := 11) (by kernel_rfl) (by kernel_rfl) ?_
      refine Ops.done (by kernel_rfl) ?_
      refine q_seq (by kernel_rfl) ?_
      refine q_region (by kernel_rfl) ?_
      refine Ops.regs 1 [(1, (Value.slice B bs.length bc)), (2, (i64 cut)), (3, (Value.int IntKind.u8 ((z.toNat : Nat) : Int))), (8, (Value.bool false)), (9, (Value.slice A16 out10.length c17)), (10, (i64 er9)), (12, (i64 er332)), (15, (Value.slice none 0 0))] (j := 1) (by kernel_rfl) (by kernel_rfl) ?_
      refine Ops.done (by kernel_rfl) ?_
      refine q_seq (by kernel_rfl) ?_
      refine q_region (by kernel_rfl) ?_
      refine Ops.regs 2 [(1, (Value.slice B bs.length bc)), (2, (i64 cut)), (3, (Value.int IntKind.u8 ((z.toNat : Nat) : Int))), (8, (Value.bool false)), (10, (i64 er9)), (12, (i64 er332)), (15, (Value.slice none 0 0)), (72, (Value.slice none 0 0)), (73, (Value.slice A16 out10.length c17))] (j := 2) (by kernel_rfl) (by kernel_rfl) ?_
      obtain ⟨v347, w348, hr349, hO350, hK351⟩ := OwnB.app (ty := 23) (base := w333.heap.size) tyB (show OwnB w333 w333.heap.size 5 (.slice none 0 0) [] from World.ownsRow_nil _ _ _ _) (OwnB.rd F344) (by simp only [List.length_nil]; omega) (Nat.le_refl _)
      have hO352 : OwnB w348 _ 5 v347 out10 := hO350
      have ob355 : ∀ i, (v347).ownBlock = some i → i ≠ b1 := fun i hi => by have := (World.ownsRow.lt hO352 i hi).1; have := H342.lt; omega
      have ob356 : ∀ i, (v347).ownBlock = some i → i ≠ b40 := fun i hi => by have := (World.ownsRow.lt hO352 i hi).1; have := H343.lt; omega
      have oo357 : ∀ i, ((Value.slice A16 out10.length c17)).ownBlock = some i → (v347).ownBlock = some i → False := fun i hi hs => by have := (World.ownsRow.lt hO352 i hs).1; have := (World.ownsRow.lt F344 i hi).2; omega
      have oo358 : ∀ i, (v347).ownBlock = some i → ((Value.slice A16 out10.length c17)).ownBlock = some i → False := fun i hi hs => oo357 i hs hi
      have K354 := Keeps.new hK351
      have O353 := own_base hO352 K341.size
      refine Ops.go (v := v347) (by kernel_rfl) (Runs.append (ts := #[23, 23]) (ty := 23) (vs := [(Value.slice none 0 0), (Value.slice A16 out10.length c17)]) (by kernel_rfl) hr349) (d := (some 74)) (by kernel_rfl) rfl ?_
      have K359 := K341.trans K354 (U := none_) (fun i h1 h2 => h2) (fun i h1 h2 => by exact h2)
      clear K341
      have H360 := H342.keep K354 (fun h => h)
      clear H342
      have H361 := H343.keep K354 (fun h => h)
      clear H343
      have F362 := own_keep0 F344 K354
      clear F344
      have F363 := Keeps.trans F345 K354 (U := none_) (fun _ _ h => h) (fun _ _ h => h)
      clear F345
      have F364 := (Rd.keep0 (by omega) F346 K354)
      clear F346
      have F365 := Keeps.trans kx340 K354 (U := none_) (fun _ _ h => h) (fun _ _ h => h)
      clear kx340
      clear K354 hr349 hK351 hO350 hO352
      refine Ops.regs 1 [(1, (Value.slice B bs.length bc)), (2, (i64 cut)), (3, (Value.int IntKind.u8 ((z.toNat : Nat) : Int))), (8, (Value.bool false)), (10, (i64 er9)), (12, (i64 er332)), (15, v347)] (j := 4) (by kernel_rfl) (by kernel_rfl) ?_
      refine Ops.done (by kernel_rfl) ?_
      refine q_seq (by kernel_rfl) ?_
      refine q_region (by kernel_rfl) ?_
      refine Ops.regs 2 [(1, (Value.slice B bs.length bc)), (2, (i64 cut)), (8, (Value.bool false)), (10, (i64 er9)), (12, (i64 er332)), (15, v347), (75, v347), (76, (Value.int IntKind.u8 ((z.toNat : Nat) : Int)))] (j := 2) (by kernel_rfl) (by kernel_rfl) ?_
      refine Ops.new (o := rowL [(Value.int IntKind.u8 ((z.toNat : Nat) : Int))] 5) (V := fun b => (Value.slice (some ⟨b, 0, none⟩) 1 1)) (by kernel_rfl) (d := (some 77)) (by kernel_rfl) (fun b => rfl) (fun b366 w367 hb368 H369 K370 hs371 => ?_)
      have lb366b1 : b1 < b366 := by have := H360.lt; omega
      have lb366b40 : b40 < b366 := by have := H361.lt; omega
      have nb366 : w.heap.size ≤ b366 := by have := K359.size; omega
      have ob372 : ∀ i, ((Value.slice A16 out10.length c17)).ownBlock = some i → i < b366 := fun i hi => by have := (World.ownsRow.lt F362 i hi).2; omega
      have ox373 : w29.heap.size ≤ b366 := by have := F363.size; omega
      have ox374 : w333.heap.size ≤ b366 := by have := F365.size; omega
      have ob375 : ∀ i, (v347).ownBlock = some i → i < b366 := fun i hi => by have := (World.ownsRow.lt O353 i hi).2; omega
      have K376 := K359.trans K370 (U := none_) (fun i h1 h2 => h2) (fun i h1 h2 => by exact h2)
      clear K359
      have H377 := H360.keep K370 (fun h => h)
      clear H360
      have H378 := H361.keep K370 (fun h => h)
      clear H361
      have F379 := own_keep0 F362 K370
      clear F362
      have F380 := Keeps.trans F363 K370 (U := none_) (fun _ _ h => h) (fun _ _ h => h)
      clear F363
      have F381 := (Rd.keep0 (by omega) F364 K370)
      clear F364
      have F382 := Keeps.trans F365 K370 (U := none_) (fun _ _ h => h) (fun _ _ h => h)
      clear F365
      have F383 := own_keep0 O353 K370
      clear O353
      clear K370 hs371
      obtain ⟨v384, w385, hr386, hO387, K388, hg389⟩ := OwnB.app2 (ty := 23) tyB F383 (RdB.lit (xs := [z]) (show Has _ b366 (rowL (bv [z]) 5) from H369) (by first | decide | (simp [maxLen]; done))) (by (try simp only [List.length_append]); (try simp only [List.length_nil]); omega) K376.size
      obtain ⟨A391, c392, hf390⟩ := RdB.form (OwnB.rd hO387)
      subst hf390
      have ob393 : ∀ i, ((Value.slice A391 ((out10 ++ [z]).length) c392)).ownBlock = some i → i ≠ b1 := fun i hi => by rcases hg389 i hi with h | h; (have := ob355 i h; omega); (have := H377.lt; omega)
      have ob394 : ∀ i, ((Value.slice A391 ((out10 ++ [z]).length) c392)).ownBlock = some i → i ≠ b40 := fun i hi => by rcases hg389 i hi with h | h; (have := ob356 i h; omega); (have := H378.lt; omega)
      have ob395 : ∀ i, ((Value.slice A391 ((out10 ++ [z]).length) c392)).ownBlock = some i → i ≠ b366 := fun i hi => by rcases hg389 i hi with h | h; (have := ob375 i h; omega); (have := H369.lt; omega)
      have oo396 : ∀ i, ((Value.slice A16 out10.length c17)).ownBlock = some i → ((Value.slice A391 ((out10 ++ [z]).length) c392)).ownBlock = some i → False := fun i hi hs => by rcases hg389 i hs with h | h; (exact oo357 i hi h); (have := (World.ownsRow.lt F379 i hi).2; omega)
      have oo397 : ∀ i, ((Value.slice A391 ((out10 ++ [z]).length) c392)).ownBlock = some i → ((Value.slice A16 out10.length c17)).ownBlock = some i → False := fun i hi hs => oo396 i hs hi
      refine Ops.go (v := (Value.slice A391 ((out10 ++ [z]).length) c392)) (by kernel_rfl) (Runs.append (ts := #[23, 23]) (ty := 23) (vs := [v347, (Value.slice (some ⟨b366, 0, none⟩) 1 1)]) (by kernel_rfl) hr386) (d := (some 78)) (by kernel_rfl) rfl ?_
      have K398 := K376.trans K388 (U := none_) (fun i h1 h2 => h2) (fun i h1 h2 => by have h2 : (v347).ownBlock = some i := h2; exfalso; have := (World.ownsRow.lt F383 i h2).1; omega)
      clear K376
      have H399 := H377.keep K388 (by intro h; change (v347).ownBlock = some b1 at h; have := ob355 b1 h; omega)
      clear H377
      have H400 := H378.keep K388 (by intro h; change (v347).ownBlock = some b40 at h; have := ob356 b40 h; omega)
      clear H378
      have H401 := H369.keep K388 (by intro h; change (v347).ownBlock = some b366 at h; have := ob375 b366 h; omega)
      clear H369
      have F402 := own_keep F379 K388 (fun i hi hs => by have hs : (v347).ownBlock = some i := hs; exact oo357 i hi hs)
      clear F379
      clear F380
      clear F381
      clear F382
      clear F383
      clear K388 hr386 hg389
      refine Ops.regs 1 [(1, (Value.slice B bs.length bc)), (2, (i64 cut)), (8, (Value.bool false)), (10, (i64 er9)), (12, (i64 er332)), (15, (Value.slice A391 ((out10 ++ [z]).length) c392))] (j := 5) (by kernel_rfl) (by kernel_rfl) ?_
      refine Ops.done (by kernel_rfl) ?_
      refine q_seq (by kernel_rfl) ?_
      refine q_region (by kernel_rfl) ?_
      refine Ops.regs 1 [(1, (Value.slice B bs.length bc)), (2, (i64 cut)), (8, (Value.bool false)), (10, (i64 er9)), (12, (i64 er332)), (80, (Value.slice A391 ((out10 ++ [z]).length) c392))] (j := 1) (by kernel_rfl) (by kernel_rfl) ?_
      refine Ops.call (by kernel_rfl) (d := (some 81)) (by kernel_rfl) (Unmsg_of _ (Value.slice A391 ((out10 ++ [z]).length) c392) (out10 ++ [z]) (OwnB.rd hO387) (by first | omega | (simp only [List.length_append]; omega))) ?_
      rintro _ w409 ⟨x403, E404, D405, ec406, dc407, er408, rfl, K410, hok411, hq412, hE413, hC414, hD415⟩
      have kx416 : Keeps none_ w409 w409 := Keeps.refl _
      have hmorene : er408 ≠ 0 := by have h := unmsg_more (x := z) hm hfit; rw [← hout] at h; rw [← hq412] at h; exact h
      refine ⟨_, _, rfl, rfl, ?_⟩
      have K417 := K398.trans K410 (U := none_) (fun i h1 h2 => h2) (fun i h1 h2 => by exact h2)
      clear K398
      have H418 := H399.keep K410 (fun h => h)
      clear H399
      have H419 := H400.keep K410 (fun h => h)
      clear H400
      have H420 := H401.keep K410 (fun h => h)
      clear H401
      have F421 := own_keep0 F402 K410
      clear F402
      have F422 := own_keep0 hO387 K410
      clear hO387
      clear K410
      refine Ops.regs 3 [(1, (Value.slice B bs.length bc)), (2, (i64 cut)), (8, (Value.bool false)), (10, (i64 er9)), (12, (i64 er332)), (82, (agg [(i64 x403.kind), (i64 x403.group), (i64 x403.frm), (i64 x403.to), (i64 x403.term), (i64 x403.index), (i64 x403.logTerm), (i64 x403.commit), (Value.bool x403.ok), (Value.slice E404 x403.entries.length ec406), (Value.slice D405 x403.data.length dc407)])), (83, (i64 er408))] (j := 5) (by kernel_rfl) (by kernel_rfl) ?_
      refine Ops.new (o := rowL [(i64 0), (i64 0), (i64 0), (i64 0), (i64 0), (i64 0), (i64 0), (i64 0), (Value.bool false), (Value.slice none 0 0), (Value.slice none 0 0)] 49) (V := fun b => (Value.pointer (some ⟨b, 0, none⟩))) (by kernel_rfl) (d := (some 16)) (by kernel_rfl) (fun b => rfl) (fun b423 w424 hb425 H426 K427 hs428 => ?_)
      have lb423b1 : b1 < b423 := by have := H418.lt; omega
      have lb423b40 : b40 < b423 := by have := H419.lt; omega
      have lb423b366 : b366 < b423 := by have := H420.lt; omega
      have nb423 : w.heap.size ≤ b423 := by have := K417.size; omega
      have ob429 : ∀ i, ((Value.slice A16 out10.length c17)).ownBlock = some i → i < b423 := fun i hi => by have := (World.ownsRow.lt F421 i hi).2; omega
      have ob430 : ∀ i, ((Value.slice A391 ((out10 ++ [z]).length) c392)).ownBlock = some i → i < b423 := fun i hi => by have := (World.ownsRow.lt F422 i hi).2; omega
      have ox431 : w409.heap.size ≤ b423 := by have := kx416.size; omega
      have K432 := K417.trans K427 (U := none_) (fun i h1 h2 => h2) (fun i h1 h2 => by exact h2)
      clear K417
      have H433 := H418.keep K427 (fun h => h)
      clear H418
      have H434 := H419.keep K427 (fun h => h)
      clear H419
      have H435 := H420.keep K427 (fun h => h)
      clear H420
      have F436 := own_keep0 F421 K427
      clear F421
      have F437 := own_keep0 F422 K427
      clear F422
      have F438 := Keeps.trans kx416 K427 (U := none_) (fun _ _ h => h) (fun _ _ h => h)
      clear kx416
      clear K427 hs428
      refine Ops.put (t := 49) (b := b423) (off := 0) (v := (agg [(i64 x403.kind), (i64 x403.group), (i64 x403.frm), (i64 x403.to), (i64 x403.term), (i64 x403.index), (i64 x403.logTerm), (i64 x403.commit), (Value.bool x403.ok), (Value.slice E404 x403.entries.length ec406), (Value.slice D405 x403.data.length dc407)])) (ys := [(i64 x403.kind), (i64 x403.group), (i64 x403.frm), (i64 x403.to), (i64 x403.term), (i64 x403.index), (i64 x403.logTerm), (i64 x403.commit), (Value.bool x403.ok), (Value.slice E404 x403.entries.length ec406), (Value.slice D405 x403.data.length dc407)]) (by kernel_rfl) (by kernel_rfl) H426 (by kernel_rfl) (d := none) (by kernel_rfl) rfl (fun w439 H440 K441 => ?_)
      clear H426
      have K442 := K432.trans K441 (U := none_) (fun i h1 h2 => h2) (fun i h1 h2 => by have h2 : i = b423 := h2; exfalso; omega)
      clear K432
      have H443 := H433.keep K441 (by intro h; change b1 = b423 at h; omega)
      clear H433
      have H444 := H434.keep K441 (by intro h; change b40 = b423 at h; omega)
      clear H434
      have H445 := H435.keep K441 (by intro h; change b366 = b423 at h; omega)
      clear H435
      have F446 := own_keep F436 K441 (fun i hi hs => by have hs : i = b423 := hs; have := ob429 i hi; omega)
      clear F436
      have F447 := own_keep F437 K441 (fun i hi hs => by have hs : i = b423 := hs; have := ob430 i hi; omega)
      clear F437
      have F448 := Keeps.trans F438 K441 (U := none_) (fun _ _ h => h) (fun i hi hs => by have hs : i = b423 := hs; exfalso; have := ox431; omega)
      clear F438
      clear K441
      refine Ops.regs 1 [(1, (Value.slice B bs.length bc)), (2, (i64 cut)), (8, (Value.bool false)), (10, (i64 er9)), (12, (i64 er332)), (17, (i64 er408))] (j := 8) (by kernel_rfl) (by kernel_rfl) ?_
      refine Ops.done (by kernel_rfl) ?_
      refine q_seq (by kernel_rfl) ?_
      refine q_region (by kernel_rfl) ?_
      refine Ops.regs 3 [(1, (Value.slice B bs.length bc)), (2, (i64 cut)), (8, (Value.bool false)), (10, (i64 er9)), (17, (i64 er408)), (86, (Value.bool (er332 == 0)))] (j := 3) (by kernel_rfl) (by kernel_rfl) ?_
      have h449 : (er332 == 0) = false := beq_f hcutne
      rw [h449]
      refine Ops.regs 3 [(1, (Value.slice B bs.length bc)), (2, (i64 cut)), (8, (Value.bool false)), (10, (i64 er9)), (89, (Value.bool (er408 == 0)))] (j := 6) (by kernel_rfl) (by kernel_rfl) ?_
      refine Ops.done (by kernel_rfl) ?_
      have h450 : (er408 == 0) = false := beq_f hmorene
      rw [h450]
      refine q_else (o := .tmp 89) (by kernel_rfl) rfl ?_
      refine q_skip (by kernel_rfl) ?_
      refine q_seq (by kernel_rfl) ?_
      refine q_region (by kernel_rfl) ?_
      refine Ops.regs 1 [(1, (Value.slice B bs.length bc)), (2, (i64 cut)), (8, (Value.bool false)), (10, (i64 er9)), (91, (Value.slice B bs.length bc))] (j := 1) (by kernel_rfl) (by kernel_rfl) ?_
      refine Ops.call (by kernel_rfl) (d := (some 92)) (by kernel_rfl) (Frame_of _ (Value.slice B bs.length bc) bs (hB.keep0 (by omega) K442)) ?_
      rintro _ w454 ⟨v451, er452, fo453, rfl, K455, hO456, hc458⟩
      obtain ⟨A459, c460, hf461⟩ := RdB.form (OwnB.rd hO456)
      subst hf461
      have hsA459 := (OwnB.rd hO456).slice
      have O457 := own_base hO456 K442.size
      clear hO456
      have hfr := hc458
      have hfr3 : er452 = 0 ∨ er452 = 3 := by rcases hfr with ⟨a, b, c⟩ | ⟨a, b, c⟩; (exact .inl b); (exact .inr b)
      refine ⟨_, _, rfl, rfl, ?_⟩
      have K462 := K442.trans K455 (U := none_) (fun i h1 h2 => h2) (fun i h1 h2 => by exact h2)
      clear K442
      have H463 := H443.keep K455 (fun h => h)
      clear H443
      have H464 := H444.keep K455 (fun h => h)
      clear H444
      have H465 := H445.keep K455 (fun h => h)
      clear H445
      have H466 := H440.keep K455 (fun h => h)
      clear H440
      have F467 := own_keep0 F446 K455
      clear F446
      have F468 := own_keep0 F447 K455
      clear F447
      have F469 := Keeps.trans F448 K455 (U := none_) (fun _ _ h => h) (fun _ _ h => h)
      clear F448
      clear K455
      refine Ops.regs 5 [(1, (Value.slice B bs.length bc)), (2, (i64 cut)), (8, (Value.bool false)), (10, (i64 er452)), (18, (Value.slice A459 fo453.length c460))] (j := 7) (by kernel_rfl) (by kernel_rfl) ?_
      refine Ops.done (by kernel_rfl) ?_
      refine q_seq (by kernel_rfl) ?_
      refine q_seq (by kernel_rfl) ?_
      refine q_region (by kernel_rfl) ?_
      refine Ops.regs 2 [(1, (Value.slice B bs.length bc)), (2, (i64 cut)), (8, (Value.bool false)), (18, (Value.slice A459 fo453.length c460)), (96, (Value.bool (er452 != 0)))] (j := 2) (by kernel_rfl) (by kernel_rfl) ?_
      refine Ops.done (by kernel_rfl) ?_
      refine q_cond (o := .tmp 96) (b := (er452 != 0)) (by kernel_rfl) rfl (fun h470 => ?_) (fun h470 => ?_)
      · rw [h470]
        have p471 : ¬ (er452 = 0) := of_bne_t h470
        have hlong : 65536 < bs.length := by rcases hfr with ⟨a, b, c⟩ | ⟨a, b, c⟩; (exfalso; omega); (exact a)
        refine q_seq (by kernel_rfl) ?_
        refine q_region (by kernel_rfl) ?_
        refine Ops.regs 4 [(1, (Value.slice B bs.length bc)), (2, (i64 cut)), (8, (Value.bool false)), (18, (Value.slice A459 fo453.length c460)), (100, (Value.bool (decide (((bs.length : Nat) : Int) > 65536))))] (j := 4) (by kernel_rfl) (by kernel_rfl) ?_
        have h472 : (decide (((bs.length : Nat) : Int) > 65536)) = true := decide_eq_true (by omega)
        rw [h472]
        refine Ops.call (by kernel_rfl) (d := (some 101)) (by kernel_rfl) (known_calls _) ?_
        rintro _ w473 ⟨rfl, K474⟩
        refine ⟨_, _, rfl, rfl, ?_⟩
        have K475 := K462.trans K474 (U := none_) (fun i h1 h2 => h2) (fun i h1 h2 => by exact h2)
        clear K462
        have H476 := H463.keep K474 (fun h => h)
        clear H463
        have H477 := H464.keep K474 (fun h => h)
        clear H464
        have H478 := H465.keep K474 (fun h => h)
        clear H465
        have H479 := H466.keep K474 (fun h => h)
        clear H466
        have F480 := own_keep0 F467 K474
        clear F467
        have F481 := own_keep0 F468 K474
        clear F468
        have F482 := Keeps.trans F469 K474 (U := none_) (fun _ _ h => h) (fun _ _ h => h)
        clear F469
        have F483 := own_keep0 O457 K474
        clear O457
        clear K474
        refine Ops.regs 2 [(1, (Value.slice B bs.length bc)), (2, (i64 cut)), (8, (Value.bool true)), (18, (Value.slice A459 fo453.length c460))] (j := 7) (by kernel_rfl) (by kernel_rfl) ?_
        refine Ops.done (by kernel_rfl) ?_
        refine q_ret (by kernel_rfl) ?_
        refine ⟨(Value.bool true), retv_tmp rfl rfl, ?_⟩
        exact ⟨rfl, K475⟩
      · rw [h470]
        have p484 : er452 = 0 := of_bne_f h470
        obtain ⟨hple, hfo⟩ : bs.length ≤ 65536 ∧ fo453 = frameB bs := by rcases hfr with ⟨a, b, c⟩ | ⟨a, b, c⟩; (exact ⟨a, c⟩); (exfalso; omega)
        have hfl := frame_len bs
        rw [← hfo] at hfl
        have hu5 := uv_length_10 (n := bs.length) (by omega)
        refine q_skip (by kernel_rfl) ?_
        refine q_seq (by kernel_rfl) ?_
        refine q_seq (by kernel_rfl) ?_
        refine q_region (by kernel_rfl) ?_
        refine Ops.regs 3 [(1, (Value.slice B bs.length bc)), (2, (i64 cut)), (8, (Value.bool false)), (18, (Value.slice A459 fo453.length c460)), (105, (Value.bool (((fo453.length : Nat) : Int) == 0)))] (j := 3) (by kernel_rfl) (by kernel_rfl) ?_
        refine Ops.done (by kernel_rfl) ?_
        have h485 : (((fo453.length : Nat) : Int) == 0) = false := beq_f (by omega)
        rw [h485]
        refine q_else (o := .tmp 105) (by kernel_rfl) rfl ?_
        refine q_skip (by kernel_rfl) ?_
        refine q_seq (by kernel_rfl) ?_
        refine q_region (by kernel_rfl) ?_
        refine Ops.regs 1 [(1, (Value.slice B bs.length bc)), (2, (i64 cut)), (8, (Value.bool false)), (18, (Value.slice A459 fo453.length c460)), (107, (Value.slice A459 fo453.length c460))] (j := 1) (by kernel_rfl) (by kernel_rfl) ?_
        refine Ops.call (by kernel_rfl) (d := (some 108)) (by kernel_rfl) (Unframe_of _ (Value.slice A459 fo453.length c460) fo453 (OwnB.rd O457) (by omega)) ?_
        rintro _ w487 ⟨v486, rfl, K488, hO489⟩
        have O490 := own_base hO489 K462.size
        clear hO489
        have hun : unframeB fo453 = (bs, 0) := by rw [hfo]; exact unframe_frame hple
        refine ⟨_, _, rfl, rfl, ?_⟩
        have K491 := K462.trans K488 (U := none_) (fun i h1 h2 => h2) (fun i h1 h2 => by exact h2)
        clear K462
        have H492 := H463.keep K488 (fun h => h)
        clear H463
        have H493 := H464.keep K488 (fun h => h)
        clear H464
        have H494 := H465.keep K488 (fun h => h)
        clear H465
        have H495 := H466.keep K488 (fun h => h)
        clear H466
        have F496 := own_keep0 F467 K488
        clear F467
        have F497 := own_keep0 F468 K488
        clear F468
        have F498 := Keeps.trans F469 K488 (U := none_) (fun _ _ h => h) (fun _ _ h => h)
        clear F469
        have F499 := own_keep0 O457 K488
        clear O457
        clear K488
        refine Ops.regs 5 [(1, (Value.slice B bs.length bc)), (2, (i64 cut)), (8, (Value.bool false)), (18, (Value.slice A459 fo453.length c460)), (19, v486), (20, (i64 ((unframeB fo453).2)))] (j := 7) (by kernel_rfl) (by kernel_rfl) ?_
        refine Ops.done (by kernel_rfl) ?_
        refine q_seq (by kernel_rfl) ?_
        refine q_region (by kernel_rfl) ?_
        refine Ops.regs 4 [(1, (Value.slice B bs.length bc)), (8, (Value.bool false)), (19, v486), (20, (i64 ((unframeB fo453).2))), (112, (Value.slice A459 fo453.length c460)), (113, (i64 cut)), (115, (i64 ((fo453.length : Nat) : Int)))] (j := 4) (by kernel_rfl) (by kernel_rfl) ?_
        refine Ops.call (by kernel_rfl) (d := (some 116)) (by kernel_rfl) (Count_nat _ cut fo453.length (by omega)) ?_
        rintro _ _ ⟨k500, rfl, hk501, rfl⟩
        refine ⟨_, _, rfl, rfl, ?_⟩
        have hcut := run_cut (sz := 1) (P := Try.prog) (w := w487) (t := 23) (A := A459) (n := fo453.length) (c := c460) 0 k500 c460 (lo := none) (hi := some (i64 ((k500 : Nat) : Int))) (mx := none) tyB.slice (by kernel_rfl) (.inl ⟨rfl, rfl⟩) (.inr ⟨_, rfl⟩) (.inl ⟨rfl, rfl⟩) (by omega) (by omega) (by omega)
        have hA0 : (if c460 = 0 then A459 else Option.map (fun q => Addr.add q (0 * 1)) A459) = A459 := by cases A459 <;> simp [Addr.add]
        rw [hA0, Nat.sub_zero, Nat.sub_zero] at hcut
        have F502 := RdB.take (OwnB.rd F499) (k := k500) (by omega)
        have htl : ((fo453).take k500).length = k500 := by rw [List.length_take]; omega
        refine Ops.go (v := (Value.slice A459 k500 c460)) (by kernel_rfl) (Runs.slice (by kernel_rfl) hcut) (d := (some 117)) (by kernel_rfl) rfl ?_
        clear hcut hA0
        refine Ops.call (by kernel_rfl) (d := (some 118)) (by kernel_rfl) (Unframe_of _ (Value.slice A459 k500 c460) ((fo453).take k500) F502 (by omega)) ?_
        rintro _ w504 ⟨v503, rfl, K505, hO506⟩
        have O507 := own_base hO506 K491.size
        clear hO506
        have hush : unframeB ((fo453).take k500) = ([], 10) := by rw [hfo]; exact unframe_short hple (by rw [← hfo]; omega)
        refine ⟨_, _, rfl, rfl, ?_⟩
        have K508 := K491.trans K505 (U := none_) (fun i h1 h2 => h2) (fun i h1 h2 => by exact h2)
        clear K491
        have H509 := H492.keep K505 (fun h => h)
        clear H492
        have H510 := H493.keep K505 (fun h => h)
        clear H493
        have H511 := H494.keep K505 (fun h => h)
        clear H494
        have H512 := H495.keep K505 (fun h => h)
        clear H495
        have F513 := own_keep0 F496 K505
        clear F496
        have F514 := own_keep0 F497 K505
        clear F497
        have F515 := Keeps.trans F498 K505 (U := none_) (fun _ _ h => h) (fun _ _ h => h)
        clear F498
        have F516 := own_keep0 F499 K505
        clear F499
        have F517 := own_keep0 O490 K505
        clear O490
        have F518 := (Rd.keep0 (by omega) F502 K505)
        clear F502
        clear K505
        refine Ops.regs 5 [(1, (Value.slice B bs.length bc)), (8, (Value.bool false)), (19, v486), (20, (i64 ((unframeB fo453).2))), (22, (i64 ((unframeB ((fo453).take k500)).2)))] (j := 12) (by kernel_rfl) (by kernel_rfl) ?_
        refine Ops.done (by kernel_rfl) ?_
        refine q_seq (by kernel_rfl) ?_
        refine q_region (by kernel_rfl) ?_
        refine Ops.regs 3 [(1, (Value.slice B bs.length bc)), (8, (Value.bool false)), (19, v486), (22, (i64 ((unframeB ((fo453).take k500)).2))), (123, (Value.bool (((unframeB fo453).2) == 0)))] (j := 3) (by kernel_rfl) (by kernel_rfl) ?_
        have h519 : (((unframeB fo453).2) == 0) = true := beq_t (by rw [hun])
        rw [h519]
        refine Ops.regs 1 [(8, (Value.bool false)), (19, v486), (22, (i64 ((unframeB ((fo453).take k500)).2))), (123, (Value.bool true)), (124, (Value.slice B bs.length bc))] (j := 4) (by kernel_rfl) (by kernel_rfl) ?_
        refine Ops.go (v := (Value.string (str bs))) (by kernel_rfl) (Runs.b2s (s := 23) (d := 9) (e := 5) (by kernel_rfl) (by kernel_rfl) (by kernel_rfl) (hB.keep0 (by omega) K508)) (d := (some 125)) (by kernel_rfl) rfl ?_
        refine Ops.regs 1 [(8, (Value.bool false)), (22, (i64 ((unframeB ((fo453).take k500)).2))), (123, (Value.bool true)), (125, (Value.string (str bs))), (126, v486)] (j := 6) (by kernel_rfl) (by kernel_rfl) ?_
        refine Ops.go (v := (Value.string (str ((unframeB fo453).1)))) (by kernel_rfl) (Runs.b2s (s := 23) (d := 9) (e := 5) (by kernel_rfl) (by kernel_rfl) (by kernel_rfl) (OwnB.rd F517)) (d := (some 127)) (by kernel_rfl) rfl ?_
        refine Ops.go (v := (Value.bool (bs == ((unframeB fo453).1)))) (by kernel_rfl) (Runs.streq (t := 9) (by kernel_rfl)) (d := (some 128)) (by kernel_rfl) rfl ?_
        refine Ops.regs 2 [(8, (Value.bool false)), (22, (i64 ((unframeB ((fo453).take k500)).2))), (130, (Value.bool (bs == ((unframeB fo453).1))))] (j := 10) (by kernel_rfl) (by kernel_rfl) ?_
        have h520 : (bs == ((unframeB fo453).1)) = true := by rw [hun]; simp
        rw [h520]
        refine Ops.regs 4 [(8, (Value.bool false)), (134, (Value.bool (((unframeB ((fo453).take k500)).2) == 10)))] (j := 14) (by kernel_rfl) (by kernel_rfl) ?_
        have h521 : (((unframeB ((fo453).take k500)).2) == 10) = true := beq_t (by rw [hush])
        rw [h521]
        refine Ops.call (by kernel_rfl) (d := (some 135)) (by kernel_rfl) (known_calls _) ?_
        rintro _ w522 ⟨rfl, K523⟩
        refine ⟨_, _, rfl, rfl, ?_⟩
        have K524 := K508.trans K523 (U := none_) (fun i h1 h2 => h2) (fun i h1 h2 => by exact h2)
        clear K508
        have H525 := H509.keep K523 (fun h => h)
        clear H509
        have H526 := H510.keep K523 (fun h => h)
        clear H510
        have H527 := H511.keep K523 (fun h => h)
        clear H511
        have H528 := H512.keep K523 (fun h => h)
        clear H512
        have F529 := own_keep0 F513 K523
        clear F513
        have F530 := own_keep0 F514 K523
        clear F514
        have F531 := Keeps.trans F515 K523 (U := none_) (fun _ _ h => h) (fun _ _ h => h)
        clear F515
        have F532 := own_keep0 F516 K523
        clear F516
        have F533 := own_keep0 F517 K523
        clear F517
        have F534 := (Rd.keep0 (by omega) F518 K523)
        clear F518
        have F535 := own_keep0 O507 K523
        clear O507
        clear K523
        refine Ops.regs 2 [(8, (Value.bool true))] (j := 17) (by kernel_rfl) (by kernel_rfl) ?_
        refine Ops.done (by kernel_rfl) ?_
        refine q_ret (by kernel_rfl) ?_
        refine ⟨(Value.bool true), retv_tmp rfl rfl, ?_⟩
        exact ⟨rfl, K524⟩
  · rw [h21]
    have p536 : ¬ (er9 = 0) := of_beq_f h21
    refine q_skip (by kernel_rfl) ?_
    refine q_seq (by kernel_rfl) ?_
    refine q_region (by kernel_rfl) ?_
    refine Ops.regs 1 [(1, (Value.slice B bs.length bc)), (2, (i64 cut)), (8, (Value.bool false)), (10, (i64 er9)), (91, (Value.slice B bs.length bc))] (j := 1) (by kernel_rfl) (by kernel_rfl) ?_
    refine Ops.call (by kernel_rfl) (d := (some 92)) (by kernel_rfl) (Frame_of _ (Value.slice B bs.length bc) bs (hB.keep0 (by omega) K19)) ?_
    rintro _ w540 ⟨v537, er538, fo539, rfl, K541, hO542, hc544⟩
    obtain ⟨A545, c546, hf547⟩ := RdB.form (OwnB.rd hO542)
    subst hf547
    have hsA545 := (OwnB.rd hO542).slice
    have O543 := own_base hO542 K19.size
    clear hO542
    have hfr := hc544
    have hfr3 : er538 = 0 ∨ er538 = 3 := by rcases hfr with ⟨a, b, c⟩ | ⟨a, b, c⟩; (exact .inl b); (exact .inr b)
    refine ⟨_, _, rfl, rfl, ?_⟩
    have K548 := K19.trans K541 (U := none_) (fun i h1 h2 => h2) (fun i h1 h2 => by exact h2)
    clear K19
    have H549 := H20.keep K541 (fun h => h)
    clear H20
    have F550 := own_keep0 O14 K541
    clear O14
    clear K541
    refine Ops.regs 5 [(1, (Value.slice B bs.length bc)), (2, (i64 cut)), (8, (Value.bool false)), (10, (i64 er538)), (18, (Value.slice A545 fo539.length c546))] (j := 7) (by kernel_rfl) (by kernel_rfl) ?_
    refine Ops.done (by kernel_rfl) ?_
    refine q_seq (by kernel_rfl) ?_
    refine q_seq (by kernel_rfl) ?_
    refine q_region (by kernel_rfl) ?_
    refine Ops.regs 2 [(1, (Value.slice B bs.length bc)), (2, (i64 cut)), (8, (Value.bool false)), (18, (Value.slice A545 fo539.length c546)), (96, (Value.bool (er538 != 0)))] (j := 2) (by kernel_rfl) (by kernel_rfl) ?_
    refine Ops.done (by kernel_rfl) ?_
    refine q_cond (o := .tmp 96) (b := (er538 != 0)) (by kernel_rfl) rfl (fun h551 => ?_) (fun h551 => ?_)
    · rw [h551]
      have p552 : ¬ (er538 = 0) := of_bne_t h551
      have hlong : 65536 < bs.length := by rcases hfr with ⟨a, b, c⟩ | ⟨a, b, c⟩; (exfalso; omega); (exact a)
      refine q_seq (by kernel_rfl) ?_
      refine q_region (by kernel_rfl) ?_
      refine Ops.regs 4 [(1, (Value.slice B bs.length bc)), (2, (i64 cut)), (8, (Value.bool false)), (18, (Value.slice A545 fo539.length c546)), (100, (Value.bool (decide (((bs.length : Nat) : Int) > 65536))))] (j := 4) (by kernel_rfl) (by kernel_rfl) ?_
      have h553 : (decide (((bs.length : Nat) : Int) > 65536)) = true := decide_eq_true (by omega)
      rw [h553]
      refine Ops.call (by kernel_rfl) (d := (some 101)) (by kernel_rfl) (known_calls _) ?_
      rintro _ w554 ⟨rfl, K555⟩
      refine ⟨_, _, rfl, rfl, ?_⟩
      have K556 := K548.trans K555 (U := none_) (fun i h1 h2 => h2) (fun i h1 h2 => by exact h2)
      clear K548
      have H557 := H549.keep K555 (fun h => h)
      clear H549
      have F558 := own_keep0 F550 K555
      clear F550
      have F559 := own_keep0 O543 K555
      clear O543
      clear K555
      refine Ops.regs 2 [(1, (Value.slice B bs.length bc)), (2, (i64 cut)), (8, (Value.bool true)), (18, (Value.slice A545 fo539.length c546))] (j := 7) (by kernel_rfl) (by kernel_rfl) ?_
      refine Ops.done (by kernel_rfl) ?_
      refine q_ret (by kernel_rfl) ?_
      refine ⟨(Value.bool true), retv_tmp rfl rfl, ?_⟩
      exact ⟨rfl, K556⟩
    · rw [h551]
      have p560 : er538 = 0 := of_bne_f h551
      obtain ⟨hple, hfo⟩ : bs.length ≤ 65536 ∧ fo539 = frameB bs := by rcases hfr with ⟨a, b, c⟩ | ⟨a, b, c⟩; (exact ⟨a, c⟩); (exfalso; omega)
      have hfl := frame_len bs
      rw [← hfo] at hfl
      have hu5 := uv_length_10 (n := bs.length) (by omega)
      refine q_skip (by kernel_rfl) ?_
      refine q_seq (by kernel_rfl) ?_
      refine q_seq (by kernel_rfl) ?_
      refine q_region (by kernel_rfl) ?_
      refine Ops.regs 3 [(1, (Value.slice B bs.length bc)), (2, (i64 cut)), (8, (Value.bool false)), (18, (Value.slice A545 fo539.length c546)), (105, (Value.bool (((fo539.length : Nat) : Int) == 0)))] (j := 3) (by kernel_rfl) (by kernel_rfl) ?_
      refine Ops.done (by kernel_rfl) ?_
      have h561 : (((fo539.length : Nat) : Int) == 0) = false := beq_f (by omega)
      rw [h561]
      refine q_else (o := .tmp 105) (by kernel_rfl) rfl ?_
      refine q_skip (by kernel_rfl) ?_
      refine q_seq (by kernel_rfl) ?_
      refine q_region (by kernel_rfl) ?_
      refine Ops.regs 1 [(1, (Value.slice B bs.length bc)), (2, (i64 cut)), (8, (Value.bool false)), (18, (Value.slice A545 fo539.length c546)), (107, (Value.slice A545 fo539.length c546))] (j := 1) (by kernel_rfl) (by kernel_rfl) ?_
      refine Ops.call (by kernel_rfl) (d := (some 108)) (by kernel_rfl) (Unframe_of _ (Value.slice A545 fo539.length c546) fo539 (OwnB.rd O543) (by omega)) ?_
      rintro _ w563 ⟨v562, rfl, K564, hO565⟩
      have O566 := own_base hO565 K548.size
      clear hO565
      have hun : unframeB fo539 = (bs, 0) := by rw [hfo]; exact unframe_frame hple
      refine ⟨_, _, rfl, rfl, ?_⟩
      have K567 := K548.trans K564 (U := none_) (fun i h1 h2 => h2) (fun i h1 h2 => by exact h2)
      clear K548
      have H568 := H549.keep K564 (fun h => h)
      clear H549
      have F569 := own_keep0 F550 K564
      clear F550
      have F570 := own_keep0 O543 K564
      clear O543
      clear K564
      refine Ops.regs 5 [(1, (Value.slice B bs.length bc)), (2, (i64 cut)), (8, (Value.bool false)), (18, (Value.slice A545 fo539.length c546)), (19, v562), (20, (i64 ((unframeB fo539).2)))] (j := 7) (by kernel_rfl) (by kernel_rfl) ?_
      refine Ops.done (by kernel_rfl) ?_
      refine q_seq (by kernel_rfl) ?_
      refine q_region (by kernel_rfl) ?_
      refine Ops.regs 4 [(1, (Value.slice B bs.length bc)), (8, (Value.bool false)), (19, v562), (20, (i64 ((unframeB fo539).2))), (112, (Value.slice A545 fo539.length c546)), (113, (i64 cut)), (115, (i64 ((fo539.length : Nat) : Int)))] (j := 4) (by kernel_rfl) (by kernel_rfl) ?_
      refine Ops.call (by kernel_rfl) (d := (some 116)) (by kernel_rfl) (Count_nat _ cut fo539.length (by omega)) ?_
      rintro _ _ ⟨k571, rfl, hk572, rfl⟩
      refine ⟨_, _, rfl, rfl, ?_⟩
      have hcut := run_cut (sz := 1) (P := Try.prog) (w := w563) (t := 23) (A := A545) (n := fo539.length) (c := c546) 0 k571 c546 (lo := none) (hi := some (i64 ((k571 : Nat) : Int))) (mx := none) tyB.slice (by kernel_rfl) (.inl ⟨rfl, rfl⟩) (.inr ⟨_, rfl⟩) (.inl ⟨rfl, rfl⟩) (by omega) (by omega) (by omega)
      have hA0 : (if c546 = 0 then A545 else Option.map (fun q => Addr.add q (0 * 1)) A545) = A545 := by cases A545 <;> simp [Addr.add]
      rw [hA0, Nat.sub_zero, Nat.sub_zero] at hcut
      have F573 := RdB.take (OwnB.rd F570) (k := k571) (by omega)
      have htl : ((fo539).take k571).length = k571 := by rw [List.length_take]; omega
      refine Ops.go (v := (Value.slice A545 k571 c546)) (by kernel_rfl) (Runs.slice (by kernel_rfl) hcut) (d := (some 117)) (by kernel_rfl) rfl ?_
      clear hcut hA0
      refine Ops.call (by kernel_rfl) (d := (some 118)) (by kernel_rfl) (Unframe_of _ (Value.slice A545 k571 c546) ((fo539).take k571) F573 (by omega)) ?_
      rintro _ w575 ⟨v574, rfl, K576, hO577⟩
      have O578 := own_base hO577 K567.size
      clear hO577
      have hush : unframeB ((fo539).take k571) = ([], 10) := by rw [hfo]; exact unframe_short hple (by rw [← hfo]; omega)
      refine ⟨_, _, rfl, rfl, ?_⟩
      have K579 := K567.trans K576 (U := none_) (fun i h1 h2 => h2) (fun i h1 h2 => by exact h2)
      clear K567
      have H580 := H568.keep K576 (fun h => h)
      clear H568
      have F581 := own_keep0 F569 K576
      clear F569
      have F582 := own_keep0 F570 K576
      clear F570
      have F583 := own_keep0 O566 K576
      clear O566
      have F584 := (Rd.keep0 (by omega) F573 K576)
      clear F573
      clear K576
      refine Ops.regs 5 [(1, (Value.slice B bs.length bc)), (8, (Value.bool false)), (19, v562), (20, (i64 ((unframeB fo539).2))), (22, (i64 ((unframeB ((fo539).take k571)).2)))] (j := 12) (by kernel_rfl) (by kernel_rfl) ?_
      refine Ops.done (by kernel_rfl) ?_
      refine q_seq (by kernel_rfl) ?_
      refine q_region (by kernel_rfl) ?_
      refine Ops.regs 3 [(1, (Value.slice B bs.length bc)), (8, (Value.bool false)), (19, v562), (22, (i64 ((unframeB ((fo539).take k571)).2))), (123, (Value.bool (((unframeB fo539).2) == 0)))] (j := 3) (by kernel_rfl) (by kernel_rfl) ?_
      have h585 : (((unframeB fo539).2) == 0) = true := beq_t (by rw [hun])
      rw [h585]
      refine Ops.regs 1 [(8, (Value.bool false)), (19, v562), (22, (i64 ((unframeB ((fo539).take k571)).2))), (123, (Value.bool true)), (124, (Value.slice B bs.length bc))] (j := 4) (by kernel_rfl) (by kernel_rfl) ?_
      refine Ops.go (v := (Value.string (str bs))) (by kernel_rfl) (Runs.b2s (s := 23) (d := 9) (e := 5) (by kernel_rfl) (by kernel_rfl) (by kernel_rfl) (hB.keep0 (by omega) K579)) (d := (some 125)) (by kernel_rfl) rfl ?_
      refine Ops.regs 1 [(8, (Value.bool false)), (22, (i64 ((unframeB ((fo539).take k571)).2))), (123, (Value.bool true)), (125, (Value.string (str bs))), (126, v562)] (j := 6) (by kernel_rfl) (by kernel_rfl) ?_
      refine Ops.go (v := (Value.string (str ((unframeB fo539).1)))) (by kernel_rfl) (Runs.b2s (s := 23) (d := 9) (e := 5) (by kernel_rfl) (by kernel_rfl) (by kernel_rfl) (OwnB.rd F583)) (d := (some 127)) (by kernel_rfl) rfl ?_
      refine Ops.go (v := (Value.bool (bs == ((unframeB fo539).1)))) (by kernel_rfl) (Runs.streq (t := 9) (by kernel_rfl)) (d := (some 128)) (by kernel_rfl) rfl ?_
      refine Ops.regs 2 [(8, (Value.bool false)), (22, (i64 ((unframeB ((fo539).take k571)).2))), (130, (Value.bool (bs == ((unframeB fo539).1))))] (j := 10) (by kernel_rfl) (by kernel_rfl) ?_
      have h586 : (bs == ((unframeB fo539).1)) = true := by rw [hun]; simp
      rw [h586]
      refine Ops.regs 4 [(8, (Value.bool false)), (134, (Value.bool (((unframeB ((fo539).take k571)).2) == 10)))] (j := 14) (by kernel_rfl) (by kernel_rfl) ?_
      have h587 : (((unframeB ((fo539).take k571)).2) == 10) = true := beq_t (by rw [hush])
      rw [h587]
      refine Ops.call (by kernel_rfl) (d := (some 135)) (by kernel_rfl) (known_calls _) ?_
      rintro _ w588 ⟨rfl, K589⟩
      refine ⟨_, _, rfl, rfl, ?_⟩
      have K590 := K579.trans K589 (U := none_) (fun i h1 h2 => h2) (fun i h1 h2 => by exact h2)
      clear K579
      have H591 := H580.keep K589 (fun h => h)
      clear H580
      have F592 := own_keep0 F581 K589
      clear F581
      have F593 := own_keep0 F582 K589
      clear F582
      have F594 := own_keep0 F583 K589
      clear F583
      have F595 := (Rd.keep0 (by omega) F584 K589)
      clear F584
      have F596 := own_keep0 O578 K589
      clear O578
      clear K589
      refine Ops.regs 2 [(8, (Value.bool true))] (j := 17) (by kernel_rfl) (by kernel_rfl) ?_
      refine Ops.done (by kernel_rfl) ?_
      refine q_ret (by kernel_rfl) ?_
      refine ⟨(Value.bool true), retv_tmp rfl rfl, ?_⟩
      exact ⟨rfl, K590⟩
end Go.Proofs.Ytnepjfnkaigakaa
