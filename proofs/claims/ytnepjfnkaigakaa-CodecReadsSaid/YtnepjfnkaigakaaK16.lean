/- codec: answers are read -/
import Derived.Test.YtnepjfnkaigakaaProg
import Derived.Test.YtnepjfnkaigakaaLibRows
import Derived.Test.YtnepjfnkaigakaaLibDr2
import Derived.Test.YtnepjfnkaigakaaK15
set_option linter.unusedVariables false
namespace Go.Proofs.Ytnepjfnkaigakaa
open Go.Q Go.RowKit
theorem tyR : ElemTy Try.prog 44 82 2 24 := elemTy (by kernel_rfl)

theorem GetReply_calls (w : World) (b : Nat) (A : Option Addr) (c : Nat) (r : Rdr) (hok : r.Ok) (H0 : Has w b (rowL (rdrL A c r) 88)) (hR : RdO w A c r.bs) (hne : ∀ g o s, A = some ⟨g, o, s⟩ → g ≠ b) : Calls Try.prog 55 ⟨[(Value.pointer (some ⟨b, 0, none⟩))]⟩ w (fun e w' => ∃ A' c', e = .returned (agg [i64 r.reply.1.why, i64 r.reply.1.amount, .slice A' r.reply.1.rows.length c']) ∧ Keeps (fun i => i = b) w w' ∧ OwnR w' w.heap.size 82 (.slice A' r.reply.1.rows.length c') r.reply.1.rows ∧ Has w' b (rowL (rdrL A c r.reply.2) 88)) := by
  have hpos := hok.pos
  have hlen := hok.len
  have hsc := r.scan_le
  have hdl : (r.bs.drop r.pos).length = r.bs.length - r.pos := List.length_drop
  have hcap := hR.1.slice
  have Hb := H0.lt
  have K0 : Keeps (fun i => i = b) w w := (Keeps.refl w).mono (fun _ _ h => h.elim)
  refine q_calls Try.func55 (by kernel_rfl) (by kernel_rfl) ?_
  refine q_seq (by kernel_rfl) ?_
  refine q_region (by kernel_rfl) ?_
  refine Ops.new (o := rowL [(i64 0), (i64 0), (Value.slice none 0 0)] 46) (V := fun b => (Value.pointer (some ⟨b, 0, none⟩))) (by kernel_rfl) (d := (some 2)) (by kernel_rfl) (fun b => rfl) (fun b1 w2 hb3 H4 K5 hs6 => ?_)
  have lb1 : b < b1 := by have := H0.lt; omega
  have nb1 : w.heap.size ≤ b1 := by have := K0.size; omega
  have ob7 : ∀ i o s, A = some ⟨i, o, s⟩ → i ≠ b1 := fun i o s hi => by have := hR.2 i o s hi; omega
  have K8 := K0.trans K5 (U := (fun i => i = b)) (fun i h1 h2 => h2) (fun i h1 h2 => by exact h2.elim)
  clear K0
  have H9 := H0.keep K5 (fun h => h)
  clear H0
  have F10 := RdO.keep0 hR K5
  clear hR
  clear K5 hs6
  refine Ops.done (by kernel_rfl) ?_
  refine q_seq (by kernel_rfl) ?_
  refine q_region (by kernel_rfl) ?_
  refine Ops.regs 1 [(0, (Value.pointer (some ⟨b, 0, none⟩))), (2, (Value.pointer (some ⟨b1, 0, none⟩))), (5, (Value.pointer (some ⟨b, 0, none⟩)))] (j := 1) (by kernel_rfl) (by kernel_rfl) ?_
  refine Ops.call (by kernel_rfl) (d := (some 6)) (by kernel_rfl) (RdInt_calls _ b A c r hok H9 F10 hne ) ?_
  rintro _ w11 ⟨rfl, K12, H13⟩
  have hok14 : (r.int).2.Ok := Rdr.Ok.int hok
  have hu15 := Rdr.int_range r
  refine ⟨_, _, rfl, rfl, ?_⟩
  have K16 := K8.trans K12 (U := (fun i => i = b)) (fun i h1 h2 => h2) (fun i h1 h2 => by have h2 : i = b := h2; show i = b; omega)
  clear K8
  have H17 := H4.keep K12 (by intro h; change b1 = b at h; omega)
  clear H4
  have F18 := RdO.keep F10 K12 (fun i _ _ hi hs => by have hs : i = b := hs; have := hne i _ _ hi; omega)
  clear F10
  clear K12
  have F19 : RdO w11 A c (r.int).2.bs := by rw [Rdr.int_bs]; exact F18
  clear F18
  refine Ops.regs 1 [(0, (Value.pointer (some ⟨b, 0, none⟩))), (2, (Value.pointer (some ⟨b1, 0, none⟩))), (6, (i64 ((r.int).1))), (7, (Value.pointer (some ⟨b, 0, none⟩)))] (j := 3) (by kernel_rfl) (by kernel_rfl) ?_
  refine Ops.call (by kernel_rfl) (d := (some 8)) (by kernel_rfl) (RdInt_calls _ b A c ((r.int).2) hok14 H13 F19 hne ) ?_
  rintro _ w20 ⟨rfl, K21, H22⟩
  have hok23 : (((r.int).2).int).2.Ok := Rdr.Ok.int hok14
  have hu24 := Rdr.int_range ((r.int).2)
  refine ⟨_, _, rfl, rfl, ?_⟩
  have K25 := K16.trans K21 (U := (fun i => i = b)) (fun i h1 h2 => h2) (fun i h1 h2 => by have h2 : i = b := h2; show i = b; omega)
  clear K16
  have H26 := H17.keep K21 (by intro h; change b1 = b at h; omega)
  clear H17
  have F27 := RdO.keep F19 K21 (fun i _ _ hi hs => by have hs : i = b := hs; have := hne i _ _ hi; omega)
  clear F19
  clear K21
  have F28 : RdO w20 A c (((r.int).2).int).2.bs := by rw [Rdr.int_bs]; exact F27
  clear F27
  refine Ops.regs 1 [(0, (Value.pointer (some ⟨b, 0, none⟩))), (2, (Value.pointer (some ⟨b1, 0, none⟩))), (9, (agg [(i64 ((r.int).1)), (i64 ((((r.int).2).int).1)), (Value.slice none 0 0)]))] (j := 5) (by kernel_rfl) (by kernel_rfl) ?_
  refine Ops.new (o := rowL [(i64 0), (i64 0), (Value.slice none 0 0)] 46) (V := fun b => (Value.pointer (some ⟨b, 0, none⟩))) (by kernel_rfl) (d := (some 3)) (by kernel_rfl) (fun b => rfl) (fun b29 w30 hb31 H32 K33 hs34 => ?_)
  have lb29 : b1 < b29 := by have := H26.lt; omega
  have nb29 : w.heap.size ≤ b29 := by have := K25.size; omega
  have ob35 : ∀ i o s, A = some ⟨i, o, s⟩ → i ≠ b29 := fun i o s hi => by have := F28.2 i o s hi; omega
  have K36 := K25.trans K33 (U := (fun i => i = b)) (fun i h1 h2 => h2) (fun i h1 h2 => by exact h2.elim)
  clear K25
  have H37 := H22.keep K33 (fun h => h)
  clear H22
  have H38 := H26.keep K33 (fun h => h)
  clear H26
  have F39 := RdO.keep0 F28 K33
  clear F28
  clear K33 hs34
  refine Ops.put (t := 46) (b := b29) (off := 0) (v := (agg [(i64 ((r.int).1)), (i64 ((((r.int).2).int).1)), (Value.slice none 0 0)])) (ys := [(i64 ((r.int).1)), (i64 ((((r.int).2).int).1)), (Value.slice none 0 0)]) (by kernel_rfl) (by kernel_rfl) H32 (by kernel_rfl) (d := none) (by kernel_rfl) rfl (fun w40 H41 K42 => ?_)
  clear H32
  have K43 := K36.trans K42 (U := (fun i => i = b)) (fun i h1 h2 => h2) (fun i h1 h2 => by have h2 : i = b29 := h2; show i = b; omega)
  clear K36
  have H44 := H37.keep K42 (by intro h; change b = b29 at h; omega)
  clear H37
  have H45 := H38.keep K42 (by intro h; change b1 = b29 at h; omega)
  clear H38
  have F46 := RdO.keep F39 K42 (fun i _ _ hi hs => by have hs : i = b29 := hs; have := ob35 i _ _ hi; omega)
  clear F39
  clear K42
  refine Ops.done (by kernel_rfl) ?_
  refine q_seq (by kernel_rfl) ?_
  refine q_seq (by kernel_rfl) ?_
  refine q_region (by kernel_rfl) ?_
  refine Ops.regs 1 [(0, (Value.pointer (some ⟨b, 0, none⟩))), (2, (Value.pointer (some ⟨b1, 0, none⟩))), (3, (Value.pointer (some ⟨b29, 0, none⟩))), (10, (Value.pointer (some ⟨b, 0, none⟩)))] (j := 1) (by kernel_rfl) (by kernel_rfl) ?_
  refine Ops.call (by kernel_rfl) (d := (some 11)) (by kernel_rfl) (Count_calls _ b A c ((((r.int).2).int).2) hok23 H44 F46 hne 600 (by omega)) ?_
  rintro _ w47 ⟨rfl, K48, H49⟩
  have hok50 : (((((r.int).2).int).2).sized 600).2.Ok := Rdr.Ok.sized hok23 600
  have hu51 := Rdr.sized_le hok23 600
  have hu52 := Rdr.sized_lt ((((r.int).2).int).2) 600
  refine ⟨_, _, rfl, rfl, ?_⟩
  have K53 := K43.trans K48 (U := (fun i => i = b)) (fun i h1 h2 => h2) (fun i h1 h2 => by have h2 : i = b := h2; show i = b; omega)
  clear K43
  have H54 := H45.keep K48 (by intro h; change b1 = b at h; omega)
  clear H45
  have H55 := H41.keep K48 (by intro h; change b29 = b at h; omega)
  clear H41
  have F56 := RdO.keep F46 K48 (fun i _ _ hi hs => by have hs : i = b := hs; have := hne i _ _ hi; omega)
  clear F46
  clear K48
  have F57 : RdO w47 A c (((((r.int).2).int).2).sized 600).2.bs := by rw [Rdr.sized_bs]; exact F56
  clear F56
  refine Ops.regs 1 [(0, (Value.pointer (some ⟨b, 0, none⟩))), (2, (Value.pointer (some ⟨b1, 0, none⟩))), (3, (Value.pointer (some ⟨b29, 0, none⟩))), (11, (i64 (((((((r.int).2).int).2).sized 600).1 : Nat) : Int))), (12, (i64 0))] (j := 3) (by kernel_rfl) (by kernel_rfl) ?_
  refine Ops.done (by kernel_rfl) ?_
  refine q_block (id := 0) (by kernel_rfl) ?_
  refine q_keep (R := [(0, (Value.pointer (some ⟨b, 0, none⟩))), (2, (Value.pointer (some ⟨b1, 0, none⟩))), (3, (Value.pointer (some ⟨b29, 0, none⟩))), (11, (i64 (((((((r.int).2).int).2).sized 600).1 : Nat) : Int))), (12, (i64 0))]) (by kernel_rfl) ?_
  refine q_loop (fun (gs : (Option Addr) × Nat × Nat × (List RowM) × Rdr) L (wx : World) => match gs with | (VA, vc, i, l, R) => L = [(0, (Value.pointer (some ⟨b, 0, none⟩))), (2, (Value.pointer (some ⟨b1, 0, none⟩))), (3, (Value.pointer (some ⟨b29, 0, none⟩))), (11, (i64 (((((((r.int).2).int).2).sized 600).1 : Nat) : Int))), (12, (i64 ((i : Nat) : Int)))] ∧ RdO wx A c R.bs ∧ OwnR wx w.heap.size 82 (Value.slice VA l.length vc) l ∧ (∀ i, ((Value.slice VA l.length vc)).ownBlock = some i → i ≠ b) ∧ (∀ i, ((Value.slice VA l.length vc)).ownBlock = some i → i ≠ b1) ∧ (∀ i, ((Value.slice VA l.length vc)).ownBlock = some i → i ≠ b29) ∧ (∀ i o s, A = some ⟨i, o, s⟩ → ((Value.slice VA l.length vc)).ownBlock = some i → False) ∧ R.Ok ∧ l ++ (Rdr.rows (r.rhead.1 - i) R).1 = (Rdr.rows r.rhead.1 r.rhead.2).1 ∧ (Rdr.rows (r.rhead.1 - i) R).2 = (Rdr.rows r.rhead.1 r.rhead.2).2 ∧ i ≤ r.rhead.1 ∧ l.length = i ∧ Keeps (fun i => i = b) w wx ∧ Has wx b (rowL (rdrL A c R) 88) ∧ Has wx b1 (rowL [(i64 0), (i64 0), (Value.slice none 0 0)] 46) ∧ Has wx b29 (rowL [(i64 ((r.int).1)), (i64 ((((r.int).2).int).1)), (Value.slice VA l.length vc)] 46)) (fun (gs : (Option Addr) × Nat × Nat × (List RowM) × Rdr) => match gs with | (VA, vc, i, l, R) => r.rhead.1 - i) (none, 0, 0, [], (((((r.int).2).int).2).sized 600).2) (by kernel_rfl) ⟨rfl, F57, (OwnT.nil _ _ _ _ _), (fun i hi => by cases hi), (fun i hi => by cases hi), (fun i hi => by cases hi), (fun _ _ _ _ h => by cases h), hok50, rfl, rfl, Nat.zero_le _, rfl, K53, H49, H54, H55⟩ ?_
  clear H49 H54 H55 F57 K53
  rintro ⟨VA, vc, i, l, R⟩ _ w58 ⟨rfl, hRdA, hOV, obVb, obVb1, obVb29, ooVA, hokR, hE, hF, hi, hli, K59, H60, H61, H62⟩
  have hN : r.rhead.1 = (((((r.int).2).int).2).sized 600).1 := rfl
  have hle := r.rhead_le
  refine q_seq (by kernel_rfl) ?_
  refine q_region (by kernel_rfl) ?_
  refine Ops.regs 1 [(0, (Value.pointer (some ⟨b, 0, none⟩))), (2, (Value.pointer (some ⟨b1, 0, none⟩))), (3, (Value.pointer (some ⟨b29, 0, none⟩))), (11, (i64 (((((((r.int).2).int).2).sized 600).1 : Nat) : Int))), (12, (i64 ((i : Nat) : Int))), (13, (Value.bool (decide (((i : Nat) : Int) < (((((((r.int).2).int).2).sized 600).1 : Nat) : Int)))))] (j := 1) (by kernel_rfl) (by kernel_rfl) ?_
  refine Ops.done (by kernel_rfl) ?_
  refine q_seq (by kernel_rfl) ?_
  refine q_cond (o := .tmp 13) (b := (decide (((i : Nat) : Int) < (((((((r.int).2).int).2).sized 600).1 : Nat) : Int)))) (by kernel_rfl) rfl (fun h63 => ?_) (fun h63 => ?_)
  · rw [h63]
    have p64 : ((i : Nat) : Int) < (((((((r.int).2).int).2).sized 600).1 : Nat) : Int) := of_decide_eq_true h63
    refine q_skip (by kernel_rfl) ?_
    refine q_seq (by kernel_rfl) ?_
    refine q_block (id := 1) (by kernel_rfl) ?_
    refine q_seq (by kernel_rfl) ?_
    refine q_region (by kernel_rfl) ?_
    refine Ops.regs 1 [(0, (Value.pointer (some ⟨b, 0, none⟩))), (2, (Value.pointer (some ⟨b1, 0, none⟩))), (3, (Value.pointer (some ⟨b29, 0, none⟩))), (11, (i64 (((((((r.int).2).int).2).sized 600).1 : Nat) : Int))), (12, (i64 ((i : Nat) : Int))), (13, (Value.bool true)), (14, (Value.pointer (some ⟨b, 0, none⟩)))] (j := 1) (by kernel_rfl) (by kernel_rfl) ?_
    refine Ops.call (by kernel_rfl) (d := (some 15)) (by kernel_rfl) (RdText_calls _ b A c R hokR H60 hRdA hne ) ?_
    rintro _ w65 ⟨rfl, K66, H67⟩
    have hok68 : (R.bytes).2.Ok := Rdr.Ok.bytes hokR
    have hu69 := Rdr.bytes_le hokR
    refine ⟨_, _, rfl, rfl, ?_⟩
    have K70 := K59.trans K66 (U := (fun i => i = b)) (fun i h1 h2 => h2) (fun i h1 h2 => by have h2 : i = b := h2; show i = b; omega)
    clear K59
    have H71 := H61.keep K66 (by intro h; change b1 = b at h; omega)
    clear H61
    have H72 := H62.keep K66 (by intro h; change b29 = b at h; omega)
    clear H62
    have F73 := RdO.keep hRdA K66 (fun i _ _ hi hs => by have hs : i = b := hs; have := hne i _ _ hi; omega)
    clear hRdA
    have F74 := own_keep hOV K66 (fun i hi hs => by have hs : i = b := hs; have := obVb i hi; omega)
    clear hOV
    clear K66
    have F75 : RdO w65 A c (R.bytes).2.bs := by rw [Rdr.bytes_bs]; exact F73
    clear F73
    refine Ops.regs 1 [(0, (Value.pointer (some ⟨b, 0, none⟩))), (2, (Value.pointer (some ⟨b1, 0, none⟩))), (3, (Value.pointer (some ⟨b29, 0, none⟩))), (11, (i64 (((((((r.int).2).int).2).sized 600).1 : Nat) : Int))), (12, (i64 ((i : Nat) : Int))), (13, (Value.bool true)), (16, (agg [(Value.string (str (R.bytes).1)), (i64 0)]))] (j := 3) (by kernel_rfl) (by kernel_rfl) ?_
    refine Ops.new (o := rowL [(Value.string ByteArray.empty), (i64 0)] 82) (V := fun b => (Value.pointer (some ⟨b, 0, none⟩))) (by kernel_rfl) (d := (some 4)) (by kernel_rfl) (fun b => rfl) (fun b76 w77 hb78 H79 K80 hs81 => ?_)
    have lb76 : b29 < b76 := by have := H72.lt; omega
    have nb76 : w.heap.size ≤ b76 := by have := K70.size; omega
    have ob82 : ∀ i o s, A = some ⟨i, o, s⟩ → i ≠ b76 := fun i o s hi => by have := F75.2 i o s hi; omega
    have ob83 : ∀ i, ((Value.slice VA l.length vc)).ownBlock = some i → i < b76 := fun i hi => by have := (World.ownsRow.lt F74 i hi).2; omega
    have K84 := K70.trans K80 (U := (fun i => i = b)) (fun i h1 h2 => h2) (fun i h1 h2 => by exact h2.elim)
    clear K70
    have H85 := H67.keep K80 (fun h => h)
    clear H67
    have H86 := H71.keep K80 (fun h => h)
    clear H71
    have H87 := H72.keep K80 (fun h => h)
    clear H72
    have F88 := RdO.keep0 F75 K80
    clear F75
    have F89 := own_keep0 F74 K80
    clear F74
    clear K80 hs81
    refine Ops.put (t := 82) (b := b76) (off := 0) (v := (agg [(Value.string (str (R.bytes).1)), (i64 0)])) (ys := [(Value.string (str (R.bytes).1)), (i64 0)]) (by kernel_rfl) (by kernel_rfl) H79 (by kernel_rfl) (d := none) (by kernel_rfl) rfl (fun w90 H91 K92 => ?_)
    clear H79
    have K93 := K84.trans K92 (U := (fun i => i = b)) (fun i h1 h2 => h2) (fun i h1 h2 => by have h2 : i = b76 := h2; show i = b; omega)
    clear K84
    have H94 := H85.keep K92 (by intro h; change b = b76 at h; omega)
    clear H85
    have H95 := H86.keep K92 (by intro h; change b1 = b76 at h; omega)
    clear H86
    have H96 := H87.keep K92 (by intro h; change b29 = b76 at h; omega)
    clear H87
    have F97 := RdO.keep F88 K92 (fun i _ _ hi hs => by have hs : i = b76 := hs; have := ob82 i _ _ hi; omega)
    clear F88
    have F98 := own_keep F89 K92 (fun i hi hs => by have hs : i = b76 := hs; have := ob83 i hi; omega)
    clear F89
    clear K92
    refine Ops.done (by kernel_rfl) ?_
    refine q_seq (by kernel_rfl) ?_
    refine q_region (by kernel_rfl) ?_
    refine Ops.regs 1 [(0, (Value.pointer (some ⟨b, 0, none⟩))), (2, (Value.pointer (some ⟨b1, 0, none⟩))), (3, (Value.pointer (some ⟨b29, 0, none⟩))), (4, (Value.pointer (some ⟨b76, 0, none⟩))), (11, (i64 (((((((r.int).2).int).2).sized 600).1 : Nat) : Int))), (12, (i64 ((i : Nat) : Int))), (13, (Value.bool true)), (17, (Value.pointer (some ⟨b, 0, none⟩)))] (j := 1) (by kernel_rfl) (by kernel_rfl) ?_
    refine Ops.call (by kernel_rfl) (d := (some 18)) (by kernel_rfl) (RdInt_calls _ b A c ((R.bytes).2) hok68 H94 F97 hne ) ?_
    rintro _ w99 ⟨rfl, K100, H101⟩
    have hok102 : (((R.bytes).2).int).2.Ok := Rdr.Ok.int hok68
    have hu103 := Rdr.int_range ((R.bytes).2)
    refine ⟨_, _, rfl, rfl, ?_⟩
    have K104 := K93.trans K100 (U := (fun i => i = b)) (fun i h1 h2 => h2) (fun i h1 h2 => by have h2 : i = b := h2; show i = b; omega)
    clear K93
    have H105 := H95.keep K100 (by intro h; change b1 = b at h; omega)
    clear H95
    have H106 := H96.keep K100 (by intro h; change b29 = b at h; omega)
    clear H96
    have H107 := H91.keep K100 (by intro h; change b76 = b at h; omega)
    clear H91
    have F108 := RdO.keep F97 K100 (fun i _ _ hi hs => by have hs : i = b := hs; have := hne i _ _ hi; omega)
    clear F97
    have F109 := own_keep F98 K100 (fun i hi hs => by have hs : i = b := hs; have := obVb i hi; omega)
    clear F98
    clear K100
    have F110 : RdO w99 A c (((R.bytes).2).int).2.bs := by rw [Rdr.int_bs]; exact F108
    clear F108
    refine Ops.regs 1 [(0, (Value.pointer (some ⟨b, 0, none⟩))), (2, (Value.pointer (some ⟨b1, 0, none⟩))), (3, (Value.pointer (some ⟨b29, 0, none⟩))), (4, (Value.pointer (some ⟨b76, 0, none⟩))), (11, (i64 (((((((r.int).2).int).2).sized 600).1 : Nat) : Int))), (12, (i64 ((i : Nat) : Int))), (13, (Value.bool true)), (18, (i64 ((((R.bytes).2).int).1))), (19, (Value.pointer (some ⟨b76, 1, none⟩)))] (j := 3) (by kernel_rfl) (by kernel_rfl) ?_
    refine Ops.put (t := 2) (b := b76) (off := 1) (v := (i64 ((((R.bytes).2).int).1))) (ys := [(Value.string (str (R.bytes).1)), (i64 ((((R.bytes).2).int).1))]) (by kernel_rfl) (by kernel_rfl) H107 (by kernel_rfl) (d := none) (by kernel_rfl) rfl (fun w111 H112 K113 => ?_)
    clear H107
    have K114 := K104.trans K113 (U := (fun i => i = b)) (fun i h1 h2 => h2) (fun i h1 h2 => by have h2 : i = b76 := h2; show i = b; omega)
    clear K104
    have H115 := H101.keep K113 (by intro h; change b = b76 at h; omega)
    clear H101
    have H116 := H105.keep K113 (by intro h; change b1 = b76 at h; omega)
    clear H105
    have H117 := H106.keep K113 (by intro h; change b29 = b76 at h; omega)
    clear H106
    have F118 := RdO.keep F110 K113 (fun i _ _ hi hs => by have hs : i = b76 := hs; have := ob82 i _ _ hi; omega)
    clear F110
    have F119 := own_keep F109 K113 (fun i hi hs => by have hs : i = b76 := hs; have := ob83 i hi; omega)
    clear F109
    clear K113
    refine Ops.done (by kernel_rfl) ?_
    refine q_region (by kernel_rfl) ?_
    refine Ops.regs 1 [(0, (Value.pointer (some ⟨b, 0, none⟩))), (2, (Value.pointer (some ⟨b1, 0, none⟩))), (3, (Value.pointer (some ⟨b29, 0, none⟩))), (4, (Value.pointer (some ⟨b76, 0, none⟩))), (11, (i64 (((((((r.int).2).int).2).sized 600).1 : Nat) : Int))), (12, (i64 ((i : Nat) : Int))), (13, (Value.bool true)), (20, (Value.pointer (some ⟨b29, 2, none⟩)))] (j := 1) (by kernel_rfl) (by kernel_rfl) ?_
    refine Ops.go (v := (Value.slice VA l.length vc)) (by kernel_rfl) (Runs.load (t := 44) (a := ⟨b29, 2, none⟩) (by kernel_rfl) (H117.loads (by kernel_rfl))) (d := (some 21)) (by kernel_rfl) rfl ?_
    refine Ops.go (v := (agg [(Value.string (str (R.bytes).1)), (i64 ((((R.bytes).2).int).1))])) (by kernel_rfl) (Runs.load (t := 82) (a := ⟨b76, 0, none⟩) (by kernel_rfl) (H112.loads (by kernel_rfl))) (d := (some 22)) (by kernel_rfl) rfl ?_
    refine Ops.new (o := rowL [(Value.string (str (R.bytes).1)), (i64 ((((R.bytes).2).int).1))] 82) (V := fun b => (Value.slice (some ⟨b, 0, none⟩) 1 1)) (by kernel_rfl) (d := (some 23)) (by kernel_rfl) (fun b => rfl) (fun b120 w121 hb122 H123 K124 hs125 => ?_)
    have lb120 : b76 < b120 := by have := H112.lt; omega
    have nb120 : w.heap.size ≤ b120 := by have := K114.size; omega
    have ob126 : ∀ i o s, A = some ⟨i, o, s⟩ → i ≠ b120 := fun i o s hi => by have := F118.2 i o s hi; omega
    have ob127 : ∀ i, ((Value.slice VA l.length vc)).ownBlock = some i → i < b120 := fun i hi => by have := (World.ownsRow.lt F119 i hi).2; omega
    have K128 := K114.trans K124 (U := (fun i => i = b)) (fun i h1 h2 => h2) (fun i h1 h2 => by exact h2.elim)
    clear K114
    have H129 := H115.keep K124 (fun h => h)
    clear H115
    have H130 := H116.keep K124 (fun h => h)
    clear H116
    have H131 := H117.keep K124 (fun h => h)
    clear H117
    have H132 := H112.keep K124 (fun h => h)
    clear H112
    have F133 := RdO.keep0 F118 K124
    clear F118
    have F134 := own_keep0 F119 K124
    clear F119
    clear K124 hs125
    obtain ⟨v135, w136, hr137, hO138, hK139, hg140⟩ := OwnT.app (ty := 44) RowM.two RowM.one tyR F134 (show RdT _ 2 RowM.cells _ [(⟨(R.bytes).1, (((R.bytes).2).int).1⟩ : RowM)] from Rd.lit H123 (n := 1) rfl (by decide)) (by simp only [List.length_cons, List.length_nil]; omega) (by simp only [List.length_cons, List.length_nil]; omega) K128.size
    obtain ⟨A142, c143, rfl⟩ := RdT.form RowM.two (by decide) (OwnT.rd hO138)
    have ob144 : ∀ i, ((Value.slice A142 ((l ++ [(⟨(R.bytes).1, (((R.bytes).2).int).1⟩ : RowM)]).length) c143)).ownBlock = some i → i ≠ b := fun i hi => by rcases hg140 i hi with h | h; (have := obVb i h; omega); (have := H129.lt; omega)
    have ob145 : ∀ i, ((Value.slice A142 ((l ++ [(⟨(R.bytes).1, (((R.bytes).2).int).1⟩ : RowM)]).length) c143)).ownBlock = some i → i ≠ b1 := fun i hi => by rcases hg140 i hi with h | h; (have := obVb1 i h; omega); (have := H130.lt; omega)
    have ob146 : ∀ i, ((Value.slice A142 ((l ++ [(⟨(R.bytes).1, (((R.bytes).2).int).1⟩ : RowM)]).length) c143)).ownBlock = some i → i ≠ b29 := fun i hi => by rcases hg140 i hi with h | h; (have := obVb29 i h; omega); (have := H131.lt; omega)
    have ob147 : ∀ i, ((Value.slice A142 ((l ++ [(⟨(R.bytes).1, (((R.bytes).2).int).1⟩ : RowM)]).length) c143)).ownBlock = some i → i ≠ b76 := fun i hi => by rcases hg140 i hi with h | h; (have := ob83 i h; omega); (have := H132.lt; omega)
    have ob148 : ∀ i, ((Value.slice A142 ((l ++ [(⟨(R.bytes).1, (((R.bytes).2).int).1⟩ : RowM)]).length) c143)).ownBlock = some i → i ≠ b120 := fun i hi => by rcases hg140 i hi with h | h; (have := ob127 i h; omega); (have := H123.lt; omega)
    have oo149 : ∀ i o s, A = some ⟨i, o, s⟩ → ((Value.slice A142 ((l ++ [(⟨(R.bytes).1, (((R.bytes).2).int).1⟩ : RowM)]).length) c143)).ownBlock = some i → False := fun i o s hi hs => by rcases hg140 i hs with h | h; (exact ooVA i o s hi h); (have := F133.2 i o s hi; omega)
    have K141 := hK139
    refine Ops.go (v := (Value.slice A142 ((l ++ [(⟨(R.bytes).1, (((R.bytes).2).int).1⟩ : RowM)]).length) c143)) (by kernel_rfl) (Runs.append (ts := #[44, 44]) (ty := 44) (vs := [(Value.slice VA l.length vc), (Value.slice (some ⟨b120, 0, none⟩) 1 1)]) (by kernel_rfl) hr137) (d := (some 24)) (by kernel_rfl) rfl ?_
    have K150 := K128.trans K141 (U := (fun i => i = b)) (fun i h1 h2 => h2) (fun i h1 h2 => by have h2 : ((Value.slice VA l.length vc)).ownBlock = some i := h2; exfalso; have := (World.ownsRow.lt F134 i h2).1; omega)
    clear K128
    have H151 := H129.keep K141 (by intro h; change ((Value.slice VA l.length vc)).ownBlock = some b at h; have := obVb b h; omega)
    clear H129
    have H152 := H130.keep K141 (by intro h; change ((Value.slice VA l.length vc)).ownBlock = some b1 at h; have := obVb1 b1 h; omega)
    clear H130
    have H153 := H131.keep K141 (by intro h; change ((Value.slice VA l.length vc)).ownBlock = some b29 at h; have := obVb29 b29 h; omega)
    clear H131
    have H154 := H132.keep K141 (by intro h; change ((Value.slice VA l.length vc)).ownBlock = some b76 at h; have := ob83 b76 h; omega)
    clear H132
    have H155 := H123.keep K141 (by intro h; change ((Value.slice VA l.length vc)).ownBlock = some b120 at h; have := ob127 b120 h; omega)
    clear H123
    have F156 := RdO.keep F133 K141 (fun i _ _ hi hs => by have hs : ((Value.slice VA l.length vc)).ownBlock = some i := hs; exact ooVA i _ _ hi hs)
    clear F133
    clear F134
    clear K141 hr137 hK139 hg140
    refine Ops.regs 1 [(0, (Value.pointer (some ⟨b, 0, none⟩))), (2, (Value.pointer (some ⟨b1, 0, none⟩))), (3, (Value.pointer (some ⟨b29, 0, none⟩))), (4, (Value.pointer (some ⟨b76, 0, none⟩))), (11, (i64 (((((((r.int).2).int).2).sized 600).1 : Nat) : Int))), (12, (i64 ((i : Nat) : Int))), (13, (Value.bool true)), (24, (Value.slice A142 ((l ++ [(⟨(R.bytes).1, (((R.bytes).2).int).1⟩ : RowM)]).length) c143)), (25, (Value.pointer (some ⟨b29, 2, none⟩)))] (j := 6) (by kernel_rfl) (by kernel_rfl) ?_
    refine Ops.put (t := 44) (b := b29) (off := 2) (v := (Value.slice A142 ((l ++ [(⟨(R.bytes).1, (((R.bytes).2).int).1⟩ : RowM)]).length) c143)) (ys := [(i64 ((r.int).1)), (i64 ((((r.int).2).int).1)), (Value.slice A142 ((l ++ [(⟨(R.bytes).1, (((R.bytes).2).int).1⟩ : RowM)]).length) c143)]) (by kernel_rfl) (by kernel_rfl) H153 (by kernel_rfl) (d := none) (by kernel_rfl) rfl (fun w157 H158 K159 => ?_)
    clear H153
    have K160 := K150.trans K159 (U := (fun i => i = b)) (fun i h1 h2 => h2) (fun i h1 h2 => by have h2 : i = b29 := h2; show i = b; omega)
    clear K150
    have H161 := H151.keep K159 (by intro h; change b = b29 at h; omega)
    clear H151
    have H162 := H152.keep K159 (by intro h; change b1 = b29 at h; omega)
    clear H152
    have H163 := H154.keep K159 (by intro h; change b76 = b29 at h; omega)
    clear H154
    have H164 := H155.keep K159 (by intro h; change b120 = b29 at h; omega)
    clear H155
    have F165 := RdO.keep F156 K159 (fun i _ _ hi hs => by have hs : i = b29 := hs; have := ob35 i _ _ hi; omega)
    clear F156
    have F166 := own_keep hO138 K159 (fun i hi hs => by have hs : i = b29 := hs; have := ob146 i hi; omega)
    clear hO138
    clear K159
    refine Ops.done (by kernel_rfl) ?_
    refine q_region (by kernel_rfl) ?_
    refine Ops.regs 1 [(0, (Value.pointer (some ⟨b, 0, none⟩))), (2, (Value.pointer (some ⟨b1, 0, none⟩))), (3, (Value.pointer (some ⟨b29, 0, none⟩))), (4, (Value.pointer (some ⟨b76, 0, none⟩))), (11, (i64 (((((((r.int).2).int).2).sized 600).1 : Nat) : Int))), (12, (i64 ((i : Nat) : Int))), (13, (Value.bool true)), (26, (i64 (IntKind.i64.wrap (((i : Nat) : Int) + 1))))] (j := 1) (by kernel_rfl) (by kernel_rfl) ?_
    have e167 : IntKind.i64.wrap (((i : Nat) : Int) + 1) = ((i + 1 : Nat) : Int) := by rw [wrap_i64 (by omega) (by omega)]; omega
    rw [e167]
    clear e167
    refine Ops.regs 1 [(0, (Value.pointer (some ⟨b, 0, none⟩))), (2, (Value.pointer (some ⟨b1, 0, none⟩))), (3, (Value.pointer (some ⟨b29, 0, none⟩))), (4, (Value.pointer (some ⟨b76, 0, none⟩))), (11, (i64 (((((((r.int).2).int).2).sized 600).1 : Nat) : Int))), (12, (i64 ((i + 1 : Nat) : Int))), (13, (Value.bool true))] (j := 2) (by kernel_rfl) (by kernel_rfl) ?_
    refine Ops.keep (R := [(0, (Value.pointer (some ⟨b, 0, none⟩))), (2, (Value.pointer (some ⟨b1, 0, none⟩))), (3, (Value.pointer (some ⟨b29, 0, none⟩))), (11, (i64 (((((((r.int).2).int).2).sized 600).1 : Nat) : Int))), (12, (i64 ((i + 1 : Nat) : Int)))]) (by kernel_rfl) ?_
    refine Ops.done (by kernel_rfl) ?_
    exact ⟨(A142, c143, i + 1, l ++ [(⟨(R.bytes).1, (((R.bytes).2).int).1⟩ : RowM)], (((R.bytes).2).int).2), ⟨rfl, F165, F166, ob144, ob145, ob146, oo149, hok102, (Rdr.rows_next hE hF (by omega)).1, (Rdr.rows_next hE hF (by omega)).2, (by omega), (by simp [hli]), K160, H161, H162, H158⟩, (show r.rhead.1 - (i + 1) < r.rhead.1 - i from by omega)⟩
  · rw [h63]
    have p168 : ¬ (((i : Nat) : Int) < (((((((r.int).2).int).2).sized 600).1 : Nat) : Int)) := of_decide_eq_false h63
    refine q_exit (id := 0) (by kernel_rfl) ?_
    refine q_seq (by kernel_rfl) ?_
    refine q_region (by kernel_rfl) ?_
    refine Ops.go (v := (agg [(i64 ((r.int).1)), (i64 ((((r.int).2).int).1)), (Value.slice VA l.length vc)])) (by kernel_rfl) (Runs.load (t := 46) (a := ⟨b29, 0, none⟩) (by kernel_rfl) (H62.loads (by kernel_rfl))) (d := (some 27)) (by kernel_rfl) rfl ?_
    refine Ops.put (t := 46) (b := b1) (off := 0) (v := (agg [(i64 ((r.int).1)), (i64 ((((r.int).2).int).1)), (Value.slice VA l.length vc)])) (ys := [(i64 ((r.int).1)), (i64 ((((r.int).2).int).1)), (Value.slice VA l.length vc)]) (by kernel_rfl) (by kernel_rfl) H61 (by kernel_rfl) (d := none) (by kernel_rfl) rfl (fun w169 H170 K171 => ?_)
    clear H61
    have K172 := K59.trans K171 (U := (fun i => i = b)) (fun i h1 h2 => h2) (fun i h1 h2 => by have h2 : i = b1 := h2; show i = b; omega)
    clear K59
    have H173 := H60.keep K171 (by intro h; change b = b1 at h; omega)
    clear H60
    have H174 := H62.keep K171 (by intro h; change b29 = b1 at h; omega)
    clear H62
    have F175 := RdO.keep hRdA K171 (fun i _ _ hi hs => by have hs : i = b1 := hs; have := ob7 i _ _ hi; omega)
    clear hRdA
    have F176 := own_keep hOV K171 (fun i hi hs => by have hs : i = b1 := hs; have := obVb1 i hi; omega)
    clear hOV
    clear K171
    refine Ops.done (by kernel_rfl) ?_
    refine q_ret (by kernel_rfl) ?_
    refine ⟨(agg [(i64 ((r.int).1)), (i64 ((((r.int).2).int).1)), (Value.slice VA l.length vc)]), retv_cell rfl rfl (H170.loads (by kernel_rfl)), ?_⟩
    have hd := Rdr.rows_done hE hF (by omega)
    have e : r.reply = (⟨r.int.1, r.int.2.int.1, l⟩, R) := by show ((⟨r.int.1, r.int.2.int.1, (Rdr.rows r.rhead.1 r.rhead.2).1⟩ : ReplyM), (Rdr.rows r.rhead.1 r.rhead.2).2) = _; rw [hd.1, hd.2]
    exact ⟨_, _, by rw [e], K172, by rw [e]; exact F176, by rw [e]; exact H173⟩

theorem RGetReply_calls (w : World) (b : Nat) (A : Option Addr) (c : Nat) (r : Rdr) (hok : r.Ok) (H0 : Has w b (rowL (rdrL A c r) 72)) (hR : RdO w A c r.bs) (hne : ∀ g o s, A = some ⟨g, o, s⟩ → g ≠ b) : Calls Try.prog 75 ⟨[(Value.pointer (some ⟨b, 0, none⟩))]⟩ w (fun e w' => ∃ A' c', e = .returned (agg [i64 r.reply.1.why, i64 r.reply.1.amount, .slice A' r.reply.1.rows.length c']) ∧ Keeps (fun i => i = b) w w' ∧ OwnR w' w.heap.size 82 (.slice A' r.reply.1.rows.length c') r.reply.1.rows ∧ Has w' b (rowL (rdrL A c r.reply.2) 72)) := by
  have hpos := hok.pos
  have hlen := hok.len
  have hsc := r.scan_le
  have hdl : (r.bs.drop r.pos).length = r.bs.length - r.pos := List.length_drop
  have hcap := hR.1.slice
  have Hb := H0.lt
  have K0 : Keeps (fun i => i = b) w w := (Keeps.refl w).mono (fun _ _ h => h.elim)
  refine q_calls Try.func75 (by kernel_rfl) (by kernel_rfl) ?_
  refine q_seq (by kernel_rfl) ?_
  refine q_region (by kernel_rfl) ?_
  refine Ops.new (o := rowL [(i64 0), (i64 0), (Value.slice none 0 0)] 46) (V := fun b => (Value.pointer (some ⟨b, 0, none⟩))) (by kernel_rfl) (d := (some 2)) (by kernel_rfl) (fun b => rfl) (fun b1 w2 hb3 H4 K5 hs6 => ?_)
  have lb1 : b < b1 := by have := H0.lt; omega
  have nb1 : w.heap.size ≤ b1 := by have := K0.size; omega
  have ob7 : ∀ i o s, A = some ⟨i, o, s⟩ → i ≠ b1 := fun i o s hi => by have := hR.2 i o s hi; omega
  have K8 := K0.trans K5 (U := (fun i => i = b)) (fun i h1 h2 => h2) (fun i h1 h2 => by exact h2.elim)
  clear K0
  have H9 := H0.keep K5 (fun h => h)
  clear H0
  have F10 := RdO.keep0 hR K5
  clear hR
  clear K5 hs6
  refine Ops.done (by kernel_rfl) ?_
  refine q_seq (by kernel_rfl) ?_
  refine q_region (by kernel_rfl) ?_
  refine Ops.new (o := rowL [(i64 0), (i64 0), (Value.slice none 0 0)] 46) (V := fun b => (Value.pointer (some ⟨b, 0, none⟩))) (by kernel_rfl) (d := (some 3)) (by kernel_rfl) (fun b => rfl) (fun b11 w12 hb13 H14 K15 hs16 => ?_)
  have lb11 : b1 < b11 := by have := H4.lt; omega
  have nb11 : w.heap.size ≤ b11 := by have := K8.size; omega
  have ob17 : ∀ i o s, A = some ⟨i, o, s⟩ → i ≠ b11 := fun i o s hi => by have := F10.2 i o s hi; omega
  have K18 := K8.trans K15 (U := (fun i => i = b)) (fun i h1 h2 => h2) (fun i h1 h2 => by exact h2.elim)
  clear K8
  have H19 := H9.keep K15 (fun h => h)
  clear H9
  have H20 := H4.keep K15 (fun h => h)
  clear H4
  have F21 := RdO.keep0 F10 K15
  clear F10
  clear K15 hs16
  refine Ops.done (by kernel_rfl) ?_
  refine q_seq (by kernel_rfl) ?_
  refine q_region (by kernel_rfl) ?_
  refine Ops.regs 1 [(0, (Value.pointer (some ⟨b, 0, none⟩))), (2, (Value.pointer (some ⟨b1, 0, none⟩))), (3, (Value.pointer (some ⟨b11, 0, none⟩))), (7, (Value.pointer (some ⟨b, 0, none⟩)))] (j := 1) (by kernel_rfl) (by kernel_rfl) ?_
  refine Ops.call (by kernel_rfl) (d := (some 8)) (by kernel_rfl) (RRInt_calls _ b A c r hok H19 F21 hne ) ?_
  rintro _ w22 ⟨rfl, K23, H24⟩
  have hok25 : (r.int).2.Ok := Rdr.Ok.int hok
  have hu26 := Rdr.int_range r
  refine ⟨_, _, rfl, rfl, ?_⟩
  have K27 := K18.trans K23 (U := (fun i => i = b)) (fun i h1 h2 => h2) (fun i h1 h2 => by have h2 : i = b := h2; show i = b; omega)
  clear K18
  have H28 := H20.keep K23 (by intro h; change b1 = b at h; omega)
  clear H20
  have H29 := H14.keep K23 (by intro h; change b11 = b at h; omega)
  clear H14
  have F30 := RdO.keep F21 K23 (fun i _ _ hi hs => by have hs : i = b := hs; have := hne i _ _ hi; omega)
  clear F21
  clear K23
  have F31 : RdO w22 A c (r.int).2.bs := by rw [Rdr.int_bs]; exact F30
  clear F30
  refine Ops.regs 1 [(0, (Value.pointer (some ⟨b, 0, none⟩))), (2, (Value.pointer (some ⟨b1, 0, none⟩))), (3, (Value.pointer (some ⟨b11, 0, none⟩))), (8, (i64 ((r.int).1))), (9, (Value.pointer (some ⟨b11, 0, none⟩)))] (j := 3) (by kernel_rfl) (by kernel_rfl) ?_
  refine Ops.put (t := 28) (b := b11) (off := 0) (v := (i64 ((r.int).1))) (ys := [(i64 ((r.int).1)), (i64 0), (Value.slice none 0 0)]) (by kernel_rfl) (by kernel_rfl) H29 (by kernel_rfl) (d := none) (by kernel_rfl) rfl (fun w32 H33 K34 => ?_)
  clear H29
  have K35 := K27.trans K34 (U := (fun i => i = b)) (fun i h1 h2 => h2) (fun i h1 h2 => by have h2 : i = b11 := h2; show i = b; omega)
  clear K27
  have H36 := H24.keep K34 (by intro h; change b = b11 at h; omega)
  clear H24
  have H37 := H28.keep K34 (by intro h; change b1 = b11 at h; omega)
  clear H28
  have F38 := RdO.keep F31 K34 (fun i _ _ hi hs => by have hs : i = b11 := hs; have := ob17 i _ _ hi; omega)
  clear F31
  clear K34
  refine Ops.done (by kernel_rfl) ?_
  refine q_seq (by kernel_rfl) ?_
  refine q_region (by kernel_rfl) ?_
  refine Ops.regs 1 [(0, (Value.pointer (some ⟨b, 0, none⟩))), (2, (Value.pointer (some ⟨b1, 0, none⟩))), (3, (Value.pointer (some ⟨b11, 0, none⟩))), (10, (Value.pointer (some ⟨b, 0, none⟩)))] (j := 1) (by kernel_rfl) (by kernel_rfl) ?_
  refine Ops.call (by kernel_rfl) (d := (some 11)) (by kernel_rfl) (RRInt_calls _ b A c ((r.int).2) hok25 H36 F38 hne ) ?_
  rintro _ w39 ⟨rfl, K40, H41⟩
  have hok42 : (((r.int).2).int).2.Ok := Rdr.Ok.int hok25
  have hu43 := Rdr.int_range ((r.int).2)
  refine ⟨_, _, rfl, rfl, ?_⟩
  have K44 := K35.trans K40 (U := (fun i => i = b)) (fun i h1 h2 => h2) (fun i h1 h2 => by have h2 : i = b := h2; show i = b; omega)
  clear K35
  have H45 := H37.keep K40 (by intro h; change b1 = b at h; omega)
  clear H37
  have H46 := H33.keep K40 (by intro h; change b11 = b at h; omega)
  clear H33
  have F47 := RdO.keep F38 K40 (fun i _ _ hi hs => by have hs : i = b := hs; have := hne i _ _ hi; omega)
  clear F38
  clear K40
  have F48 : RdO w39 A c (((r.int).2).int).2.bs := by rw [Rdr.int_bs]; exact F47
  clear F47
  refine Ops.regs 1 [(0, (Value.pointer (some ⟨b, 0, none⟩))), (2, (Value.pointer (some ⟨b1, 0, none⟩))), (3, (Value.pointer (some ⟨b11, 0, none⟩))), (11, (i64 ((((r.int).2).int).1))), (12, (Value.pointer (some ⟨b11, 1, none⟩)))] (j := 3) (by kernel_rfl) (by kernel_rfl) ?_
  refine Ops.put (t := 2) (b := b11) (off := 1) (v := (i64 ((((r.int).2).int).1))) (ys := [(i64 ((r.int).1)), (i64 ((((r.int).2).int).1)), (Value.slice none 0 0)]) (by kernel_rfl) (by kernel_rfl) H46 (by kernel_rfl) (d := none) (by kernel_rfl) rfl (fun w49 H50 K51 => ?_)
  clear H46
  have K52 := K44.trans K51 (U := (fun i => i = b)) (fun i h1 h2 => h2) (fun i h1 h2 => by have h2 : i = b11 := h2; show i = b; omega)
  clear K44
  have H53 := H41.keep K51 (by intro h; change b = b11 at h; omega)
  clear H41
  have H54 := H45.keep K51 (by intro h; change b1 = b11 at h; omega)
  clear H45
  have F55 := RdO.keep F48 K51 (fun i _ _ hi hs => by have hs : i = b11 := hs; have := ob17 i _ _ hi; omega)
  clear F48
  clear K51
  refine Ops.done (by kernel_rfl) ?_
  refine q_seq (by kernel_rfl) ?_
  refine q_region (by kernel_rfl) ?_
  refine Ops.regs 1 [(0, (Value.pointer (some ⟨b, 0, none⟩))), (2, (Value.pointer (some ⟨b1, 0, none⟩))), (3, (Value.pointer (some ⟨b11, 0, none⟩))), (13, (Value.pointer (some ⟨b, 0, none⟩)))] (j := 1) (by kernel_rfl) (by kernel_rfl) ?_
  refine Ops.call (by kernel_rfl) (d := (some 14)) (by kernel_rfl) (RRCount_calls _ b A c ((((r.int).2).int).2) hok42 H53 F55 hne 600 (by omega)) ?_
  rintro _ w56 ⟨rfl, K57, H58⟩
  have hok59 : (((((r.int).2).int).2).sized 600).2.Ok := Rdr.Ok.sized hok42 600
  have hu60 := Rdr.sized_le hok42 600
  have hu61 := Rdr.sized_lt ((((r.int).2).int).2) 600
  refine ⟨_, _, rfl, rfl, ?_⟩
  have K62 := K52.trans K57 (U := (fun i => i = b)) (fun i h1 h2 => h2) (fun i h1 h2 => by have h2 : i = b := h2; show i = b; omega)
  clear K52
  have H63 := H54.keep K57 (by intro h; change b1 = b at h; omega)
  clear H54
  have H64 := H50.keep K57 (by intro h; change b11 = b at h; omega)
  clear H50
  have F65 := RdO.keep F55 K57 (fun i _ _ hi hs => by have hs : i = b := hs; have := hne i _ _ hi; omega)
  clear F55
  clear K57
  have F66 : RdO w56 A c (((((r.int).2).int).2).sized 600).2.bs := by rw [Rdr.sized_bs]; exact F65
  clear F65
  refine Ops.regs 1 [(0, (Value.pointer (some ⟨b, 0, none⟩))), (2, (Value.pointer (some ⟨b1, 0, none⟩))), (3, (Value.pointer (some ⟨b11, 0, none⟩))), (4, (i64 (((((((r.int).2).int).2).sized 600).1 : Nat) : Int)))] (j := 3) (by kernel_rfl) (by kernel_rfl) ?_
  refine Ops.done (by kernel_rfl) ?_
  refine q_seq (by kernel_rfl) ?_
  refine q_seq (by kernel_rfl) ?_
  refine q_region (by kernel_rfl) ?_
  refine Ops.regs 1 [(0, (Value.pointer (some ⟨b, 0, none⟩))), (2, (Value.pointer (some ⟨b1, 0, none⟩))), (3, (Value.pointer (some ⟨b11, 0, none⟩))), (4, (i64 (((((((r.int).2).int).2).sized 600).1 : Nat) : Int))), (5, (i64 0))] (j := 1) (by kernel_rfl) (by kernel_rfl) ?_
  refine Ops.done (by kernel_rfl) ?_
  refine q_block (id := 0) (by kernel_rfl) ?_
  refine q_keep (R := [(0, (Value.pointer (some ⟨b, 0, none⟩))), (2, (Value.pointer (some ⟨b1, 0, none⟩))), (3, (Value.pointer (some ⟨b11, 0, none⟩))), (4, (i64 (((((((r.int).2).int).2).sized 600).1 : Nat) : Int))), (5, (i64 0))]) (by kernel_rfl) ?_
  refine q_loop (fun (gs : (Option Addr) × Nat × Nat × (List RowM) × Rdr) L (wx : World) => match gs with | (VA, vc, i, l, R) => L = [(0, (Value.pointer (some ⟨b, 0, none⟩))), (2, (Value.pointer (some ⟨b1, 0, none⟩))), (3, (Value.pointer (some ⟨b11, 0, none⟩))), (4, (i64 (((((((r.int).2).int).2).sized 600).1 : Nat) : Int))), (5, (i64 ((i : Nat) : Int)))] ∧ RdO wx A c R.bs ∧ OwnR wx w.heap.size 82 (Value.slice VA l.length vc) l ∧ (∀ i, ((Value.slice VA l.length vc)).ownBlock = some i → i ≠ b) ∧ (∀ i, ((Value.slice VA l.length vc)).ownBlock = some i → i ≠ b1) ∧ (∀ i, ((Value.slice VA l.length vc)).ownBlock = some i → i ≠ b11) ∧ (∀ i o s, A = some ⟨i, o, s⟩ → ((Value.slice VA l.length vc)).ownBlock = some i → False) ∧ R.Ok ∧ l ++ (Rdr.rows (r.rhead.1 - i) R).1 = (Rdr.rows r.rhead.1 r.rhead.2).1 ∧ (Rdr.rows (r.rhead.1 - i) R).2 = (Rdr.rows r.rhead.1 r.rhead.2).2 ∧ i ≤ r.rhead.1 ∧ l.length = i ∧ Keeps (fun i => i = b) w wx ∧ Has wx b (rowL (rdrL A c R) 72) ∧ Has wx b1 (rowL [(i64 0), (i64 0), (Value.slice none 0 0)] 46) ∧ Has wx b11 (rowL [(i64 ((r.int).1)), (i64 ((((r.int).2).int).1)), (Value.slice VA l.length vc)] 46)) (fun (gs : (Option Addr) × Nat × Nat × (List RowM) × Rdr) => match gs with | (VA, vc, i, l, R) => r.rhead.1 - i) (none, 0, 0, [], (((((r.int).2).int).2).sized 600).2) (by kernel_rfl) ⟨rfl, F66, (OwnT.nil _ _ _ _ _), (fun i hi => by cases hi), (fun i hi => by cases hi), (fun i hi => by cases hi), (fun _ _ _ _ h => by cases h), hok59, rfl, rfl, Nat.zero_le _, rfl, K62, H58, H63, H64⟩ ?_
  clear H58 H63 H64 F66 K62
  rintro ⟨VA, vc, i, l, R⟩ _ w67 ⟨rfl, hRdA, hOV, obVb, obVb1, obVb11, ooVA, hokR, hE, hF, hi, hli, K68, H69, H70, H71⟩
  have hN : r.rhead.1 = (((((r.int).2).int).2).sized 600).1 := rfl
  have hle := r.rhead_le
  refine q_seq (by kernel_rfl) ?_
  refine q_seq (by kernel_rfl) ?_
  refine q_region (by kernel_rfl) ?_
  refine Ops.regs 3 [(0, (Value.pointer (some ⟨b, 0, none⟩))), (2, (Value.pointer (some ⟨b1, 0, none⟩))), (3, (Value.pointer (some ⟨b11, 0, none⟩))), (4, (i64 (((((((r.int).2).int).2).sized 600).1 : Nat) : Int))), (5, (i64 ((i : Nat) : Int))), (17, (Value.bool (decide (((i : Nat) : Int) < (((((((r.int).2).int).2).sized 600).1 : Nat) : Int)))))] (j := 3) (by kernel_rfl) (by kernel_rfl) ?_
  refine Ops.done (by kernel_rfl) ?_
  refine q_cond (o := .tmp 17) (b := (decide (((i : Nat) : Int) < (((((((r.int).2).int).2).sized 600).1 : Nat) : Int)))) (by kernel_rfl) rfl (fun h72 => ?_) (fun h72 => ?_)
  · rw [h72]
    have p73 : ((i : Nat) : Int) < (((((((r.int).2).int).2).sized 600).1 : Nat) : Int) := of_decide_eq_true h72
    refine q_skip (by kernel_rfl) ?_
    refine q_seq (by kernel_rfl) ?_
    refine q_block (id := 1) (by kernel_rfl) ?_
    refine q_seq (by kernel_rfl) ?_
    refine q_region (by kernel_rfl) ?_
    refine Ops.regs 1 [(0, (Value.pointer (some ⟨b, 0, none⟩))), (2, (Value.pointer (some ⟨b1, 0, none⟩))), (3, (Value.pointer (some ⟨b11, 0, none⟩))), (4, (i64 (((((((r.int).2).int).2).sized 600).1 : Nat) : Int))), (5, (i64 ((i : Nat) : Int))), (17, (Value.bool true)), (20, (Value.pointer (some ⟨b, 0, none⟩)))] (j := 1) (by kernel_rfl) (by kernel_rfl) ?_
    refine Ops.call (by kernel_rfl) (d := (some 21)) (by kernel_rfl) (RRText_calls _ b A c R hokR H69 hRdA hne ) ?_
    rintro _ w74 ⟨rfl, K75, H76⟩
    have hok77 : (R.bytes).2.Ok := Rdr.Ok.bytes hokR
    have hu78 := Rdr.bytes_le hokR
    refine ⟨_, _, rfl, rfl, ?_⟩
    have K79 := K68.trans K75 (U := (fun i => i = b)) (fun i h1 h2 => h2) (fun i h1 h2 => by have h2 : i = b := h2; show i = b; omega)
    clear K68
    have H80 := H70.keep K75 (by intro h; change b1 = b at h; omega)
    clear H70
    have H81 := H71.keep K75 (by intro h; change b11 = b at h; omega)
    clear H71
    have F82 := RdO.keep hRdA K75 (fun i _ _ hi hs => by have hs : i = b := hs; have := hne i _ _ hi; omega)
    clear hRdA
    have F83 := own_keep hOV K75 (fun i hi hs => by have hs : i = b := hs; have := obVb i hi; omega)
    clear hOV
    clear K75
    have F84 : RdO w74 A c (R.bytes).2.bs := by rw [Rdr.bytes_bs]; exact F82
    clear F82
    refine Ops.regs 1 [(0, (Value.pointer (some ⟨b, 0, none⟩))), (2, (Value.pointer (some ⟨b1, 0, none⟩))), (3, (Value.pointer (some ⟨b11, 0, none⟩))), (4, (i64 (((((((r.int).2).int).2).sized 600).1 : Nat) : Int))), (5, (i64 ((i : Nat) : Int))), (6, (Value.string (str (R.bytes).1))), (17, (Value.bool true))] (j := 3) (by kernel_rfl) (by kernel_rfl) ?_
    refine Ops.done (by kernel_rfl) ?_
    refine q_draw (fun wz => Keeps (fun i => ((Value.slice VA l.length vc)).ownBlock = some i ∨ i = b ∨ i = b11) w74 wz) 10 (by kernel_rfl) (by kernel_rfl) (by kernel_rfl) (fun w85 K86 _ _ => ⟨(K86.mono (fun _ _ h => h.elim)), ?_⟩)
    have K87 := K79.trans K86 (U := (fun i => i = b)) (fun i h1 h2 => h2) (fun i h1 h2 => by exact h2.elim)
    clear K79
    have H88 := H76.keep K86 (fun h => h)
    clear H76
    have H89 := H80.keep K86 (fun h => h)
    clear H80
    have H90 := H81.keep K86 (fun h => h)
    clear H81
    have F91 := RdO.keep0 F84 K86
    clear F84
    have F92 := own_keep0 F83 K86
    clear F83
    refine Dr.strong (S' := (fun wz => Keeps (fun i => ((Value.slice VA l.length vc)).ownBlock = some i ∨ i = b ∨ i = b11) w85 wz)) ((Keeps.refl w85).mono (fun _ _ h => h.elim)) (fun wz hx => K86.trans hx (fun i _ h => h.elim) (fun _ _ h => h)) ?_
    clear K86
    refine Dr.takes (fuel' := 7) (is' := [3, 2, 0]) [0, 2, 3] [(0, (Value.pointer (some ⟨b, 0, none⟩))), (2, (Value.pointer (some ⟨b1, 0, none⟩))), (3, (Value.pointer (some ⟨b11, 0, none⟩))), (4, (i64 (((((((r.int).2).int).2).sized 600).1 : Nat) : Int))), (5, (i64 ((i : Nat) : Int))), (6, (Value.string (str (R.bytes).1))), (17, (Value.bool true)), (22, (Value.pointer (some ⟨b11, 2, none⟩))), (24, (Value.string (str (R.bytes).1))), (25, (Value.pointer (some ⟨b, 0, none⟩)))] (by kernel_rfl) rfl (by kernel_rfl) ?_
    refine Dr.float [(0, (Value.pointer (some ⟨b, 0, none⟩))), (2, (Value.pointer (some ⟨b1, 0, none⟩))), (3, (Value.pointer (some ⟨b11, 0, none⟩))), (4, (i64 (((((((r.int).2).int).2).sized 600).1 : Nat) : Int))), (5, (i64 ((i : Nat) : Int))), (6, (Value.string (str (R.bytes).1))), (17, (Value.bool true)), (23, (Value.slice VA l.length vc)), (24, (Value.string (str (R.bytes).1))), (25, (Value.pointer (some ⟨b, 0, none⟩)))] 1 ?_
    refine DrB.call (i := 1) (j := 4) (t := 44) (a := ⟨b11, 2, none⟩) (v := (Value.slice VA l.length vc)) (by kernel_rfl) (.inl rfl) (by kernel_rfl) (by kernel_rfl) (by kernel_rfl) (by kernel_rfl) (di := (some 23)) (by kernel_rfl) (by kernel_rfl) (by kernel_rfl) (by kernel_rfl) (dj := (some 26)) (by kernel_rfl) (H90.loads (by kernel_rfl)) ((Keeps.refl _).mono (fun _ _ h => h.elim)) (RRInt_calls _ b A c ((R.bytes).2) hok77 H88 F91 hne ) ?_
    rintro _ w93 ⟨rfl, K94, H95⟩
    have hok96 : (((R.bytes).2).int).2.Ok := Rdr.Ok.int hok77
    have hu97 := Rdr.int_range ((R.bytes).2)
    have K98 := K87.trans K94 (U := (fun i => i = b)) (fun i h1 h2 => h2) (fun i h1 h2 => by have h2 : i = b := h2; show i = b; omega)
    clear K87
    have H99 := H89.keep K94 (by intro h; change b1 = b at h; omega)
    clear H89
    have H100 := H90.keep K94 (by intro h; change b11 = b at h; omega)
    clear H90
    have F101 := RdO.keep F91 K94 (fun i _ _ hi hs => by have hs : i = b := hs; have := hne i _ _ hi; omega)
    clear F91
    have F102 := own_keep F92 K94 (fun i hi hs => by have hs : i = b := hs; have := obVb i hi; omega)
    clear F92
    refine ⟨_, _, _, rfl, (K94.mono (fun i _ h => by have h : i = b := h; show ((Value.slice VA l.length vc)).ownBlock = some i ∨ i = b ∨ i = b11; exact (.inr (.inl h)))), rfl, rfl, ?_⟩
    refine DrB.strong (S' := (fun wz => Keeps (fun i => ((Value.slice VA l.length vc)).ownBlock = some i ∨ i = b ∨ i = b11) w93 wz)) ((Keeps.refl w93).mono (fun _ _ h => h.elim)) (fun wz hx => K94.trans hx (fun i _ h => by have h : i = b := h; show ((Value.slice VA l.length vc)).ownBlock = some i ∨ i = b ∨ i = b11; exact (.inr (.inl h))) (fun _ _ h => h)) ?_
    clear K94
    have F103 : RdO w93 A c (((R.bytes).2).int).2.bs := by rw [Rdr.int_bs]; exact F101
    clear F101
    refine DrB.takes (fuel' := 4) (is' := [5, 4, 3, 2, 0]) [5] [(0, (Value.pointer (some ⟨b, 0, none⟩))), (2, (Value.pointer (some ⟨b1, 0, none⟩))), (3, (Value.pointer (some ⟨b11, 0, none⟩))), (4, (i64 (((((((r.int).2).int).2).sized 600).1 : Nat) : Int))), (5, (i64 ((i : Nat) : Int))), (6, (Value.string (str (R.bytes).1))), (17, (Value.bool true)), (22, (Value.pointer (some ⟨b11, 2, none⟩))), (27, (agg [(Value.string (str (R.bytes).1)), (i64 ((((R.bytes).2).int).1))]))] [(0, (Value.pointer (some ⟨b, 0, none⟩))), (2, (Value.pointer (some ⟨b1, 0, none⟩))), (3, (Value.pointer (some ⟨b11, 0, none⟩))), (4, (i64 (((((((r.int).2).int).2).sized 600).1 : Nat) : Int))), (5, (i64 ((i : Nat) : Int))), (6, (Value.string (str (R.bytes).1))), (17, (Value.bool true)), (23, (Value.slice VA l.length vc)), (27, (agg [(Value.string (str (R.bytes).1)), (i64 ((((R.bytes).2).int).1))]))] (by kernel_rfl) rfl (by kernel_rfl) (by kernel_rfl) (by kernel_rfl) ?_
    refine DrB.new (i := 1) (j := 6) (t := 44) (a := ⟨b11, 2, none⟩) (v := (Value.slice VA l.length vc)) (o := rowL [(Value.string (str (R.bytes).1)), (i64 ((((R.bytes).2).int).1))] 82) (V := fun b => (Value.slice (some ⟨b, 0, none⟩) 1 1)) (by kernel_rfl) (.inl rfl) (by kernel_rfl) (by kernel_rfl) (by kernel_rfl) (by kernel_rfl) (di := (some 23)) (by kernel_rfl) (by kernel_rfl) (by kernel_rfl) (by kernel_rfl) (dj := (some 28)) (by kernel_rfl) (fun b => rfl) (fun b => rfl) (H100.loads (by kernel_rfl)) ((Keeps.refl _).mono (fun _ _ h => h.elim)) (fun b104 w105 hb106 H107 K108 hs109 => ?_)
    have lb104 : b11 < b104 := by have := H100.lt; omega
    have nb104 : w.heap.size ≤ b104 := by have := K98.size; omega
    have ob110 : ∀ i o s, A = some ⟨i, o, s⟩ → i ≠ b104 := fun i o s hi => by have := F103.2 i o s hi; omega
    have ob111 : ∀ i, ((Value.slice VA l.length vc)).ownBlock = some i → i < b104 := fun i hi => by have := (World.ownsRow.lt F102 i hi).2; omega
    have K112 := K98.trans K108 (U := (fun i => i = b)) (fun i h1 h2 => h2) (fun i h1 h2 => by exact h2.elim)
    clear K98
    have H113 := H95.keep K108 (fun h => h)
    clear H95
    have H114 := H99.keep K108 (fun h => h)
    clear H99
    have H115 := H100.keep K108 (fun h => h)
    clear H100
    have F116 := RdO.keep0 F103 K108
    clear F103
    have F117 := own_keep0 F102 K108
    clear F102
    refine ⟨(K108.mono (fun _ _ h => h.elim)), ?_⟩
    refine DrB.strong (S' := (fun wz => Keeps (fun i => ((Value.slice VA l.length vc)).ownBlock = some i ∨ i = b ∨ i = b11) w105 wz)) ((Keeps.refl w105).mono (fun _ _ h => h.elim)) (fun wz hx => K108.trans hx (fun i _ h => h.elim) (fun _ _ h => h)) ?_
    clear K108 hs109
    refine DrB.end_ (t := 44) (a := ⟨b11, 2, none⟩) (v := (Value.slice VA l.length vc)) (R := [(0, (Value.pointer (some ⟨b, 0, none⟩))), (2, (Value.pointer (some ⟨b1, 0, none⟩))), (3, (Value.pointer (some ⟨b11, 0, none⟩))), (4, (i64 (((((((r.int).2).int).2).sized 600).1 : Nat) : Int))), (5, (i64 ((i : Nat) : Int))), (6, (Value.string (str (R.bytes).1))), (17, (Value.bool true)), (23, (Value.slice VA l.length vc)), (28, (Value.slice (some ⟨b104, 0, none⟩) 1 1))]) (by kernel_rfl) (by kernel_rfl) (by kernel_rfl) (di := (some 23)) (by kernel_rfl) (by kernel_rfl) (by kernel_rfl) (H115.loads (by kernel_rfl)) ((Keeps.refl _).mono (fun _ _ h => h.elim)) ?_
    obtain ⟨v118, w119, hr120, hO121, hK122, hg123⟩ := OwnT.app (ty := 44) RowM.two RowM.one tyR F117 (show RdT _ 2 RowM.cells _ [(⟨(R.bytes).1, (((R.bytes).2).int).1⟩ : RowM)] from Rd.lit H107 (n := 1) rfl (by decide)) (by simp only [List.length_cons, List.length_nil]; omega) (by simp only [List.length_cons, List.length_nil]; omega) K112.size
    obtain ⟨A125, c126, rfl⟩ := RdT.form RowM.two (by decide) (OwnT.rd hO121)
    have ob127 : ∀ i, ((Value.slice A125 ((l ++ [(⟨(R.bytes).1, (((R.bytes).2).int).1⟩ : RowM)]).length) c126)).ownBlock = some i → i ≠ b := fun i hi => by rcases hg123 i hi with h | h; (have := obVb i h; omega); (have := H113.lt; omega)
    have ob128 : ∀ i, ((Value.slice A125 ((l ++ [(⟨(R.bytes).1, (((R.bytes).2).int).1⟩ : RowM)]).length) c126)).ownBlock = some i → i ≠ b1 := fun i hi => by rcases hg123 i hi with h | h; (have := obVb1 i h; omega); (have := H114.lt; omega)
    have ob129 : ∀ i, ((Value.slice A125 ((l ++ [(⟨(R.bytes).1, (((R.bytes).2).int).1⟩ : RowM)]).length) c126)).ownBlock = some i → i ≠ b11 := fun i hi => by rcases hg123 i hi with h | h; (have := obVb11 i h; omega); (have := H115.lt; omega)
    have ob130 : ∀ i, ((Value.slice A125 ((l ++ [(⟨(R.bytes).1, (((R.bytes).2).int).1⟩ : RowM)]).length) c126)).ownBlock = some i → i ≠ b104 := fun i hi => by rcases hg123 i hi with h | h; (have := ob111 i h; omega); (have := H107.lt; omega)
    have oo131 : ∀ i o s, A = some ⟨i, o, s⟩ → ((Value.slice A125 ((l ++ [(⟨(R.bytes).1, (((R.bytes).2).int).1⟩ : RowM)]).length) c126)).ownBlock = some i → False := fun i o s hi hs => by rcases hg123 i hs with h | h; (exact ooVA i o s hi h); (have := F116.2 i o s hi; omega)
    have K124 := hK122
    have K132 := K112.trans K124 (U := (fun i => i = b)) (fun i h1 h2 => h2) (fun i h1 h2 => by have h2 : ((Value.slice VA l.length vc)).ownBlock = some i := h2; exfalso; have := (World.ownsRow.lt F117 i h2).1; omega)
    clear K112
    have H133 := H113.keep K124 (by intro h; change ((Value.slice VA l.length vc)).ownBlock = some b at h; have := obVb b h; omega)
    clear H113
    have H134 := H114.keep K124 (by intro h; change ((Value.slice VA l.length vc)).ownBlock = some b1 at h; have := obVb1 b1 h; omega)
    clear H114
    have H135 := H115.keep K124 (by intro h; change ((Value.slice VA l.length vc)).ownBlock = some b11 at h; have := obVb11 b11 h; omega)
    clear H115
    have H136 := H107.keep K124 (by intro h; change ((Value.slice VA l.length vc)).ownBlock = some b104 at h; have := ob111 b104 h; omega)
    clear H107
    have F137 := RdO.keep F116 K124 (fun i _ _ hi hs => by have hs : ((Value.slice VA l.length vc)).ownBlock = some i := hs; exact ooVA i _ _ hi hs)
    clear F116
    clear F117
    refine Dr.go (i := 7) (v := (Value.slice A125 ((l ++ [(⟨(R.bytes).1, (((R.bytes).2).int).1⟩ : RowM)]).length) c126)) (by kernel_rfl) (by kernel_rfl) (Runs.append (ts := #[44, 44]) (ty := 44) (vs := [(Value.slice VA l.length vc), (Value.slice (some ⟨b104, 0, none⟩) 1 1)]) (by kernel_rfl) hr120) (d := (some 29)) (by kernel_rfl) rfl (K124.mono (fun i _ h => by have h : ((Value.slice VA l.length vc)).ownBlock = some i := h; show ((Value.slice VA l.length vc)).ownBlock = some i ∨ i = b ∨ i = b11; exact (.inl h))) ?_
    refine Dr.strong (S' := (fun wz => Keeps (fun i => ((Value.slice VA l.length vc)).ownBlock = some i ∨ i = b ∨ i = b11) w119 wz)) ((Keeps.refl w119).mono (fun _ _ h => h.elim)) (fun wz hx => K124.trans hx (fun i _ h => by have h : ((Value.slice VA l.length vc)).ownBlock = some i := h; show ((Value.slice VA l.length vc)).ownBlock = some i ∨ i = b ∨ i = b11; exact (.inl h)) (fun _ _ h => h)) ?_
    clear K124 hr120 hK122 hg123
    refine Dr.takes (fuel' := 1) (is' := [8, 7, 1, 6, 5, 4, 3, 2, 0]) [8] [(0, (Value.pointer (some ⟨b, 0, none⟩))), (2, (Value.pointer (some ⟨b1, 0, none⟩))), (3, (Value.pointer (some ⟨b11, 0, none⟩))), (4, (i64 (((((((r.int).2).int).2).sized 600).1 : Nat) : Int))), (5, (i64 ((i : Nat) : Int))), (6, (Value.string (str (R.bytes).1))), (17, (Value.bool true)), (29, (Value.slice A125 ((l ++ [(⟨(R.bytes).1, (((R.bytes).2).int).1⟩ : RowM)]).length) c126)), (30, (Value.pointer (some ⟨b11, 2, none⟩)))] (by kernel_rfl) rfl (by kernel_rfl) ?_
    refine Dr.put (i := 9) (t := 44) (b := b11) (off := 2) (v := (Value.slice A125 ((l ++ [(⟨(R.bytes).1, (((R.bytes).2).int).1⟩ : RowM)]).length) c126)) (ys := [(i64 ((r.int).1)), (i64 ((((r.int).2).int).1)), (Value.slice A125 ((l ++ [(⟨(R.bytes).1, (((R.bytes).2).int).1⟩ : RowM)]).length) c126)]) (by kernel_rfl) (by kernel_rfl) (by kernel_rfl) H135 (by kernel_rfl) (d := none) (by kernel_rfl) rfl (fun w138 H139 K140 => ?_)
    clear H135
    have K141 := K132.trans K140 (U := (fun i => i = b)) (fun i h1 h2 => h2) (fun i h1 h2 => by have h2 : i = b11 := h2; show i = b; omega)
    clear K132
    have H142 := H133.keep K140 (by intro h; change b = b11 at h; omega)
    clear H133
    have H143 := H134.keep K140 (by intro h; change b1 = b11 at h; omega)
    clear H134
    have H144 := H136.keep K140 (by intro h; change b104 = b11 at h; omega)
    clear H136
    have F145 := RdO.keep F137 K140 (fun i _ _ hi hs => by have hs : i = b11 := hs; have := ob17 i _ _ hi; omega)
    clear F137
    have F146 := own_keep hO121 K140 (fun i hi hs => by have hs : i = b11 := hs; have := ob129 i hi; omega)
    clear hO121
    refine ⟨(K140.mono (fun i _ h => by have h : i = b11 := h; show ((Value.slice VA l.length vc)).ownBlock = some i ∨ i = b ∨ i = b11; exact (.inr (.inr h)))), ?_⟩
    refine Dr.strong (S' := (fun wz => Keeps (fun i => ((Value.slice VA l.length vc)).ownBlock = some i ∨ i = b ∨ i = b11) w138 wz)) ((Keeps.refl w138).mono (fun _ _ h => h.elim)) (fun wz hx => K140.trans hx (fun i _ h => by have h : i = b11 := h; show ((Value.slice VA l.length vc)).ownBlock = some i ∨ i = b ∨ i = b11; exact (.inr (.inr h))) (fun _ _ h => h)) ?_
    clear K140
    refine Dr.done (by kernel_rfl) ?_
    refine q_region (by kernel_rfl) ?_
    refine Ops.regs 2 [(0, (Value.pointer (some ⟨b, 0, none⟩))), (2, (Value.pointer (some ⟨b1, 0, none⟩))), (3, (Value.pointer (some ⟨b11, 0, none⟩))), (4, (i64 (((((((r.int).2).int).2).sized 600).1 : Nat) : Int))), (5, (i64 ((i : Nat) : Int))), (6, (Value.string (str (R.bytes).1))), (17, (Value.bool true)), (19, (i64 (IntKind.i64.wrap (((i : Nat) : Int) + 1))))] (j := 2) (by kernel_rfl) (by kernel_rfl) ?_
    have e147 : IntKind.i64.wrap (((i : Nat) : Int) + 1) = ((i + 1 : Nat) : Int) := by rw [wrap_i64 (by omega) (by omega)]; omega
    rw [e147]
    clear e147
    refine Ops.regs 1 [(0, (Value.pointer (some ⟨b, 0, none⟩))), (2, (Value.pointer (some ⟨b1, 0, none⟩))), (3, (Value.pointer (some ⟨b11, 0, none⟩))), (4, (i64 (((((((r.int).2).int).2).sized 600).1 : Nat) : Int))), (5, (i64 ((i + 1 : Nat) : Int))), (6, (Value.string (str (R.bytes).1))), (17, (Value.bool true))] (j := 3) (by kernel_rfl) (by kernel_rfl) ?_
    refine Ops.keep (R := [(0, (Value.pointer (some ⟨b, 0, none⟩))), (2, (Value.pointer (some ⟨b1, 0, none⟩))), (3, (Value.pointer (some ⟨b11, 0, none⟩))), (4, (i64 (((((((r.int).2).int).2).sized 600).1 : Nat) : Int))), (5, (i64 ((i + 1 : Nat) : Int)))]) (by kernel_rfl) ?_
    refine Ops.done (by kernel_rfl) ?_
    exact ⟨(A125, c126, i + 1, l ++ [(⟨(R.bytes).1, (((R.bytes).2).int).1⟩ : RowM)], (((R.bytes).2).int).2), ⟨rfl, F145, F146, ob127, ob128, ob129, oo131, hok96, (Rdr.rows_next hE hF (by omega)).1, (Rdr.rows_next hE hF (by omega)).2, (by omega), (by simp [hli]), K141, H142, H143, H139⟩, (show r.rhead.1 - (i + 1) < r.rhead.1 - i from by omega)⟩
  · rw [h72]
    have p148 : ¬ (((i : Nat) : Int) < (((((((r.int).2).int).2).sized 600).1 : Nat) : Int)) := of_decide_eq_false h72
    refine q_exit (id := 0) (by kernel_rfl) ?_
    refine q_seq (by kernel_rfl) ?_
    refine q_region (by kernel_rfl) ?_
    refine Ops.go (v := (agg [(i64 ((r.int).1)), (i64 ((((r.int).2).int).1)), (Value.slice VA l.length vc)])) (by kernel_rfl) (Runs.load (t := 46) (a := ⟨b11, 0, none⟩) (by kernel_rfl) (H71.loads (by kernel_rfl))) (d := (some 31)) (by kernel_rfl) rfl ?_
    refine Ops.put (t := 46) (b := b1) (off := 0) (v := (agg [(i64 ((r.int).1)), (i64 ((((r.int).2).int).1)), (Value.slice VA l.length vc)])) (ys := [(i64 ((r.int).1)), (i64 ((((r.int).2).int).1)), (Value.slice VA l.length vc)]) (by kernel_rfl) (by kernel_rfl) H70 (by kernel_rfl) (d := none) (by kernel_rfl) rfl (fun w149 H150 K151 => ?_)
    clear H70
    have K152 := K68.trans K151 (U := (fun i => i = b)) (fun i h1 h2 => h2) (fun i h1 h2 => by have h2 : i = b1 := h2; show i = b; omega)
    clear K68
    have H153 := H69.keep K151 (by intro h; change b = b1 at h; omega)
    clear H69
    have H154 := H71.keep K151 (by intro h; change b11 = b1 at h; omega)
    clear H71
    have F155 := RdO.keep hRdA K151 (fun i _ _ hi hs => by have hs : i = b1 := hs; have := ob7 i _ _ hi; omega)
    clear hRdA
    have F156 := own_keep hOV K151 (fun i hi hs => by have hs : i = b1 := hs; have := obVb1 i hi; omega)
    clear hOV
    clear K151
    refine Ops.done (by kernel_rfl) ?_
    refine q_ret (by kernel_rfl) ?_
    refine ⟨(agg [(i64 ((r.int).1)), (i64 ((((r.int).2).int).1)), (Value.slice VA l.length vc)]), retv_cell rfl rfl (H150.loads (by kernel_rfl)), ?_⟩
    have hd := Rdr.rows_done hE hF (by omega)
    have e : r.reply = (⟨r.int.1, r.int.2.int.1, l⟩, R) := by show ((⟨r.int.1, r.int.2.int.1, (Rdr.rows r.rhead.1 r.rhead.2).1⟩ : ReplyM), (Rdr.rows r.rhead.1 r.rhead.2).2) = _; rw [hd.1, hd.2]
    exact ⟨_, _, by rw [e], K152, by rw [e]; exact F156, by rw [e]; exact H153⟩
end Go.Proofs.Ytnepjfnkaigakaa
