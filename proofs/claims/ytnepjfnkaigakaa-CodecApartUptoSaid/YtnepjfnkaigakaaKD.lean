/- codec: answers read, compared; what spoils and lends bytes; readers that are not there; one read of both -/
import Derived.Test.YtnepjfnkaigakaaProg
import Derived.Test.YtnepjfnkaigakaaKC
set_option linter.unusedVariables false
namespace Go.Proofs.Ytnepjfnkaigakaa
open Go.Q Go.RowKit
theorem tyR : ElemTy Try.prog 44 82 2 24 := elemTy (by kernel_rfl)

theorem GetReply_calls (w : World) (b : Nat) (A : Option Addr) (c : Nat) (r : Rdr) (hok : r.Ok) (H0 : Has w b (rowL (rdrL A c r) 88)) (hR : RdO w A c r.bs) (hne : ∀ g o s, A = some ⟨g, o, s⟩ → g ≠ b) : Calls Try.prog 55 ⟨[(Value.pointer (some ⟨b, 0, none⟩))]⟩ w (fun e w' => ∃ A' c', e = .returned (agg [i64 r.reply.1.why, i64 r.reply.1.amount, .slice A' r.reply.1.rows.length c']) ∧ Keeps (fun i => i = b) w w' ∧ OwnR w' w.heap.size 82 (.slice A' r.reply.1.rows.length c') r.reply.1.rows ∧ Has w' b (rowL (rdrL A c r.reply.2) 88)) := by
  have hpos := hok.pos
  have hlen := hok.len
  have hsc := r.scan_le
  have hdl : (r.bs.drop r.pos).length = r.bs.length - r.pos := List.length_drop
  have hcap := hR.1.slice
  have Hb := H0.lt
  have K0 : Keeps (fun i => i = b) w w := (Keeps.refl w).mono (fun _ _ h => h.elim)
  refine q_calls Try.func55 (by kernel_rfl) (by kernel_rfl) ?_
  refine q_seq (by kernel_rfl) ?_
  refine q_region (by kernel_rfl) ?_
  refine Ops.new (o := rowL [(i64 0), (i64 0), (Value.slice none 0 0)] 46) (V := fun b => (Value.pointer (some ⟨b, 0, none⟩))) (by kernel_rfl) (d := (some 2)) (by kernel_rfl) (fun b => rfl) (fun b1 w2 hb3 H4 K5 hs6 => ?_)
  have lb1 : b < b1 := by have := H0.lt; omega
  have nb1 : w.heap.size ≤ b1 := by have := K0.size; omega
  have ob7 : ∀ i o s, A = some ⟨i, o, s⟩ → i ≠ b1 := fun i o s hi => by have := hR.2 i o s hi; omega
  have K8 := K0.trans K5 (U := (fun i => i = b)) (fun i h1 h2 => h2) (fun i h1 h2 => by exact h2.elim)
  clear K0
  have H9 := H0.keep K5 (fun h => h)
  clear H0
  have F10 := RdO.keep0 hR K5
  clear hR
  clear K5 hs6
  refine Ops.done (by kernel_rfl) ?_
  refine q_seq (by kernel_rfl) ?_
  refine q_region (by kernel_rfl) ?_
  refine Ops.regs 1 [(0, (Value.pointer (some ⟨b, 0, none⟩))), (2, (Value.pointer (some ⟨b1, 0, none⟩))), (5, (Value.pointer (some ⟨b, 0, none⟩)))] (j := 1) (by kernel_rfl) (by kernel_rfl) ?_
  refine Ops.call (by kernel_rfl) (d := (some 6)) (by kernel_rfl) (RdInt_calls _ b A c r hok H9 F10 hne ) ?_
  rintro _ w11 ⟨rfl, K12, H13⟩
  have hok14 : (r.int).2.Ok := Rdr.Ok.int hok
  have hu15 := Rdr.int_range r
  refine ⟨_, _, rfl, rfl, ?_⟩
  have K16 := K8.trans K12 (U := (fun i => i = b)) (fun i h1 h2 => h2) (fun i h1 h2 => by have h2 : i = b := h2; show i = b; omega)
  clear K8
  have H17 := H4.keep K12 (by intro h; change b1 = b at h; omega)
  clear H4
  have F18 := RdO.keep F10 K12 (fun i _ _ hi hs => by have hs : i = b := hs; have := hne i _ _ hi; omega)
  clear F10
  clear K12
  have F19 : RdO w11 A c (r.int).2.bs := by rw [Rdr.int_bs]; exact F18
  clear F18
  refine Ops.regs 1 [(0, (Value.pointer (some ⟨b, 0, none⟩))), (2, (Value.pointer (some ⟨b1, 0, none⟩))), (6, (i64 ((r.int).1))), (7, (Value.pointer (some ⟨b, 0, none⟩)))] (j := 3) (by kernel_rfl) (by kernel_rfl) ?_
  refine Ops.call (by kernel_rfl) (d := (some 8)) (by kernel_rfl) (RdInt_calls _ b A c ((r.int).2) hok14 H13 F19 hne ) ?_
  rintro _ w20 ⟨rfl, K21, H22⟩
  have hok23 : (((r.int).2).int).2.Ok := Rdr.Ok.int hok14
  have hu24 := Rdr.int_range ((r.int).2)
  refine ⟨_, _, rfl, rfl, ?_⟩
  have K25 := K16.trans K21 (U := (fun i => i = b)) (fun i h1 h2 => h2) (fun i h1 h2 => by have h2 : i = b := h2; show i = b; omega)
  clear K16
  have H26 := H17.keep K21 (by intro h; change b1 = b at h; omega)
  clear H17
  have F27 := RdO.keep F19 K21 (fun i _ _ hi hs => by have hs : i = b := hs; have := hne i _ _ hi; omega)
  clear F19
  clear K21
  have F28 : RdO w20 A c (((r.int).2).int).2.bs := by rw [Rdr.int_bs]; exact F27
  clear F27
  refine Ops.regs 1 [(0, (Value.pointer (some ⟨b, 0, none⟩))), (2, (Value.pointer (some ⟨b1, 0, none⟩))), (9, (agg [(i64 ((r.int).1)), (i64 ((((r.int).2).int).1)), (Value.slice none 0 0)]))] (j := 5) (by kernel_rfl) (by kernel_rfl) ?_
  refine Ops.new (o := rowL [(i64 0), (i64 0), (Value.slice none 0 0)] 46) (V := fun b => (Value.pointer (some ⟨b, 0, none⟩))) (by kernel_rfl) (d := (some 3)) (by kernel_rfl) (fun b => rfl) (fun b29 w30 hb31 H32 K33 hs34 => ?_)
  have lb29 : b1 < b29 := by have := H26.lt; omega
  have nb29 : w.heap.size ≤ b29 := by have := K25.size; omega
  have ob35 : ∀ i o s, A = some ⟨i, o, s⟩ → i ≠ b29 := fun i o s hi => by have := F28.2 i o s hi; omega
  have K36 := K25.trans K33 (U := (fun i => i = b)) (fun i h1 h2 => h2) (fun i h1 h2 => by exact h2.elim)
  clear K25
  have H37 := H22.keep K33 (fun h => h)
  clear H22
  have H38 := H26.keep K33 (fun h => h)
  clear H26
  have F39 := RdO.keep0 F28 K33
  clear F28
  clear K33 hs34
  refine Ops.put (t := 46) (b := b29) (off := 0) (v := (agg [(i64 ((r.int).1)), (i64 ((((r.int).2).int).1)), (Value.slice none 0 0)])) (ys := [(i64 ((r.int).1)), (i64 ((((r.int).2).int).1)), (Value.slice none 0 0)]) (by kernel_rfl) (by kernel_rfl) H32 (by kernel_rfl) (d := none) (by kernel_rfl) rfl (fun w40 H41 K42 => ?_)
  clear H32
  have K43 := K36.trans K42 (U := (fun i => i = b)) (fun i h1 h2 => h2) (fun i h1 h2 => by have h2 : i = b29 := h2; show i = b; omega)
  clear K36
  have H44 := H37.keep K42 (by intro h; change b = b29 at h; omega)
  clear H37
  have H45 := H38.keep K42 (by intro h; change b1 = b29 at h; omega)
  clear H38
  have F46 := RdO.keep F39 K42 (fun i _ _ hi hs => by have hs : i = b29 := hs; have := ob35 i _ _ hi; omega)
  clear F39
  clear K42
  refine Ops.done (by kernel_rfl) ?_
  refine q_seq (by kernel_rfl) ?_
  refine q_seq (by kernel_rfl) ?_
  refine q_region (by kernel_rfl) ?_
  refine Ops.regs 1 [(0, (Value.pointer (some ⟨b, 0, none⟩))), (2, (Value.pointer (some ⟨b1, 0, none⟩))), (3, (Value.pointer (some ⟨b29, 0, none⟩))), (10, (Value.pointer (some ⟨b, 0, none⟩)))] (j := 1) (by kernel_rfl) (by kernel_rfl) ?_
  refine Ops.call (by kernel_rfl) (d := (some 11)) (by kernel_rfl) (Count_calls _ b A c ((((r.int).2).int).2) hok23 H44 F46 hne 600 (by omega)) ?_
  rintro _ w47 ⟨rfl, K48, H49⟩
  have hok50 : (((((r.int).2).int).2).sized 600).2.Ok := Rdr.Ok.sized hok23 600
  have hu51 := Rdr.sized_le hok23 600
  have hu52 := Rdr.sized_lt ((((r.int).2).int).2) 600
  refine ⟨_, _, rfl, rfl, ?_⟩
  have K53 := K43.trans K48 (U := (fun i => i = b)) (fun i h1 h2 => h2) (fun i h1 h2 => by have h2 : i = b := h2; show i = b; omega)
  clear K43
  have H54 := H45.keep K48 (by intro h; change b1 = b at h; omega)
  clear H45
  have H55 := H41.keep K48 (by intro h; change b29 = b at h; omega)
  clear H41
  have F56 := RdO.keep F46 K48 (fun i _ _ hi hs => by have hs : i = b := hs; have := hne i _ _ hi; omega)
  clear F46
  clear K48
  have F57 : RdO w47 A c (((((r.int).2).int).2).sized 600).2.bs := by rw [Rdr.sized_bs]; exact F56
  clear F56
  refine Ops.regs 1 [(0, (Value.pointer (some ⟨b, 0, none⟩))), (2, (Value.pointer (some ⟨b1, 0, none⟩))), (3, (Value.pointer (some ⟨b29, 0, none⟩))), (11, (i64 (((((((r.int).2).int).2).sized 600).1 : Nat) : Int))), (12, (i64 0))] (j := 3) (by kernel_rfl) (by kernel_rfl) ?_
  refine Ops.done (by kernel_rfl) ?_
  refine q_block (id := 0) (by kernel_rfl) ?_
  refine q_keep (R := [(0, (Value.pointer (some ⟨b, 0, none⟩))), (2, (Value.pointer (some ⟨b1, 0, none⟩))), (3, (Value.pointer (some ⟨b29, 0, none⟩))), (11, (i64 (((((((r.int).2).int).2).sized 600).1 : Nat) : Int))), (12, (i64 0))]) (by kernel_rfl) ?_
  refine q_loop (fun (gs : (Option Addr) × Nat × Nat × (List RowM) × Rdr) L (wx : World) => match gs with | (VA, vc, i, l, R) => L = [(0, (Value.pointer (some ⟨b, 0, none⟩))), (2, (Value.pointer (some ⟨b1, 0, none⟩))), (3, (Value.pointer (some ⟨b29, 0, none⟩))), (11, (i64 (((((((r.int).2).int).2).sized 600).1 : Nat) : Int))), (12, (i64 ((i : Nat) : Int)))] ∧ RdO wx A c R.bs ∧ OwnR wx w.heap.size 82 (Value.slice VA l.length vc) l ∧ (∀ i, ((Value.slice VA l.length vc)).ownBlock = some i → i ≠ b) ∧ (∀ i, ((Value.slice VA l.length vc)).ownBlock = some i → i ≠ b1) ∧ (∀ i, ((Value.slice VA l.length vc)).ownBlock = some i → i ≠ b29) ∧ (∀ i o s, A = some ⟨i, o, s⟩ → ((Value.slice VA l.length vc)).ownBlock = some i → False) ∧ R.Ok ∧ l ++ (Rdr.rows (r.rhead.1 - i) R).1 = (Rdr.rows r.rhead.1 r.rhead.2).1 ∧ (Rdr.rows (r.rhead.1 - i) R).2 = (Rdr.rows r.rhead.1 r.rhead.2).2 ∧ i ≤ r.rhead.1 ∧ l.length = i ∧ Keeps (fun i => i = b) w wx ∧ Has wx b (rowL (rdrL A c R) 88) ∧ Has wx b1 (rowL [(i64 0), (i64 0), (Value.slice none 0 0)] 46) ∧ Has wx b29 (rowL [(i64 ((r.int).1)), (i64 ((((r.int).2).int).1)), (Value.slice VA l.length vc)] 46)) (fun (gs : (Option Addr) × Nat × Nat × (List RowM) × Rdr) => match gs with | (VA, vc, i, l, R) => r.rhead.1 - i) (none, 0, 0, [], (((((r.int).2).int).2).sized 600).2) (by kernel_rfl) ⟨rfl, F57, (OwnT.nil _ _ _ _ _), (fun i hi => by cases hi), (fun i hi => by cases hi), (fun i hi => by cases hi), (fun _ _ _ _ h => by cases h), hok50, rfl, rfl, Nat.zero_le _, rfl, K53, H49, H54, H55⟩ ?_
  clear H49 H54 H55 F57 K53
  rintro ⟨VA, vc, i, l, R⟩ _ w58 ⟨rfl, hRdA, hOV, obVb, obVb1, obVb29, ooVA, hokR, hE, hF, hi, hli, K59, H60, H61, H62⟩
  have hN : r.rhead.1 = (((((r.int).2).int).2).sized 600).1 := rfl
  have hle := r.rhead_le
  refine q_seq (by kernel_rfl) ?_
  refine q_region (by kernel_rfl) ?_
  refine Ops.regs 1 [(0, (Value.pointer (some ⟨b, 0, none⟩))), (2, (Value.pointer (some ⟨b1, 0, none⟩))), (3, (Value.pointer (some ⟨b29, 0, none⟩))), (11, (i64 (((((((r.int).2).int).2).sized 600).1 : Nat) : Int))), (12, (i64 ((i : Nat) : Int))), (13, (Value.bool (decide (((i : Nat) : Int) < (((((((r.int).2).int).2).sized 600).1 : Nat) : Int)))))] (j := 1) (by kernel_rfl) (by kernel_rfl) ?_
  refine Ops.done (by kernel_rfl) ?_
  refine q_seq (by kernel_rfl) ?_
  refine q_cond (o := .tmp 13) (b := (decide (((i : Nat) : Int) < (((((((r.int).2).int).2).sized 600).1 : Nat) : Int)))) (by kernel_rfl) rfl (fun h63 => ?_) (fun h63 => ?_)
  · rw [h63]
    have p64 : ((i : Nat) : Int) < (((((((r.int).2).int).2).sized 600).1 : Nat) : Int) := of_decide_eq_true h63
    refine q_skip (by kernel_rfl) ?_
    refine q_seq (by kernel_rfl) ?_
    refine q_block (id := 1) (by kernel_rfl) ?_
    refine q_seq (by kernel_rfl) ?_
    refine q_region (by kernel_rfl) ?_
    refine Ops.regs 1 [(0, (Value.pointer (some ⟨b, 0, none⟩))), (2, (Value.pointer (some ⟨b1, 0, none⟩))), (3, (Value.pointer (some ⟨b29, 0, none⟩))), (11, (i64 (((((((r.int).2).int).2).sized 600).1 : Nat) : Int))), (12, (i64 ((i : Nat) : Int))), (13, (Value.bool true)), (14, (Value.pointer (some ⟨b, 0, none⟩)))] (j := 1) (by kernel_rfl) (by kernel_rfl) ?_
    refine Ops.call (by kernel_rfl) (d := (some 15)) (by kernel_rfl) (RdText_calls _ b A c R hokR H60 hRdA hne ) ?_
    rintro _ w65 ⟨rfl, K66, H67⟩
    have hok68 : (R.bytes).2.Ok := Rdr.Ok.bytes hokR
    have hu69 := Rdr.bytes_le hokR
    refine ⟨_, _, rfl, rfl, ?_⟩
    have K70 := K59.trans K66 (U := (fun i => i = b)) (fun i h1 h2 => h2) (fun i h1 h2 => by have h2 : i = b := h2; show i = b; omega)
    clear K59
    have H71 := H61.keep K66 (by intro h; change b1 = b at h; omega)
    clear H61
    have H72 := H62.keep K66 (by intro h; change b29 = b at h; omega)
    clear H62
    have F73 := RdO.keep hRdA K66 (fun i _ _ hi hs => by have hs : i = b := hs; have := hne i _ _ hi; omega)
    clear hRdA
    have F74 := own_keep hOV K66 (fun i hi hs => by have hs : i = b := hs; have := obVb i hi; omega)
    clear hOV
    clear K66
    have F75 : RdO w65 A c (R.bytes).2.bs := by rw [Rdr.bytes_bs]; exact F73
    clear F73
    refine Ops.regs 1 [(0, (Value.pointer (some ⟨b, 0, none⟩))), (2, (Value.pointer (some ⟨b1, 0, none⟩))), (3, (Value.pointer (some ⟨b29, 0, none⟩))), (11, (i64 (((((((r.int).2).int).2).sized 600).1 : Nat) : Int))), (12, (i64 ((i : Nat) : Int))), (13, (Value.bool true)), (16, (agg [(Value.string (str (R.bytes).1)), (i64 0)]))] (j := 3) (by kernel_rfl) (by kernel_rfl) ?_
    refine Ops.new (o := rowL [(Value.string ByteArray.empty), (i64 0)] 82) (V := fun b => (Value.pointer (some ⟨b, 0, none⟩))) (by kernel_rfl) (d := (some 4)) (by kernel_rfl) (fun b => rfl) (fun b76 w77 hb78 H79 K80 hs81 => ?_)
    have lb76 : b29 < b76 := by have := H72.lt; omega
    have nb76 : w.heap.size ≤ b76 := by have := K70.size; omega
    have ob82 : ∀ i o s, A = some ⟨i, o, s⟩ → i ≠ b76 := fun i o s hi => by have := F75.2 i o s hi; omega
    have ob83 : ∀ i, ((Value.slice VA l.length vc)).ownBlock = some i → i < b76 := fun i hi => by have := (World.ownsRow.lt F74 i hi).2; omega
    have K84 := K70.trans K80 (U := (fun i => i = b)) (fun i h1 h2 => h2) (fun i h1 h2 => by exact h2.elim)
    clear K70
    have H85 := H67.keep K80 (fun h => h)
    clear H67
    have H86 := H71.keep K80 (fun h => h)
    clear H71
    have H87 := H72.keep K80 (fun h => h)
    clear H72
    have F88 := RdO.keep0 F75 K80
    clear F75
    have F89 := own_keep0 F74 K80
    clear F74
    clear K80 hs81
    refine Ops.put (t := 82) (b := b76) (off := 0) (v := (agg [(Value.string (str (R.bytes).1)), (i64 0)])) (ys := [(Value.string (str (R.bytes).1)), (i64 0)]) (by kernel_rfl) (by kernel_rfl) H79 (by kernel_rfl) (d := none) (by kernel_rfl) rfl (fun w90 H91 K92 => ?_)
    clear H79
    have K93 := K84.trans K92 (U := (fun i => i = b)) (fun i h1 h2 => h2) (fun i h1 h2 => by have h2 : i = b76 := h2; show i = b; omega)
    clear K84
    have H94 := H85.keep K92 (by intro h; change b = b76 at h; omega)
    clear H85
    have H95 := H86.keep K92 (by intro h; change b1 = b76 at h; omega)
    clear H86
    have H96 := H87.keep K92 (by intro h; change b29 = b76 at h; omega)
    clear H87
    have F97 := RdO.keep F88 K92 (fun i _ _ hi hs => by have hs : i = b76 := hs; have := ob82 i _ _ hi; omega)
    clear F88
    have F98 := own_keep F89 K92 (fun i hi hs => by have hs : i = b76 := hs; have := ob83 i hi; omega)
    clear F89
    clear K92
    refine Ops.done (by kernel_rfl) ?_
    refine q_seq (by kernel_rfl) ?_
    refine q_region (by kernel_rfl) ?_
    refine Ops.regs 1 [(0, (Value.pointer (some ⟨b, 0, none⟩))), (2, (Value.pointer (some ⟨b1, 0, none⟩))), (3, (Value.pointer (some ⟨b29, 0, none⟩))), (4, (Value.pointer (some ⟨b76, 0, none⟩))), (11, (i64 (((((((r.int).2).int).2).sized 600).1 : Nat) : Int))), (12, (i64 ((i : Nat) : Int))), (13, (Value.bool true)), (17, (Value.pointer (some ⟨b, 0, none⟩)))] (j := 1) (by kernel_rfl) (by kernel_rfl) ?_
    refine Ops.call (by kernel_rfl) (d := (some 18)) (by kernel_rfl) (RdInt_calls _ b A c ((R.bytes).2) hok68 H94 F97 hne ) ?_
    rintro _ w99 ⟨rfl, K100, H101⟩
    have hok102 : (((R.bytes).2).int).2.Ok := Rdr.Ok.int hok68
    have hu103 := Rdr.int_range ((R.bytes).2)
    refine ⟨_, _, rfl, rfl, ?_⟩
    have K104 := K93.trans K100 (U := (fun i => i = b)) (fun i h1 h2 => h2) (fun i h1 h2 => by have h2 : i = b := h2; show i = b; omega)
    clear K93
    have H105 := H95.keep K100 (by intro h; change b1 = b at h; omega)
    clear H95
    have H106 := H96.keep K100 (by intro h; change b29 = b at h; omega)
    clear H96
    have H107 := H91.keep K100 (by intro h; change b76 = b at h; omega)
    clear H91
    have F108 := RdO.keep F97 K100 (fun i _ _ hi hs => by have hs : i = b := hs; have := hne i _ _ hi; omega)
    clear F97
    have F109 := own_keep F98 K100 (fun i hi hs => by have hs : i = b := hs; have := obVb i hi; omega)
    clear F98
    clear K100
    have F110 : RdO w99 A c (((R.bytes).2).int).2.bs := by rw [Rdr.int_bs]; exact F108
    clear F108
    refine Ops.regs 1 [(0, (Value.pointer (some ⟨b, 0, none⟩))), (2, (Value.pointer (some ⟨b1, 0, none⟩))), (3, (Value.pointer (some ⟨b29, 0, none⟩))), (4, (Value.pointer (some ⟨b76, 0, none⟩))), (11, (i64 (((((((r.int).2).int).2).sized 600).1 : Nat) : Int))), (12, (i64 ((i : Nat) : Int))), (13, (Value.bool true)), (18, (i64 ((((R.bytes).2).int).1))), (19, (Value.pointer (some ⟨b76, 1, none⟩)))] (j := 3) (by kernel_rfl) (by kernel_rfl) ?_
    refine Ops.put (t := 2) (b := b76) (off := 1) (v := (i64 ((((R.bytes).2).int).1))) (ys := [(Value.string (str (R.bytes).1)), (i64 ((((R.bytes).2).int).1))]) (by kernel_rfl) (by kernel_rfl) H107 (by kernel_rfl) (d := none) (by kernel_rfl) rfl (fun w111 H112 K113 => ?_)
    clear H107
    have K114 := K104.trans K113 (U := (fun i => i = b)) (fun i h1 h2 => h2) (fun i h1 h2 => by have h2 : i = b76 := h2; show i = b; omega)
    clear K104
    have H115 := H101.keep K113 (by intro h; change b = b76 at h; omega)
    clear H101
    have H116 := H105.keep K113 (by intro h; change b1 = b76 at h; omega)
    clear H105
    have H117 := H106.keep K113 (by intro h; change b29 = b76 at h; omega)
    clear H106
    have F118 := RdO.keep F110 K113 (fun i _ _ hi hs => by have hs : i = b76 := hs; have := ob82 i _ _ hi; omega)
    clear F110
    have F119 := own_keep F109 K113 (fun i hi hs => by have hs : i = b76 := hs; have := ob83 i hi; omega)
    clear F109
    clear K113
    refine Ops.done (by kernel_rfl) ?_
    refine q_region (by kernel_rfl) ?_
    refine Ops.regs 1 [(0, (Value.pointer (some ⟨b, 0, none⟩))), (2, (Value.pointer (some ⟨b1, 0, none⟩))), (3, (Value.pointer (some ⟨b29, 0, none⟩))), (4, (Value.pointer (some ⟨b76, 0, none⟩))), (11, (i64 (((((((r.int).2).int).2).sized 600).1 : Nat) : Int))), (12, (i64 ((i : Nat) : Int))), (13, (Value.bool true)), (20, (Value.pointer (some ⟨b29, 2, none⟩)))] (j := 1) (by kernel_rfl) (by kernel_rfl) ?_
    refine Ops.go (v := (Value.slice VA l.length vc)) (by kernel_rfl) (Runs.load (t := 44) (a := ⟨b29, 2, none⟩) (by kernel_rfl) (H117.loads (by kernel_rfl))) (d := (some 21)) (by kernel_rfl) rfl ?_
    refine Ops.go (v := (agg [(Value.string (str (R.bytes).1)), (i64 ((((R.bytes).2).int).1))])) (by kernel_rfl) (Runs.load (t := 82) (a := ⟨b76, 0, none⟩) (by kernel_rfl) (H112.loads (by kernel_rfl))) (d := (some 22)) (by kernel_rfl) rfl ?_
    refine Ops.new (o := rowL [(Value.string (str (R.bytes).1)), (i64 ((((R.bytes).2).int).1))] 82) (V := fun b => (Value.slice (some ⟨b, 0, none⟩) 1 1)) (by kernel_rfl) (d := (some 23)) (by kernel_rfl) (fun b => rfl) (fun b120 w121 hb122 H123 K124 hs125 => ?_)
    have lb120 : b76 < b120 := by have := H112.lt; omega
    have nb120 : w.heap.size ≤ b120 := by have := K114.size; omega
    have ob126 : ∀ i o s, A = some ⟨i, o, s⟩ → i ≠ b120 := fun i o s hi => by have := F118.2 i o s hi; omega
    have ob127 : ∀ i, ((Value.slice VA l.length vc)).ownBlock = some i → i < b120 := fun i hi => by have := (World.ownsRow.lt F119 i hi).2; omega
    have K128 := K114.trans K124 (U := (fun i => i = b)) (fun i h1 h2 => h2) (fun i h1 h2 => by exact h2.elim)
    clear K114
    have H129 := H115.keep K124 (fun h => h)
    clear H115
    have H130 := H116.keep K124 (fun h => h)
    clear H116
    have H131 := H117.keep K124 (fun h => h)
    clear H117
    have H132 := H112.keep K124 (fun h => h)
    clear H112
    have F133 := RdO.keep0 F118 K124
    clear F118
    have F134 := own_keep0 F119 K124
    clear F119
    clear K124 hs125
    obtain ⟨v135, w136, hr137, hO138, hK139, hg140⟩ := OwnT.app (ty := 44) RowM.two RowM.one tyR F134 (show RdT _ 2 RowM.cells _ [(⟨(R.bytes).1, (((R.bytes).2).int).1⟩ : RowM)] from Rd.lit H123 (n := 1) rfl (by decide)) (by simp only [List.length_cons, List.length_nil]; omega) (by simp only [List.length_cons, List.length_nil]; omega) K128.size
    obtain ⟨A142, c143, rfl⟩ := RdT.form RowM.two (by decide) (OwnT.rd hO138)
    have ob144 : ∀ i, ((Value.slice A142 ((l ++ [(⟨(R.bytes).1, (((R.bytes).2).int).1⟩ : RowM)]).length) c143)).ownBlock = some i → i ≠ b := fun i hi => by rcases hg140 i hi with h | h; (have := obVb i h; omega); (have := H129.lt; omega)
    have ob145 : ∀ i, ((Value.slice A142 ((l ++ [(⟨(R.bytes).1, (((R.bytes).2).int).1⟩ : RowM)]).length) c143)).ownBlock = some i → i ≠ b1 := fun i hi => by rcases hg140 i hi with h | h; (have := obVb1 i h; omega); (have := H130.lt; omega)
    have ob146 : ∀ i, ((Value.slice A142 ((l ++ [(⟨(R.bytes).1, (((R.bytes).2).int).1⟩ : RowM)]).length) c143)).ownBlock = some i → i ≠ b29 := fun i hi => by rcases hg140 i hi with h | h; (have := obVb29 i h; omega); (have := H131.lt; omega)
    have ob147 : ∀ i, ((Value.slice A142 ((l ++ [(⟨(R.bytes).1, (((R.bytes).2).int).1⟩ : RowM)]).length) c143)).ownBlock = some i → i ≠ b76 := fun i hi => by rcases hg140 i hi with h | h; (have := ob83 i h; omega); (have := H132.lt; omega)
    have ob148 : ∀ i, ((Value.slice A142 ((l ++ [(⟨(R.bytes).1, (((R.bytes).2).int).1⟩ : RowM)]).length) c143)).ownBlock = some i → i ≠ b120 := fun i hi => by rcases hg140 i hi with h | h; (have := ob127 i h; omega); (have := H123.lt; omega)
    have oo149 : ∀ i o s, A = some ⟨i, o, s⟩ → ((Value.slice A142 ((l ++ [(⟨(R.bytes).1, (((R.bytes).2).int).1⟩ : RowM)]).length) c143)).ownBlock = some i → False := fun i o s hi hs => by rcases hg140 i hs with h | h; (exact ooVA i o s hi h); (have := F133.2 i o s hi; omega)
    have K141 := hK139
    refine Ops.go (v := (Value.slice A142 ((l ++ [(⟨(R.bytes).1, (((R.bytes).2).int).1⟩ : RowM)]).length) c143)) (by kernel_rfl) (Runs.append (ts := #[44, 44]) (ty := 44) (vs := [(Value.slice VA l.length vc), (Value.slice (some ⟨b120, 0, none⟩) 1 1)]) (by kernel_rfl) hr137) (d := (some 24)) (by kernel_rfl) rfl ?_
    have K150 := K128.trans K141 (U := (fun i => i = b)) (fun i h1 h2 => h2) (fun i h1 h2 => by have h2 : ((Value.slice VA l.length vc)).ownBlock = some i := h2; exfalso; have := (World.ownsRow.lt F134 i h2).1; omega)
    clear K128
    have H151 := H129.keep K141 (by intro h; change ((Value.slice VA l.length vc)).ownBlock = some b at h; have := obVb b h; omega)
    clear H129
    have H152 := H130.keep K141 (by intro h; change ((Value.slice VA l.length vc)).ownBlock = some b1 at h; have := obVb1 b1 h; omega)
    clear H130
    have H153 := H131.keep K141 (by intro h; change ((Value.slice VA l.length vc)).ownBlock = some b29 at h; have := obVb29 b29 h; omega)
    clear H131
    have H154 := H132.keep K141 (by intro h; change ((Value.slice VA l.length vc)).ownBlock = some b76 at h; have := ob83 b76 h; omega)
    clear H132
    have H155 := H123.keep K141 (by intro h; change ((Value.slice VA l.length vc)).ownBlock = some b120 at h; have := ob127 b120 h; omega)
    clear H123
    have F156 := RdO.keep F133 K141 (fun i _ _ hi hs => by have hs : ((Value.slice VA l.length vc)).ownBlock = some i := hs; exact ooVA i _ _ hi hs)
    clear F133
    clear F134
    clear K141 hr137 hK139 hg140
    refine Ops.regs 1 [(0, (Value.pointer (some ⟨b, 0, none⟩))), (2, (Value.pointer (some ⟨b1, 0, none⟩))), (3, (Value.pointer (some ⟨b29, 0, none⟩))), (4, (Value.pointer (some ⟨b76, 0, none⟩))), (11, (i64 (((((((r.int).2).int).2).sized 600).1 : Nat) : Int))), (12, (i64 ((i : Nat) : Int))), (13, (Value.bool true)), (24, (Value.slice A142 ((l ++ [(⟨(R.bytes).1, (((R.bytes).2).int).1⟩ : RowM)]).length) c143)), (25, (Value.pointer (some ⟨b29, 2, none⟩)))] (j := 6) (by kernel_rfl) (by kernel_rfl) ?_
    refine Ops.put (t := 44) (b := b29) (off := 2) (v := (Value.slice A142 ((l ++ [(⟨(R.bytes).1, (((R.bytes).2).int).1⟩ : RowM)]).length) c143)) (ys := [(i64 ((r.int).1)), (i64 ((((r.int).2).int).1)), (Value.slice A142 ((l ++ [(⟨(R.bytes).1, (((R.bytes).2).int).1⟩ : RowM)]).length) c143)]) (by kernel_rfl) (by kernel_rfl) H153 (by kernel_rfl) (d := none) (by kernel_rfl) rfl (fun w157 H158 K159 => ?_)
    clear H153
    have K160 := K150.trans K159 (U := (fun i => i = b)) (fun i h1 h2 => h2) (fun i h1 h2 => by have h2 : i = b29 := h2; show i = b; omega)
    clear K150
    have H161 := H151.keep K159 (by intro h; change b = b29 at h; omega)
    clear H151
    have H162 := H152.keep K159 (by intro h; change b1 = b29 at h; omega)
    clear H152
    have H163 := H154.keep K159 (by intro h; change b76 = b29 at h; omega)
    clear H154
    have H164 := H155.keep K159 (by intro h; change b120 = b29 at h; omega)
    clear H155
    have F165 := RdO.keep F156 K159 (fun i _ _ hi hs => by have hs : i = b29 := hs; have := ob35 i _ _ hi; omega)
    clear F156
    have F166 := own_keep hO138 K159 (fun i hi hs => by have hs : i = b29 := hs; have := ob146 i hi; omega)
    clear hO138
    clear K159
    refine Ops.done (by kernel_rfl) ?_
    refine q_region (by kernel_rfl) ?_
    refine Ops.regs 1 [(0, (Value.pointer (some ⟨b, 0, none⟩))), (2, (Value.pointer (some ⟨b1, 0, none⟩))), (3, (Value.pointer (some ⟨b29, 0, none⟩))), (4, (Value.pointer (some ⟨b76, 0, none⟩))), (11, (i64 (((((((r.int).2).int).2).sized 600).1 : Nat) : Int))), (12, (i64 ((i : Nat) : Int))), (13, (Value.bool true)), (26, (i64 (IntKind.i64.wrap (((i : Nat) : Int) + 1))))] (j := 1) (by kernel_rfl) (by kernel_rfl) ?_
    have e167 : IntKind.i64.wrap (((i : Nat) : Int) + 1) = ((i + 1 : Nat) : Int) := by rw [wrap_i64 (by omega) (by omega)]; omega
    rw [e167]
    clear e167
    refine Ops.regs 1 [(0, (Value.pointer (some ⟨b, 0, none⟩))), (2, (Value.pointer (some ⟨b1, 0, none⟩))), (3, (Value.pointer (some ⟨b29, 0, none⟩))), (4, (Value.pointer (some ⟨b76, 0, none⟩))), (11, (i64 (((((((r.int).2).int).2).sized 600).1 : Nat) : Int))), (12, (i64 ((i + 1 : Nat) : Int))), (13, (Value.bool true))] (j := 2) (by kernel_rfl) (by kernel_rfl) ?_
    refine Ops.keep (R := [(0, (Value.pointer (some ⟨b, 0, none⟩))), (2, (Value.pointer (some ⟨b1, 0, none⟩))), (3, (Value.pointer (some ⟨b29, 0, none⟩))), (11, (i64 (((((((r.int).2).int).2).sized 600).1 : Nat) : Int))), (12, (i64 ((i + 1 : Nat) : Int)))]) (by kernel_rfl) ?_
    refine Ops.done (by kernel_rfl) ?_
    exact ⟨(A142, c143, i + 1, l ++ [(⟨(R.bytes).1, (((R.bytes).2).int).1⟩ : RowM)], (((R.bytes).2).int).2), ⟨rfl, F165, F166, ob144, ob145, ob146, oo149, hok102, (Rdr.rows_next hE hF (by omega)).1, (Rdr.rows_next hE hF (by omega)).2, (by omega), (by simp [hli]), K160, H161, H162, H158⟩, (show r.rhead.1 - (i + 1) < r.rhead.1 - i from by omega)⟩
  · rw [h63]
    have p168 : ¬ (((i : Nat) : Int) < (((((((r.int).2).int).2).sized 600).1 : Nat) : Int)) := of_decide_eq_false h63
    refine q_exit (id := 0) (by kernel_rfl) ?_
    refine q_seq (by kernel_rfl) ?_
    refine q_region (by kernel_rfl) ?_
    refine Ops.go (v := (agg [(i64 ((r.int).1)), (i64 ((((r.int).2).int).1)), (Value.slice VA l.length vc)])) (by kernel_rfl) (Runs.load (t := 46) (a := ⟨b29, 0, none⟩) (by kernel_rfl) (H62.loads (by kernel_rfl))) (d := (some 27)) (by kernel_rfl) rfl ?_
    refine Ops.put (t := 46) (b := b1) (off := 0) (v := (agg [(i64 ((r.int).1)), (i64 ((((r.int).2).int).1)), (Value.slice VA l.length vc)])) (ys := [(i64 ((r.int).1)), (i64 ((((r.int).2).int).1)), (Value.slice VA l.length vc)]) (by kernel_rfl) (by kernel_rfl) H61 (by kernel_rfl) (d := none) (by kernel_rfl) rfl (fun w169 H170 K171 => ?_)
    clear H61
    have K172 := K59.trans K171 (U := (fun i => i = b)) (fun i h1 h2 => h2) (fun i h1 h2 => by have h2 : i = b1 := h2; show i = b; omega)
    clear K59
    have H173 := H60.keep K171 (by intro h; change b = b1 at h; omega)
    clear H60
    have H174 := H62.keep K171 (by intro h; change b29 = b1 at h; omega)
    clear H62
    have F175 := RdO.keep hRdA K171 (fun i _ _ hi hs => by have hs : i = b1 := hs; have := ob7 i _ _ hi; omega)
    clear hRdA
    have F176 := own_keep hOV K171 (fun i hi hs => by have hs : i = b1 := hs; have := obVb1 i hi; omega)
    clear hOV
    clear K171
    refine Ops.done (by kernel_rfl) ?_
    refine q_ret (by kernel_rfl) ?_
    refine ⟨(agg [(i64 ((r.int).1)), (i64 ((((r.int).2).int).1)), (Value.slice VA l.length vc)]), retv_cell rfl rfl (H170.loads (by kernel_rfl)), ?_⟩
    have hd := Rdr.rows_done hE hF (by omega)
    have e : r.reply = (⟨r.int.1, r.int.2.int.1, l⟩, R) := by show ((⟨r.int.1, r.int.2.int.1, (Rdr.rows r.rhead.1 r.rhead.2).1⟩ : ReplyM), (Rdr.rows r.rhead.1 r.rhead.2).2) = _; rw [hd.1, hd.2]
    exact ⟨_, _, by rw [e], K172, by rw [e]; exact F176, by rw [e]; exact H173⟩

theorem RGetReply_calls (w : World) (b : Nat) (A : Option Addr) (c : Nat) (r : Rdr) (hok : r.Ok) (H0 : Has w b (rowL (rdrL A c r) 72)) (hR : RdO w A c r.bs) (hne : ∀ g o s, A = some ⟨g, o, s⟩ → g ≠ b) : Calls Try.prog 75 ⟨[(Value.pointer (some ⟨b, 0, none⟩))]⟩ w (fun e w' => ∃ A' c', e = .returned (agg [i64 r.reply.1.why, i64 r.reply.1.amount, .slice A' r.reply.1.rows.length c']) ∧ Keeps (fun i => i = b) w w' ∧ OwnR w' w.heap.size 82 (.slice A' r.reply.1.rows.length c') r.reply.1.rows ∧ Has w' b (rowL (rdrL A c r.reply.2) 72)) := by
  have hpos := hok.pos
  have hlen := hok.len
  have hsc := r.scan_le
  have hdl : (r.bs.drop r.pos).length = r.bs.length - r.pos := List.length_drop
  have hcap := hR.1.slice
  have Hb := H0.lt
  have K0 : Keeps (fun i => i = b) w w := (Keeps.refl w).mono (fun _ _ h => h.elim)
  refine q_calls Try.func75 (by kernel_rfl) (by kernel_rfl) ?_
  refine q_seq (by kernel_rfl) ?_
  refine q_region (by kernel_rfl) ?_
  refine Ops.new (o := rowL [(i64 0), (i64 0), (Value.slice none 0 0)] 46) (V := fun b => (Value.pointer (some ⟨b, 0, none⟩))) (by kernel_rfl) (d := (some 2)) (by kernel_rfl) (fun b => rfl) (fun b1 w2 hb3 H4 K5 hs6 => ?_)
  have lb1 : b < b1 := by have := H0.lt; omega
  have nb1 : w.heap.size ≤ b1 := by have := K0.size; omega
  have ob7 : ∀ i o s, A = some ⟨i, o, s⟩ → i ≠ b1 := fun i o s hi => by have := hR.2 i o s hi; omega
  have K8 := K0.trans K5 (U := (fun i => i = b)) (fun i h1 h2 => h2) (fun i h1 h2 => by exact h2.elim)
  clear K0
  have H9 := H0.keep K5 (fun h => h)
  clear H0
  have F10 := RdO.keep0 hR K5
  clear hR
  clear K5 hs6
  refine Ops.done (by kernel_rfl) ?_
  refine q_seq (by kernel_rfl) ?_
  refine q_region (by kernel_rfl) ?_
  refine Ops.new (o := rowL [(i64 0), (i64 0), (Value.slice none 0 0)] 46) (V := fun b => (Value.pointer (some ⟨b, 0, none⟩))) (by kernel_rfl) (d := (some 3)) (by kernel_rfl) (fun b => rfl) (fun b11 w12 hb13 H14 K15 hs16 => ?_)
  have lb11 : b1 < b11 := by have := H4.lt; omega
  have nb11 : w.heap.size ≤ b11 := by have := K8.size; omega
  have ob17 : ∀ i o s, A = some ⟨i, o, s⟩ → i ≠ b11 := fun i o s hi => by have := F10.2 i o s hi; omega
  have K18 := K8.trans K15 (U := (fun i => i = b)) (fun i h1 h2 => h2) (fun i h1 h2 => by exact h2.elim)
  clear K8
  have H19 := H9.keep K15 (fun h => h)
  clear H9
  have H20 := H4.keep K15 (fun h => h)
  clear H4
  have F21 := RdO.keep0 F10 K15
  clear F10
  clear K15 hs16
  refine Ops.done (by kernel_rfl) ?_
  refine q_seq (by kernel_rfl) ?_
  refine q_region (by kernel_rfl) ?_
  refine Ops.regs 1 [(0, (Value.pointer (some ⟨b, 0, none⟩))), (2, (Value.pointer (some ⟨b1, 0, none⟩))), (3, (Value.pointer (some ⟨b11, 0, none⟩))), (7, (Value.pointer (some ⟨b, 0, none⟩)))] (j := 1) (by kernel_rfl) (by kernel_rfl) ?_
  refine Ops.call (by kernel_rfl) (d := (some 8)) (by kernel_rfl) (RRInt_calls _ b A c r hok H19 F21 hne ) ?_
  rintro _ w22 ⟨rfl, K23, H24⟩
  have hok25 : (r.int).2.Ok := Rdr.Ok.int hok
  have hu26 := Rdr.int_range r
  refine ⟨_, _, rfl, rfl, ?_⟩
  have K27 := K18.trans K23 (U := (fun i => i = b)) (fun i h1 h2 => h2) (fun i h1 h2 => by have h2 : i = b := h2; show i = b; omega)
  clear K18
  have H28 := H20.keep K23 (by intro h; change b1 = b at h; omega)
  clear H20
  have H29 := H14.keep K23 (by intro h; change b11 = b at h; omega)
  clear H14
  have F30 := RdO.keep F21 K23 (fun i _ _ hi hs => by have hs : i = b := hs; have := hne i _ _ hi; omega)
  clear F21
  clear K23
  have F31 : RdO w22 A c (r.int).2.bs := by rw [Rdr.int_bs]; exact F30
  clear F30
  refine Ops.regs 1 [(0, (Value.pointer (some ⟨b, 0, none⟩))), (2, (Value.pointer (some ⟨b1, 0, none⟩))), (3, (Value.pointer (some ⟨b11, 0, none⟩))), (8, (i64 ((r.int).1))), (9, (Value.pointer (some ⟨b11, 0, none⟩)))] (j := 3) (by kernel_rfl) (by kernel_rfl) ?_
  refine Ops.put (t := 28) (b := b11) (off := 0) (v := (i64 ((r.int).1))) (ys := [(i64 ((r.int).1)), (i64 0), (Value.slice none 0 0)]) (by kernel_rfl) (by kernel_rfl) H29 (by kernel_rfl) (d := none) (by kernel_rfl) rfl (fun w32 H33 K34 => ?_)
  clear H29
  have K35 := K27.trans K34 (U := (fun i => i = b)) (fun i h1 h2 => h2) (fun i h1 h2 => by have h2 : i = b11 := h2; show i = b; omega)
  clear K27
  have H36 := H24.keep K34 (by intro h; change b = b11 at h; omega)
  clear H24
  have H37 := H28.keep K34 (by intro h; change b1 = b11 at h; omega)
  clear H28
  have F38 := RdO.keep F31 K34 (fun i _ _ hi hs => by have hs : i = b11 := hs; have := ob17 i _ _ hi; omega)
  clear F31
  clear K34
  refine Ops.done (by kernel_rfl) ?_
  refine q_seq (by kernel_rfl) ?_
  refine q_region (by kernel_rfl) ?_
  refine Ops.regs 1 [(0, (Value.pointer (some ⟨b, 0, none⟩))), (2, (Value.pointer (some ⟨b1, 0, none⟩))), (3, (Value.pointer (some ⟨b11, 0, none⟩))), (10, (Value.pointer (some ⟨b, 0, none⟩)))] (j := 1) (by kernel_rfl) (by kernel_rfl) ?_
  refine Ops.call (by kernel_rfl) (d := (some 11)) (by kernel_rfl) (RRInt_calls _ b A c ((r.int).2) hok25 H36 F38 hne ) ?_
  rintro _ w39 ⟨rfl, K40, H41⟩
  have hok42 : (((r.int).2).int).2.Ok := Rdr.Ok.int hok25
  have hu43 := Rdr.int_range ((r.int).2)
  refine ⟨_, _, rfl, rfl, ?_⟩
  have K44 := K35.trans K40 (U := (fun i => i = b)) (fun i h1 h2 => h2) (fun i h1 h2 => by have h2 : i = b := h2; show i = b; omega)
  clear K35
  have H45 := H37.keep K40 (by intro h; change b1 = b at h; omega)
  clear H37
  have H46 := H33.keep K40 (by intro h; change b11 = b at h; omega)
  clear H33
  have F47 := RdO.keep F38 K40 (fun i _ _ hi hs => by have hs : i = b := hs; have := hne i _ _ hi; omega)
  clear F38
  clear K40
  have F48 : RdO w39 A c (((r.int).2).int).2.bs := by rw [Rdr.int_bs]; exact F47
  clear F47
  refine Ops.regs 1 [(0, (Value.pointer (some ⟨b, 0, none⟩))), (2, (Value.pointer (some ⟨b1, 0, none⟩))), (3, (Value.pointer (some ⟨b11, 0, none⟩))), (11, (i64 ((((r.int).2).int).1))), (12, (Value.pointer (some ⟨b11, 1, none⟩)))] (j := 3) (by kernel_rfl) (by kernel_rfl) ?_
  refine Ops.put (t := 2) (b := b11) (off := 1) (v := (i64 ((((r.int).2).int).1))) (ys := [(i64 ((r.int).1)), (i64 ((((r.int).2).int).1)), (Value.slice none 0 0)]) (by kernel_rfl) (by kernel_rfl) H46 (by kernel_rfl) (d := none) (by kernel_rfl) rfl (fun w49 H50 K51 => ?_)
  clear H46
  have K52 := K44.trans K51 (U := (fun i => i = b)) (fun i h1 h2 => h2) (fun i h1 h2 => by have h2 : i = b11 := h2; show i = b; omega)
  clear K44
  have H53 := H41.keep K51 (by intro h; change b = b11 at h; omega)
  clear H41
  have H54 := H45.keep K51 (by intro h; change b1 = b11 at h; omega)
  clear H45
  have F55 := RdO.keep F48 K51 (fun i _ _ hi hs => by have hs : i = b11 := hs; have := ob17 i _ _ hi; omega)
  clear F48
  clear K51
  refine Ops.done (by kernel_rfl) ?_
  refine q_seq (by kernel_rfl) ?_
  refine q_region (by kernel_rfl) ?_
  refine Ops.regs 1 [(0, (Value.pointer (some ⟨b, 0, none⟩))), (2, (Value.pointer (some ⟨b1, 0, none⟩))), (3, (Value.pointer (some ⟨b11, 0, none⟩))), (13, (Value.pointer (some ⟨b, 0, none⟩)))] (j := 1) (by kernel_rfl) (by kernel_rfl) ?_
  refine Ops.call (by kernel_rfl) (d := (some 14)) (by kernel_rfl) (RRCount_calls _ b A c ((((r.int).2).int).2) hok42 H53 F55 hne 600 (by omega)) ?_
  rintro _ w56 ⟨rfl, K57, H58⟩
  have hok59 : (((((r.int).2).int).2).sized 600).2.Ok := Rdr.Ok.sized hok42 600
  have hu60 := Rdr.sized_le hok42 600
  have hu61 := Rdr.sized_lt ((((r.int).2).int).2) 600
  refine ⟨_, _, rfl, rfl, ?_⟩
  have K62 := K52.trans K57 (U := (fun i => i = b)) (fun i h1 h2 => h2) (fun i h1 h2 => by have h2 : i = b := h2; show i = b; omega)
  clear K52
  have H63 := H54.keep K57 (by intro h; change b1 = b at h; omega)
  clear H54
  have H64 := H50.keep K57 (by intro h; change b11 = b at h; omega)
  clear H50
  have F65 := RdO.keep F55 K57 (fun i _ _ hi hs => by have hs : i = b := hs; have := hne i _ _ hi; omega)
  clear F55
  clear K57
  have F66 : RdO w56 A c (((((r.int).2).int).2).sized 600).2.bs := by rw [Rdr.sized_bs]; exact F65
  clear F65
  refine Ops.regs 1 [(0, (Value.pointer (some ⟨b, 0, none⟩))), (2, (Value.pointer (some ⟨b1, 0, none⟩))), (3, (Value.pointer (some ⟨b11, 0, none⟩))), (4, (i64 (((((((r.int).2).int).2).sized 600).1 : Nat) : Int)))] (j := 3) (by kernel_rfl) (by kernel_rfl) ?_
  refine Ops.done (by kernel_rfl) ?_
  refine q_seq (by kernel_rfl) ?_
  refine q_seq (by kernel_rfl) ?_
  refine q_region (by kernel_rfl) ?_
  refine Ops.regs 1 [(0, (Value.pointer (some ⟨b, 0, none⟩))), (2, (Value.pointer (some ⟨b1, 0, none⟩))), (3, (Value.pointer (some ⟨b11, 0, none⟩))), (4, (i64 (((((((r.int).2).int).2).sized 600).1 : Nat) : Int))), (5, (i64 0))] (j := 1) (by kernel_rfl) (by kernel_rfl) ?_
  refine Ops.done (by kernel_rfl) ?_
  refine q_block (id := 0) (by kernel_rfl) ?_
  refine q_keep (R := [(0, (Value.pointer (some ⟨b, 0, none⟩))), (2, (Value.pointer (some ⟨b1, 0, none⟩))), (3, (Value.pointer (some ⟨b11, 0, none⟩))), (4, (i64 (((((((r.int).2).int).2).sized 600).1 : Nat) : Int))), (5, (i64 0))]) (by kernel_rfl) ?_
  refine q_loop (fun (gs : (Option Addr) × Nat × Nat × (List RowM) × Rdr) L (wx : World) => match gs with | (VA, vc, i, l, R) => L = [(0, (Value.pointer (some ⟨b, 0, none⟩))), (2, (Value.pointer (some ⟨b1, 0, none⟩))), (3, (Value.pointer (some ⟨b11, 0, none⟩))), (4, (i64 (((((((r.int).2).int).2).sized 600).1 : Nat) : Int))), (5, (i64 ((i : Nat) : Int)))] ∧ RdO wx A c R.bs ∧ OwnR wx w.heap.size 82 (Value.slice VA l.length vc) l ∧ (∀ i, ((Value.slice VA l.length vc)).ownBlock = some i → i ≠ b) ∧ (∀ i, ((Value.slice VA l.length vc)).ownBlock = some i → i ≠ b1) ∧ (∀ i, ((Value.slice VA l.length vc)).ownBlock = some i → i ≠ b11) ∧ (∀ i o s, A = some ⟨i, o, s⟩ → ((Value.slice VA l.length vc)).ownBlock = some i → False) ∧ R.Ok ∧ l ++ (Rdr.rows (r.rhead.1 - i) R).1 = (Rdr.rows r.rhead.1 r.rhead.2).1 ∧ (Rdr.rows (r.rhead.1 - i) R).2 = (Rdr.rows r.rhead.1 r.rhead.2).2 ∧ i ≤ r.rhead.1 ∧ l.length = i ∧ Keeps (fun i => i = b) w wx ∧ Has wx b (rowL (rdrL A c R) 72) ∧ Has wx b1 (rowL [(i64 0), (i64 0), (Value.slice none 0 0)] 46) ∧ Has wx b11 (rowL [(i64 ((r.int).1)), (i64 ((((r.int).2).int).1)), (Value.slice VA l.length vc)] 46)) (fun (gs : (Option Addr) × Nat × Nat × (List RowM) × Rdr) => match gs with | (VA, vc, i, l, R) => r.rhead.1 - i) (none, 0, 0, [], (((((r.int).2).int).2).sized 600).2) (by kernel_rfl) ⟨rfl, F66, (OwnT.nil _ _ _ _ _), (fun i hi => by cases hi), (fun i hi => by cases hi), (fun i hi => by cases hi), (fun _ _ _ _ h => by cases h), hok59, rfl, rfl, Nat.zero_le _, rfl, K62, H58, H63, H64⟩ ?_
  clear H58 H63 H64 F66 K62
  rintro ⟨VA, vc, i, l, R⟩ _ w67 ⟨rfl, hRdA, hOV, obVb, obVb1, obVb11, ooVA, hokR, hE, hF, hi, hli, K68, H69, H70, H71⟩
  have hN : r.rhead.1 = (((((r.int).2).int).2).sized 600).1 := rfl
  have hle := r.rhead_le
  refine q_seq (by kernel_rfl) ?_
  refine q_seq (by kernel_rfl) ?_
  refine q_region (by kernel_rfl) ?_
  refine Ops.regs 3 [(0, (Value.pointer (some ⟨b, 0, none⟩))), (2, (Value.pointer (some ⟨b1, 0, none⟩))), (3, (Value.pointer (some ⟨b11, 0, none⟩))), (4, (i64 (((((((r.int).2).int).2).sized 600).1 : Nat) : Int))), (5, (i64 ((i : Nat) : Int))), (17, (Value.bool (decide (((i : Nat) : Int) < (((((((r.int).2).int).2).sized 600).1 : Nat) : Int)))))] (j := 3) (by kernel_rfl) (by kernel_rfl) ?_
  refine Ops.done (by kernel_rfl) ?_
  refine q_cond (o := .tmp 17) (b := (decide (((i : Nat) : Int) < (((((((r.int).2).int).2).sized 600).1 : Nat) : Int)))) (by kernel_rfl) rfl (fun h72 => ?_) (fun h72 => ?_)
  · rw [h72]
    have p73 : ((i : Nat) : Int) < (((((((r.int).2).int).2).sized 600).1 : Nat) : Int) := of_decide_eq_true h72
    refine q_skip (by kernel_rfl) ?_
    refine q_seq (by kernel_rfl) ?_
    refine q_block (id := 1) (by kernel_rfl) ?_
    refine q_seq (by kernel_rfl) ?_
    refine q_region (by kernel_rfl) ?_
    refine Ops.regs 1 [(0, (Value.pointer (some ⟨b, 0, none⟩))), (2, (Value.pointer (some ⟨b1, 0, none⟩))), (3, (Value.pointer (some ⟨b11, 0, none⟩))), (4, (i64 (((((((r.int).2).int).2).sized 600).1 : Nat) : Int))), (5, (i64 ((i : Nat) : Int))), (17, (Value.bool true)), (20, (Value.pointer (some ⟨b, 0, none⟩)))] (j := 1) (by kernel_rfl) (by kernel_rfl) ?_
    refine Ops.call (by kernel_rfl) (d := (some 21)) (by kernel_rfl) (RRText_calls _ b A c R hokR H69 hRdA hne ) ?_
    rintro _ w74 ⟨rfl, K75, H76⟩
    have hok77 : (R.bytes).2.Ok := Rdr.Ok.bytes hokR
    have hu78 := Rdr.bytes_le hokR
    refine ⟨_, _, rfl, rfl, ?_⟩
    have K79 := K68.trans K75 (U := (fun i => i = b)) (fun i h1 h2 => h2) (fun i h1 h2 => by have h2 : i = b := h2; show i = b; omega)
    clear K68
    have H80 := H70.keep K75 (by intro h; change b1 = b at h; omega)
    clear H70
    have H81 := H71.keep K75 (by intro h; change b11 = b at h; omega)
    clear H71
    have F82 := RdO.keep hRdA K75 (fun i _ _ hi hs => by have hs : i = b := hs; have := hne i _ _ hi; omega)
    clear hRdA
    have F83 := own_keep hOV K75 (fun i hi hs => by have hs : i = b := hs; have := obVb i hi; omega)
    clear hOV
    clear K75
    have F84 : RdO w74 A c (R.bytes).2.bs := by rw [Rdr.bytes_bs]; exact F82
    clear F82
    refine Ops.regs 1 [(0, (Value.pointer (some ⟨b, 0, none⟩))), (2, (Value.pointer (some ⟨b1, 0, none⟩))), (3, (Value.pointer (some ⟨b11, 0, none⟩))), (4, (i64 (((((((r.int).2).int).2).sized 600).1 : Nat) : Int))), (5, (i64 ((i : Nat) : Int))), (6, (Value.string (str (R.bytes).1))), (17, (Value.bool true))] (j := 3) (by kernel_rfl) (by kernel_rfl) ?_
    refine Ops.done (by kernel_rfl) ?_
    refine q_draw (fun wz => Keeps (fun i => ((Value.slice VA l.length vc)).ownBlock = some i ∨ i = b ∨ i = b11) w74 wz) 10 (by kernel_rfl) (by kernel_rfl) (by kernel_rfl) (fun w85 K86 _ _ => ⟨(K86.mono (fun _ _ h => h.elim)), ?_⟩)
    have K87 := K79.trans K86 (U := (fun i => i = b)) (fun i h1 h2 => h2) (fun i h1 h2 => by exact h2.elim)
    clear K79
    have H88 := H76.keep K86 (fun h => h)
    clear H76
    have H89 := H80.keep K86 (fun h => h)
    clear H80
    have H90 := H81.keep K86 (fun h => h)
    clear H81
    have F91 := RdO.keep0 F84 K86
    clear F84
    have F92 := own_keep0 F83 K86
    clear F83
    refine Dr.strong (S' := (fun wz => Keeps (fun i => ((Value.slice VA l.length vc)).ownBlock = some i ∨ i = b ∨ i = b11) w85 wz)) ((Keeps.refl w85).mono (fun _ _ h => h.elim)) (fun wz hx => K86.trans hx (fun i _ h => h.elim) (fun _ _ h => h)) ?_
    clear K86
    refine Dr.takes (fuel' := 7) (is' := [3, 2, 0]) [0, 2, 3] [(0, (Value.pointer (some ⟨b, 0, none⟩))), (2, (Value.pointer (some ⟨b1, 0, none⟩))), (3, (Value.pointer (some ⟨b11, 0, none⟩))), (4, (i64 (((((((r.int).2).int).2).sized 600).1 : Nat) : Int))), (5, (i64 ((i : Nat) : Int))), (6, (Value.string (str (R.bytes).1))), (17, (Value.bool true)), (22, (Value.pointer (some ⟨b11, 2, none⟩))), (24, (Value.string (str (R.bytes).1))), (25, (Value.pointer (some ⟨b, 0, none⟩)))] (by kernel_rfl) rfl (by kernel_rfl) ?_
    refine Dr.float [(0, (Value.pointer (some ⟨b, 0, none⟩))), (2, (Value.pointer (some ⟨b1, 0, none⟩))), (3, (Value.pointer (some ⟨b11, 0, none⟩))), (4, (i64 (((((((r.int).2).int).2).sized 600).1 : Nat) : Int))), (5, (i64 ((i : Nat) : Int))), (6, (Value.string (str (R.bytes).1))), (17, (Value.bool true)), (23, (Value.slice VA l.length vc)), (24, (Value.string (str (R.bytes).1))), (25, (Value.pointer (some ⟨b, 0, none⟩)))] 1 ?_
    refine DrB.call (i := 1) (j := 4) (t := 44) (a := ⟨b11, 2, none⟩) (v := (Value.slice VA l.length vc)) (by kernel_rfl) (.inl rfl) (by kernel_rfl) (by kernel_rfl) (by kernel_rfl) (by kernel_rfl) (di := (some 23)) (by kernel_rfl) (by kernel_rfl) (by kernel_rfl) (by kernel_rfl) (dj := (some 26)) (by kernel_rfl) (H90.loads (by kernel_rfl)) ((Keeps.refl _).mono (fun _ _ h => h.elim)) (RRInt_calls _ b A c ((R.bytes).2) hok77 H88 F91 hne ) ?_
    rintro _ w93 ⟨rfl, K94, H95⟩
    have hok96 : (((R.bytes).2).int).2.Ok := Rdr.Ok.int hok77
    have hu97 := Rdr.int_range ((R.bytes).2)
    have K98 := K87.trans K94 (U := (fun i => i = b)) (fun i h1 h2 => h2) (fun i h1 h2 => by have h2 : i = b := h2; show i = b; omega)
    clear K87
    have H99 := H89.keep K94 (by intro h; change b1 = b at h; omega)
    clear H89
    have H100 := H90.keep K94 (by intro h; change b11 = b at h; omega)
    clear H90
    have F101 := RdO.keep F91 K94 (fun i _ _ hi hs => by have hs : i = b := hs; have := hne i _ _ hi; omega)
    clear F91
    have F102 := own_keep F92 K94 (fun i hi hs => by have hs : i = b := hs; have := obVb i hi; omega)
    clear F92
    refine ⟨_, _, _, rfl, (K94.mono (fun i _ h => by have h : i = b := h; show ((Value.slice VA l.length vc)).ownBlock = some i ∨ i = b ∨ i = b11; exact (.inr (.inl h)))), rfl, rfl, ?_⟩
    refine DrB.strong (S' := (fun wz => Keeps (fun i => ((Value.slice VA l.length vc)).ownBlock = some i ∨ i = b ∨ i = b11) w93 wz)) ((Keeps.refl w93).mono (fun _ _ h => h.elim)) (fun wz hx => K94.trans hx (fun i _ h => by have h : i = b := h; show ((Value.slice VA l.length vc)).ownBlock = some i ∨ i = b ∨ i = b11; exact (.inr (.inl h))) (fun _ _ h => h)) ?_
    clear K94
    have F103 : RdO w93 A c (((R.bytes).2).int).2.bs := by rw [Rdr.int_bs]; exact F101
    clear F101
    refine DrB.takes (fuel' := 4) (is' := [5, 4, 3, 2, 0]) [5] [(0, (Value.pointer (some ⟨b, 0, none⟩))), (2, (Value.pointer (some ⟨b1, 0, none⟩))), (3, (Value.pointer (some ⟨b11, 0, none⟩))), (4, (i64 (((((((r.int).2).int).2).sized 600).1 : Nat) : Int))), (5, (i64 ((i : Nat) : Int))), (6, (Value.string (str (R.bytes).1))), (17, (Value.bool true)), (22, (Value.pointer (some ⟨b11, 2, none⟩))), (27, (agg [(Value.string (str (R.bytes).1)), (i64 ((((R.bytes).2).int).1))]))] [(0, (Value.pointer (some ⟨b, 0, none⟩))), (2, (Value.pointer (some ⟨b1, 0, none⟩))), (3, (Value.pointer (some ⟨b11, 0, none⟩))), (4, (i64 (((((((r.int).2).int).2).sized 600).1 : Nat) : Int))), (5, (i64 ((i : Nat) : Int))), (6, (Value.string (str (R.bytes).1))), (17, (Value.bool true)), (23, (Value.slice VA l.length vc)), (27, (agg [(Value.string (str (R.bytes).1)), (i64 ((((R.bytes).2).int).1))]))] (by kernel_rfl) rfl (by kernel_rfl) (by kernel_rfl) (by kernel_rfl) ?_
    refine DrB.new (i := 1) (j := 6) (t := 44) (a := ⟨b11, 2, none⟩) (v := (Value.slice VA l.length vc)) (o := rowL [(Value.string (str (R.bytes).1)), (i64 ((((R.bytes).2).int).1))] 82) (V := fun b => (Value.slice (some ⟨b, 0, none⟩) 1 1)) (by kernel_rfl) (.inl rfl) (by kernel_rfl) (by kernel_rfl) (by kernel_rfl) (by kernel_rfl) (di := (some 23)) (by kernel_rfl) (by kernel_rfl) (by kernel_rfl) (by kernel_rfl) (dj := (some 28)) (by kernel_rfl) (fun b => rfl) (fun b => rfl) (H100.loads (by kernel_rfl)) ((Keeps.refl _).mono (fun _ _ h => h.elim)) (fun b104 w105 hb106 H107 K108 hs109 => ?_)
    have lb104 : b11 < b104 := by have := H100.lt; omega
    have nb104 : w.heap.size ≤ b104 := by have := K98.size; omega
    have ob110 : ∀ i o s, A = some ⟨i, o, s⟩ → i ≠ b104 := fun i o s hi => by have := F103.2 i o s hi; omega
    have ob111 : ∀ i, ((Value.slice VA l.length vc)).ownBlock = some i → i < b104 := fun i hi => by have := (World.ownsRow.lt F102 i hi).2; omega
    have K112 := K98.trans K108 (U := (fun i => i = b)) (fun i h1 h2 => h2) (fun i h1 h2 => by exact h2.elim)
    clear K98
    have H113 := H95.keep K108 (fun h => h)
    clear H95
    have H114 := H99.keep K108 (fun h => h)
    clear H99
    have H115 := H100.keep K108 (fun h => h)
    clear H100
    have F116 := RdO.keep0 F103 K108
    clear F103
    have F117 := own_keep0 F102 K108
    clear F102
    refine ⟨(K108.mono (fun _ _ h => h.elim)), ?_⟩
    refine DrB.strong (S' := (fun wz => Keeps (fun i => ((Value.slice VA l.length vc)).ownBlock = some i ∨ i = b ∨ i = b11) w105 wz)) ((Keeps.refl w105).mono (fun _ _ h => h.elim)) (fun wz hx => K108.trans hx (fun i _ h => h.elim) (fun _ _ h => h)) ?_
    clear K108 hs109
    refine DrB.end_ (t := 44) (a := ⟨b11, 2, none⟩) (v := (Value.slice VA l.length vc)) (R := [(0, (Value.pointer (some ⟨b, 0, none⟩))), (2, (Value.pointer (some ⟨b1, 0, none⟩))), (3, (Value.pointer (some ⟨b11, 0, none⟩))), (4, (i64 (((((((r.int).2).int).2).sized 600).1 : Nat) : Int))), (5, (i64 ((i : Nat) : Int))), (6, (Value.string (str (R.bytes).1))), (17, (Value.bool true)), (23, (Value.slice VA l.length vc)), (28, (Value.slice (some ⟨b104, 0, none⟩) 1 1))]) (by kernel_rfl) (by kernel_rfl) (by kernel_rfl) (di := (some 23)) (by kernel_rfl) (by kernel_rfl) (by kernel_rfl) (H115.loads (by kernel_rfl)) ((Keeps.refl _).mono (fun _ _ h => h.elim)) ?_
    obtain ⟨v118, w119, hr120, hO121, hK122, hg123⟩ := OwnT.app (ty := 44) RowM.two RowM.one tyR F117 (show RdT _ 2 RowM.cells _ [(⟨(R.bytes).1, (((R.bytes).2).int).1⟩ : RowM)] from Rd.lit H107 (n := 1) rfl (by decide)) (by simp only [List.length_cons, List.length_nil]; omega) (by simp only [List.length_cons, List.length_nil]; omega) K112.size
    obtain ⟨A125, c126, rfl⟩ := RdT.form RowM.two (by decide) (OwnT.rd hO121)
    have ob127 : ∀ i, ((Value.slice A125 ((l ++ [(⟨(R.bytes).1, (((R.bytes).2).int).1⟩ : RowM)]).length) c126)).ownBlock = some i → i ≠ b := fun i hi => by rcases hg123 i hi with h | h; (have := obVb i h; omega); (have := H113.lt; omega)
    have ob128 : ∀ i, ((Value.slice A125 ((l ++ [(⟨(R.bytes).1, (((R.bytes).2).int).1⟩ : RowM)]).length) c126)).ownBlock = some i → i ≠ b1 := fun i hi => by rcases hg123 i hi with h | h; (have := obVb1 i h; omega); (have := H114.lt; omega)
    have ob129 : ∀ i, ((Value.slice A125 ((l ++ [(⟨(R.bytes).1, (((R.bytes).2).int).1⟩ : RowM)]).length) c126)).ownBlock = some i → i ≠ b11 := fun i hi => by rcases hg123 i hi with h | h; (have := obVb11 i h; omega); (have := H115.lt; omega)
    have ob130 : ∀ i, ((Value.slice A125 ((l ++ [(⟨(R.bytes).1, (((R.bytes).2).int).1⟩ : RowM)]).length) c126)).ownBlock = some i → i ≠ b104 := fun i hi => by rcases hg123 i hi with h | h; (have := ob111 i h; omega); (have := H107.lt; omega)
    have oo131 : ∀ i o s, A = some ⟨i, o, s⟩ → ((Value.slice A125 ((l ++ [(⟨(R.bytes).1, (((R.bytes).2).int).1⟩ : RowM)]).length) c126)).ownBlock = some i → False := fun i o s hi hs => by rcases hg123 i hs with h | h; (exact ooVA i o s hi h); (have := F116.2 i o s hi; omega)
    have K124 := hK122
    have K132 := K112.trans K124 (U := (fun i => i = b)) (fun i h1 h2 => h2) (fun i h1 h2 => by have h2 : ((Value.slice VA l.length vc)).ownBlock = some i := h2; exfalso; have := (World.ownsRow.lt F117 i h2).1; omega)
    clear K112
    have H133 := H113.keep K124 (by intro h; change ((Value.slice VA l.length vc)).ownBlock = some b at h; have := obVb b h; omega)
    clear H113
    have H134 := H114.keep K124 (by intro h; change ((Value.slice VA l.length vc)).ownBlock = some b1 at h; have := obVb1 b1 h; omega)
    clear H114
    have H135 := H115.keep K124 (by intro h; change ((Value.slice VA l.length vc)).ownBlock = some b11 at h; have := obVb11 b11 h; omega)
    clear H115
    have H136 := H107.keep K124 (by intro h; change ((Value.slice VA l.length vc)).ownBlock = some b104 at h; have := ob111 b104 h; omega)
    clear H107
    have F137 := RdO.keep F116 K124 (fun i _ _ hi hs => by have hs : ((Value.slice VA l.length vc)).ownBlock = some i := hs; exact ooVA i _ _ hi hs)
    clear F116
    clear F117
    refine Dr.go (i := 7) (v := (Value.slice A125 ((l ++ [(⟨(R.bytes).1, (((R.bytes).2).int).1⟩ : RowM)]).length) c126)) (by kernel_rfl) (by kernel_rfl) (Runs.append (ts := #[44, 44]) (ty := 44) (vs := [(Value.slice VA l.length vc), (Value.slice (some ⟨b104, 0, none⟩) 1 1)]) (by kernel_rfl) hr120) (d := (some 29)) (by kernel_rfl) rfl (K124.mono (fun i _ h => by have h : ((Value.slice VA l.length vc)).ownBlock = some i := h; show ((Value.slice VA l.length vc)).ownBlock = some i ∨ i = b ∨ i = b11; exact (.inl h))) ?_
    refine Dr.strong (S' := (fun wz => Keeps (fun i => ((Value.slice VA l.length vc)).ownBlock = some i ∨ i = b ∨ i = b11) w119 wz)) ((Keeps.refl w119).mono (fun _ _ h => h.elim)) (fun wz hx => K124.trans hx (fun i _ h => by have h : ((Value.slice VA l.length vc)).ownBlock = some i := h; show ((Value.slice VA l.length vc)).ownBlock = some i ∨ i = b ∨ i = b11; exact (.inl h)) (fun _ _ h => h)) ?_
    clear K124 hr120 hK122 hg123
    refine Dr.takes (fuel' := 1) (is' := [8, 7, 1, 6, 5, 4, 3, 2, 0]) [8] [(0, (Value.pointer (some ⟨b, 0, none⟩))), (2, (Value.pointer (some ⟨b1, 0, none⟩))), (3, (Value.pointer (some ⟨b11, 0, none⟩))), (4, (i64 (((((((r.int).2).int).2).sized 600).1 : Nat) : Int))), (5, (i64 ((i : Nat) : Int))), (6, (Value.string (str (R.bytes).1))), (17, (Value.bool true)), (29, (Value.slice A125 ((l ++ [(⟨(R.bytes).1, (((R.bytes).2).int).1⟩ : RowM)]).length) c126)), (30, (Value.pointer (some ⟨b11, 2, none⟩)))] (by kernel_rfl) rfl (by kernel_rfl) ?_
    refine Dr.put (i := 9) (t := 44) (b := b11) (off := 2) (v := (Value.slice A125 ((l ++ [(⟨(R.bytes).1, (((R.bytes).2).int).1⟩ : RowM)]).length) c126)) (ys := [(i64 ((r.int).1)), (i64 ((((r.int).2).int).1)), (Value.slice A125 ((l ++ [(⟨(R.bytes).1, (((R.bytes).2).int).1⟩ : RowM)]).length) c126)]) (by kernel_rfl) (by kernel_rfl) (by kernel_rfl) H135 (by kernel_rfl) (d := none) (by kernel_rfl) rfl (fun w138 H139 K140 => ?_)
    clear H135
    have K141 := K132.trans K140 (U := (fun i => i = b)) (fun i h1 h2 => h2) (fun i h1 h2 => by have h2 : i = b11 := h2; show i = b; omega)
    clear K132
    have H142 := H133.keep K140 (by intro h; change b = b11 at h; omega)
    clear H133
    have H143 := H134.keep K140 (by intro h; change b1 = b11 at h; omega)
    clear H134
    have H144 := H136.keep K140 (by intro h; change b104 = b11 at h; omega)
    clear H136
    have F145 := RdO.keep F137 K140 (fun i _ _ hi hs => by have hs : i = b11 := hs; have := ob17 i _ _ hi; omega)
    clear F137
    have F146 := own_keep hO121 K140 (fun i hi hs => by have hs : i = b11 := hs; have := ob129 i hi; omega)
    clear hO121
    refine ⟨(K140.mono (fun i _ h => by have h : i = b11 := h; show ((Value.slice VA l.length vc)).ownBlock = some i ∨ i = b ∨ i = b11; exact (.inr (.inr h)))), ?_⟩
    refine Dr.strong (S' := (fun wz => Keeps (fun i => ((Value.slice VA l.length vc)).ownBlock = some i ∨ i = b ∨ i = b11) w138 wz)) ((Keeps.refl w138).mono (fun _ _ h => h.elim)) (fun wz hx => K140.trans hx (fun i _ h => by have h : i = b11 := h; show ((Value.slice VA l.length vc)).ownBlock = some i ∨ i = b ∨ i = b11; exact (.inr (.inr h))) (fun _ _ h => h)) ?_
    clear K140
    refine Dr.done (by kernel_rfl) ?_
    refine q_region (by kernel_rfl) ?_
    refine Ops.regs 2 [(0, (Value.pointer (some ⟨b, 0, none⟩))), (2, (Value.pointer (some ⟨b1, 0, none⟩))), (3, (Value.pointer (some ⟨b11, 0, none⟩))), (4, (i64 (((((((r.int).2).int).2).sized 600).1 : Nat) : Int))), (5, (i64 ((i : Nat) : Int))), (6, (Value.string (str (R.bytes).1))), (17, (Value.bool true)), (19, (i64 (IntKind.i64.wrap (((i : Nat) : Int) + 1))))] (j := 2) (by kernel_rfl) (by kernel_rfl) ?_
    have e147 : IntKind.i64.wrap (((i : Nat) : Int) + 1) = ((i + 1 : Nat) : Int) := by rw [wrap_i64 (by omega) (by omega)]; omega
    rw [e147]
    clear e147
    refine Ops.regs 1 [(0, (Value.pointer (some ⟨b, 0, none⟩))), (2, (Value.pointer (some ⟨b1, 0, none⟩))), (3, (Value.pointer (some ⟨b11, 0, none⟩))), (4, (i64 (((((((r.int).2).int).2).sized 600).1 : Nat) : Int))), (5, (i64 ((i + 1 : Nat) : Int))), (6, (Value.string (str (R.bytes).1))), (17, (Value.bool true))] (j := 3) (by kernel_rfl) (by kernel_rfl) ?_
    refine Ops.keep (R := [(0, (Value.pointer (some ⟨b, 0, none⟩))), (2, (Value.pointer (some ⟨b1, 0, none⟩))), (3, (Value.pointer (some ⟨b11, 0, none⟩))), (4, (i64 (((((((r.int).2).int).2).sized 600).1 : Nat) : Int))), (5, (i64 ((i + 1 : Nat) : Int)))]) (by kernel_rfl) ?_
    refine Ops.done (by kernel_rfl) ?_
    exact ⟨(A125, c126, i + 1, l ++ [(⟨(R.bytes).1, (((R.bytes).2).int).1⟩ : RowM)], (((R.bytes).2).int).2), ⟨rfl, F145, F146, ob127, ob128, ob129, oo131, hok96, (Rdr.rows_next hE hF (by omega)).1, (Rdr.rows_next hE hF (by omega)).2, (by omega), (by simp [hli]), K141, H142, H143, H139⟩, (show r.rhead.1 - (i + 1) < r.rhead.1 - i from by omega)⟩
  · rw [h72]
    have p148 : ¬ (((i : Nat) : Int) < (((((((r.int).2).int).2).sized 600).1 : Nat) : Int)) := of_decide_eq_false h72
    refine q_exit (id := 0) (by kernel_rfl) ?_
    refine q_seq (by kernel_rfl) ?_
    refine q_region (by kernel_rfl) ?_
    refine Ops.go (v := (agg [(i64 ((r.int).1)), (i64 ((((r.int).2).int).1)), (Value.slice VA l.length vc)])) (by kernel_rfl) (Runs.load (t := 46) (a := ⟨b11, 0, none⟩) (by kernel_rfl) (H71.loads (by kernel_rfl))) (d := (some 31)) (by kernel_rfl) rfl ?_
    refine Ops.put (t := 46) (b := b1) (off := 0) (v := (agg [(i64 ((r.int).1)), (i64 ((((r.int).2).int).1)), (Value.slice VA l.length vc)])) (ys := [(i64 ((r.int).1)), (i64 ((((r.int).2).int).1)), (Value.slice VA l.length vc)]) (by kernel_rfl) (by kernel_rfl) H70 (by kernel_rfl) (d := none) (by kernel_rfl) rfl (fun w149 H150 K151 => ?_)
    clear H70
    have K152 := K68.trans K151 (U := (fun i => i = b)) (fun i h1 h2 => h2) (fun i h1 h2 => by have h2 : i = b1 := h2; show i = b; omega)
    clear K68
    have H153 := H69.keep K151 (by intro h; change b = b1 at h; omega)
    clear H69
    have H154 := H71.keep K151 (by intro h; change b11 = b1 at h; omega)
    clear H71
    have F155 := RdO.keep hRdA K151 (fun i _ _ hi hs => by have hs : i = b1 := hs; have := ob7 i _ _ hi; omega)
    clear hRdA
    have F156 := own_keep hOV K151 (fun i hi hs => by have hs : i = b1 := hs; have := obVb1 i hi; omega)
    clear hOV
    clear K151
    refine Ops.done (by kernel_rfl) ?_
    refine q_ret (by kernel_rfl) ?_
    refine ⟨(agg [(i64 ((r.int).1)), (i64 ((((r.int).2).int).1)), (Value.slice VA l.length vc)]), retv_cell rfl rfl (H150.loads (by kernel_rfl)), ?_⟩
    have hd := Rdr.rows_done hE hF (by omega)
    have e : r.reply = (⟨r.int.1, r.int.2.int.1, l⟩, R) := by show ((⟨r.int.1, r.int.2.int.1, (Rdr.rows r.rhead.1 r.rhead.2).1⟩ : ReplyM), (Rdr.rows r.rhead.1 r.rhead.2).2) = _; rw [hd.1, hd.2]
    exact ⟨_, _, by rw [e], K152, by rw [e]; exact F156, by rw [e]; exact H153⟩

theorem Spoil_row (w : World) (g n cap : Nat) (cs : List Value) (H0 : Has w g (rowL cs 5)) (hcs : cs.length = cap) (hnc : n ≤ cap) (hcm : cap ≤ maxLen) (hn : n ≤ 140737488351232) : Calls Try.prog 36 ⟨[(Value.slice (some ⟨g, 0, none⟩) n cap)]⟩ w (fun e w' => e = .returned (.tuple #[]) ∧ Keeps (fun i => i = g) w w') := by
  have K0 : Keeps (fun i => i = g) w w := (Keeps.refl w).mono (fun _ _ h => h.elim)
  have Hg := H0.lt
  refine q_calls Try.func36 (by kernel_rfl) (by kernel_rfl) ?_
  refine q_seq (by kernel_rfl) ?_
  refine q_seq (by kernel_rfl) ?_
  refine q_region (by kernel_rfl) ?_
  refine Ops.regs 1 [(0, (Value.slice (some ⟨g, 0, none⟩) n cap)), (2, (i64 0))] (j := 1) (by kernel_rfl) (by kernel_rfl) ?_
  refine Ops.done (by kernel_rfl) ?_
  refine q_block (id := 0) (by kernel_rfl) ?_
  refine q_keep (R := [(0, (Value.slice (some ⟨g, 0, none⟩) n cap)), (2, (i64 0))]) (by kernel_rfl) ?_
  refine q_loop (fun (gs : Nat × (List Value)) L (wx : World) => match gs with | (k, cs) => L = [(0, (Value.slice (some ⟨g, 0, none⟩) n cap)), (2, (i64 ((k : Nat) : Int)))] ∧ cs.length = cap ∧ k ≤ n ∧ Keeps (fun i => i = g) w wx ∧ Has wx g (rowL cs 5)) (fun (gs : Nat × (List Value)) => match gs with | (k, cs) => n - k) (0, cs) (by kernel_rfl) ⟨rfl, hcs, Nat.zero_le _, K0, H0⟩ ?_
  clear H0 K0
  rintro ⟨k, cs⟩ _ w1 ⟨rfl, hcs, hk, K2, H3⟩
  refine q_seq (by kernel_rfl) ?_
  refine q_seq (by kernel_rfl) ?_
  refine q_region (by kernel_rfl) ?_
  refine Ops.regs 4 [(0, (Value.slice (some ⟨g, 0, none⟩) n cap)), (2, (i64 ((k : Nat) : Int))), (6, (Value.bool (decide (((k : Nat) : Int) < ((n : Nat) : Int)))))] (j := 4) (by kernel_rfl) (by kernel_rfl) ?_
  refine Ops.done (by kernel_rfl) ?_
  refine q_cond (o := .tmp 6) (b := (decide (((k : Nat) : Int) < ((n : Nat) : Int)))) (by kernel_rfl) rfl (fun h4 => ?_) (fun h4 => ?_)
  · rw [h4]
    have p5 : ((k : Nat) : Int) < ((n : Nat) : Int) := of_decide_eq_true h4
    refine q_skip (by kernel_rfl) ?_
    refine q_seq (by kernel_rfl) ?_
    refine q_block (id := 1) (by kernel_rfl) ?_
    refine q_region (by kernel_rfl) ?_
    refine Ops.regs 2 [(0, (Value.slice (some ⟨g, 0, none⟩) n cap)), (2, (i64 ((k : Nat) : Int))), (6, (Value.bool true)), (9, (Value.slice (some ⟨g, 0, none⟩) n cap)), (10, (i64 ((k : Nat) : Int)))] (j := 2) (by kernel_rfl) (by kernel_rfl) ?_
    refine Ops.go (by kernel_rfl) (Runs.ixSlice (k := IntKind.i64) (t := 23) (b := g) (off := 0) (len := n) (cap := cap) (s := 1) (off' := k) (i := ((k : Nat) : Int)) (by kernel_rfl) (by kernel_rfl) (by omega) (by omega) (by omega)) (d := (some 11)) (by kernel_rfl) rfl ?_
    refine Ops.put (t := 5) (b := g) (off := k) (v := (Value.int IntKind.u8 90)) (ys := (cs.set k (Value.int IntKind.u8 90))) (by kernel_rfl) (by kernel_rfl) H3 (storeC1 (by kernel_rfl) rfl (by rw [hcs]; omega) rfl) (d := none) (by kernel_rfl) rfl (fun w6 H7 K8 => ?_)
    clear H3
    have K9 := K2.trans K8 (U := (fun i => i = g)) (fun i h1 h2 => h2) (fun i h1 h2 => by have h2 : i = g := h2; show i = g; omega)
    clear K2
    clear K8
    refine Ops.done (by kernel_rfl) ?_
    refine q_region (by kernel_rfl) ?_
    refine Ops.regs 2 [(0, (Value.slice (some ⟨g, 0, none⟩) n cap)), (2, (i64 ((k : Nat) : Int))), (6, (Value.bool true)), (8, (i64 (IntKind.i64.wrap (((k : Nat) : Int) + 1))))] (j := 2) (by kernel_rfl) (by kernel_rfl) ?_
    have e10 : IntKind.i64.wrap (((k : Nat) : Int) + 1) = ((k + 1 : Nat) : Int) := by rw [wrap_i64 (by omega) (by omega)]; omega
    rw [e10]
    clear e10
    refine Ops.regs 1 [(0, (Value.slice (some ⟨g, 0, none⟩) n cap)), (2, (i64 ((k + 1 : Nat) : Int))), (6, (Value.bool true))] (j := 3) (by kernel_rfl) (by kernel_rfl) ?_
    refine Ops.keep (R := [(0, (Value.slice (some ⟨g, 0, none⟩) n cap)), (2, (i64 ((k + 1 : Nat) : Int)))]) (by kernel_rfl) ?_
    refine Ops.done (by kernel_rfl) ?_
    exact ⟨(k + 1, cs.set k (Value.int IntKind.u8 90)), ⟨rfl, (show (cs.set k (Value.int IntKind.u8 90)).length = cap from by simp [hcs]), (by omega), K9, H7⟩, (show n - (k + 1) < n - k from by omega)⟩
  · rw [h4]
    have p11 : ¬ (((k : Nat) : Int) < ((n : Nat) : Int)) := of_decide_eq_false h4
    refine q_exit (id := 0) (by kernel_rfl) ?_
    refine q_seq (by kernel_rfl) ?_
    refine q_region (by kernel_rfl) ?_
    refine Ops.regs 1 [(0, (Value.slice (some ⟨g, 0, none⟩) n cap)), (12, (Value.slice (some ⟨g, 0, none⟩) n cap))] (j := 1) (by kernel_rfl) (by kernel_rfl) ?_
    refine Ops.new (o := rowL [(Value.int IntKind.u8 91)] 5) (V := fun b => (Value.slice (some ⟨b, 0, none⟩) 1 1)) (by kernel_rfl) (d := (some 13)) (by kernel_rfl) (fun b => rfl) (fun b12 w13 hb14 H15 K16 hs17 => ?_)
    have lb12 : g < b12 := by have := H3.lt; omega
    have nb12 : w.heap.size ≤ b12 := by have := K2.size; omega
    have K18 := K2.trans K16 (U := (fun i => i = g)) (fun i h1 h2 => h2) (fun i h1 h2 => by exact h2.elim)
    clear K2
    have H19 := H3.keep K16 (fun h => h)
    clear H3
    clear K16 hs17
    obtain ⟨g20, cap21, rest22, w23, hr24, H25, fl26, fn27, fm28, K29, hg30⟩ := app_any (ty := 23) tyB H19 hcs (n := n) (by omega) (by omega) (Rd.lit H15 (n := 1) rfl (by decide)) (m := 1) rfl (by omega) rfl (by omega) (by simp only [maxLen] at *; omega)
    have H31 : Has w23 g20 (rowL rest22 5) := H25
    clear H25
    have dg20b12 : g20 ≠ b12 := by have := H15.lt; rcases hg30 with h | h <;> omega
    have ng20 : g20 = g ∨ w.heap.size ≤ g20 := by have := K18.size; rcases hg30 with h | h <;> omega
    refine Ops.go (v := (Value.slice (some ⟨g20, 0, none⟩) (n + 1) cap21)) (by kernel_rfl) (Runs.append (ts := #[23, 23]) (ty := 23) (vs := [(Value.slice (some ⟨g, 0, none⟩) n cap), (Value.slice (some ⟨b12, 0, none⟩) 1 1)]) (by kernel_rfl) hr24) (d := (some 14)) (by kernel_rfl) rfl ?_
    clear H19
    have K32 := K18.trans K29 (U := (fun i => i = g)) (fun i h1 h2 => h2) (fun i h1 h2 => by have h2 : i = g := h2; show i = g; omega)
    clear K18
    have H33 := H15.keep K29 (by intro h; change b12 = g at h; omega)
    clear H15
    clear K29 hr24 hg30
    refine Ops.regs 1 [(0, (Value.slice (some ⟨g20, 0, none⟩) (n + 1) cap21))] (j := 4) (by kernel_rfl) (by kernel_rfl) ?_
    refine Ops.done (by kernel_rfl) ?_
    clear H33
    refine q_region (by kernel_rfl) ?_
    refine Ops.regs 4 [(15, (Value.slice (some ⟨g20, 0, none⟩) (n + 1) cap21)), (18, (i64 (IntKind.i64.wrap (((n + 1 : Nat) : Int) - 1))))] (j := 4) (by kernel_rfl) (by kernel_rfl) ?_
    have e34 : IntKind.i64.wrap (((n + 1 : Nat) : Int) - 1) = ((n + 1 : Nat) : Int) - 1 := wrap_i64 (by omega) (by omega)
    rw [e34]
    refine Ops.go (by kernel_rfl) (Runs.ixSlice (k := IntKind.i64) (t := 23) (b := g20) (off := 0) (len := (n + 1)) (cap := cap21) (s := 1) (off' := ((((n + 1 : Nat) : Int) - 1).toNat)) (i := ((n + 1 : Nat) : Int) - 1) (by kernel_rfl) (by kernel_rfl) (by omega) (by omega) (by omega)) (d := (some 19)) (by kernel_rfl) rfl ?_
    refine Ops.put (t := 5) (b := g20) (off := ((((n + 1 : Nat) : Int) - 1).toNat)) (v := (Value.int IntKind.u8 92)) (ys := (rest22.set ((((n + 1 : Nat) : Int) - 1).toNat) (Value.int IntKind.u8 92))) (by kernel_rfl) (by kernel_rfl) H31 (storeC1 (by kernel_rfl) rfl (by rw [fl26]; omega) rfl) (d := none) (by kernel_rfl) rfl (fun w35 H36 K37 => ?_)
    clear H31
    have K38 := K32.trans K37 (U := (fun i => i = g)) (fun i h1 h2 => h2) (fun i h1 h2 => by have h2 : i = g20 := h2; show i = g; omega)
    clear K32
    clear K37
    refine Ops.done (by kernel_rfl) ?_
    refine ⟨(Value.tuple #[]), retv_none rfl, ?_⟩
    exact ⟨rfl, K38⟩

theorem Spoil_nil (w : World)   : Calls Try.prog 36 ⟨[(Value.slice none 0 0)]⟩ w (fun e w' => e = .returned (.tuple #[]) ∧ Keeps none_ w w') := by
  have K0 : Keeps none_ w w := Keeps.refl w
  refine q_calls Try.func36 (by kernel_rfl) (by kernel_rfl) ?_
  refine q_seq (by kernel_rfl) ?_
  refine q_seq (by kernel_rfl) ?_
  refine q_region (by kernel_rfl) ?_
  refine Ops.regs 1 [(0, (Value.slice none 0 0)), (2, (i64 0))] (j := 1) (by kernel_rfl) (by kernel_rfl) ?_
  refine Ops.done (by kernel_rfl) ?_
  refine q_block (id := 0) (by kernel_rfl) ?_
  refine q_keep (R := [(0, (Value.slice none 0 0)), (2, (i64 0))]) (by kernel_rfl) ?_
  refine q_loop (fun (k : Nat) L (wx : World) => L = [(0, (Value.slice none 0 0)), (2, (i64 ((k : Nat) : Int)))] ∧ k = 0 ∧ Keeps none_ w wx) (fun (k : Nat) => 0 - k) 0 (by kernel_rfl) ⟨rfl, rfl, K0⟩ ?_
  clear K0
  rintro k _ w1 ⟨rfl, hk, K2⟩
  refine q_seq (by kernel_rfl) ?_
  refine q_seq (by kernel_rfl) ?_
  refine q_region (by kernel_rfl) ?_
  refine Ops.regs 4 [(0, (Value.slice none 0 0)), (2, (i64 ((k : Nat) : Int))), (6, (Value.bool (decide (((k : Nat) : Int) < 0))))] (j := 4) (by kernel_rfl) (by kernel_rfl) ?_
  refine Ops.done (by kernel_rfl) ?_
  have h3 : (decide (((k : Nat) : Int) < 0)) = false := decide_eq_false (by omega)
  rw [h3]
  refine q_else (o := .tmp 6) (by kernel_rfl) rfl ?_
  refine q_exit (id := 0) (by kernel_rfl) ?_
  refine q_seq (by kernel_rfl) ?_
  refine q_region (by kernel_rfl) ?_
  refine Ops.regs 1 [(0, (Value.slice none 0 0)), (12, (Value.slice none 0 0))] (j := 1) (by kernel_rfl) (by kernel_rfl) ?_
  refine Ops.new (o := rowL [(Value.int IntKind.u8 91)] 5) (V := fun b => (Value.slice (some ⟨b, 0, none⟩) 1 1)) (by kernel_rfl) (d := (some 13)) (by kernel_rfl) (fun b => rfl) (fun b4 w5 hb6 H7 K8 hs9 => ?_)
  have nb4 : w.heap.size ≤ b4 := by have := K2.size; omega
  have K10 := K2.trans K8 (U := none_) (fun i h1 h2 => h2) (fun i h1 h2 => by exact h2)
  clear K2
  clear K8 hs9
  obtain ⟨g11, cap12, rest13, w14, hr15, H16, fl17, fn18, fm19, K20, hg21⟩ := app_row0 (ty := 23) tyB (Rd.lit H7 (n := 1) rfl (by decide)) (m := 1) rfl (by omega) (by omega) (by decide)
  have H22 : Has w14 g11 (rowL ([(Value.int IntKind.u8 91)] ++ rest13) 5) := H16
  clear H16
  have dg11b4 : g11 ≠ b4 := by have := H7.lt; omega
  have ng11 : w.heap.size ≤ g11 := by have := K10.size; omega
  refine Ops.go (v := (Value.slice (some ⟨g11, 0, none⟩) 1 cap12)) (by kernel_rfl) (Runs.append (ts := #[23, 23]) (ty := 23) (vs := [(Value.slice none 0 0), (Value.slice (some ⟨b4, 0, none⟩) 1 1)]) (by kernel_rfl) hr15) (d := (some 14)) (by kernel_rfl) rfl ?_
  have K23 := K10.trans K20 (U := none_) (fun i h1 h2 => h2) (fun i h1 h2 => by exact h2)
  clear K10
  have H24 := H7.keep K20 (fun h => h)
  clear H7
  clear K20 hr15 hg21
  refine Ops.regs 1 [(0, (Value.slice (some ⟨g11, 0, none⟩) 1 cap12))] (j := 4) (by kernel_rfl) (by kernel_rfl) ?_
  refine Ops.done (by kernel_rfl) ?_
  refine q_region (by kernel_rfl) ?_
  refine Ops.regs 5 [(19, (Value.pointer (some ⟨g11, 0, none⟩)))] (j := 5) (by kernel_rfl) (by kernel_rfl) ?_
  refine Ops.put (t := 5) (b := g11) (off := 0) (v := (Value.int IntKind.u8 92)) (ys := ([(Value.int IntKind.u8 92)] ++ rest13)) (by kernel_rfl) (by kernel_rfl) H22 (by kernel_rfl) (d := none) (by kernel_rfl) rfl (fun w25 H26 K27 => ?_)
  clear H22
  have K28 := K23.trans K27 (U := none_) (fun i h1 h2 => h2) (fun i h1 h2 => by have h2 : i = g11 := h2; exfalso; omega)
  clear K23
  have H29 := H24.keep K27 (by intro h; change b4 = g11 at h; omega)
  clear H24
  clear K27
  refine Ops.done (by kernel_rfl) ?_
  refine ⟨(Value.tuple #[]), retv_none rfl, ?_⟩
  exact ⟨rfl, K28⟩

theorem Spoil_calls (w : World) (v : Value) (xs : List UInt8) (base : Nat) (hO : OwnB w base 5 v xs) (hn : xs.length ≤ 140737488351232) : Calls Try.prog 36 ⟨[v]⟩ w (fun e w' => e = .returned (.tuple #[]) ∧ Keeps (fun i => v.ownBlock = some i) w w') := by
  rcases own_cases hO with rfl | ⟨g, cap, cs, rfl, hb, H, h1, h2, h3⟩
  · exact (Spoil_nil w).mono fun e w' ⟨he, hk⟩ => ⟨he, hk.mono fun _ _ h => h.elim⟩
  · exact (Spoil_row w g _ cap cs H h3 h1 h2 hn).mono fun e w' ⟨he, hk⟩ => ⟨he, hk.mono fun i hi hg => by have hg : i = g := hg; subst hg; rfl⟩

theorem Lent_calls (w : World) (B : Option Addr) (bc : Nat) (bs : List UInt8) (hB : RdB w (.slice B bs.length bc) bs) (hbl : bs.length ≤ 140737488351232) : Calls Try.prog 21 ⟨[(Value.slice B bs.length bc)]⟩ w (fun e w' => ∃ A c, e = .returned (.slice A bs.length c) ∧ Keeps none_ w w' ∧ OwnB w' w.heap.size 5 (.slice A (bs ++ [byte 167]).length c) (bs ++ [byte 167])) := by
  have hnil : OwnB w w.heap.size 5 (.slice none 0 0) [] := World.ownsRow_nil _ _ _ _
  have K0 : Keeps none_ w w := Keeps.refl w
  refine q_calls Try.func21 (by kernel_rfl) (by kernel_rfl) ?_
  refine q_seq (by kernel_rfl) ?_
  refine q_region (by kernel_rfl) ?_
  refine Ops.regs 1 [(0, (Value.slice B bs.length bc)), (2, (Value.slice none 0 0))] (j := 1) (by kernel_rfl) (by kernel_rfl) ?_
  refine Ops.done (by kernel_rfl) ?_
  refine q_seq (by kernel_rfl) ?_
  refine q_region (by kernel_rfl) ?_
  refine Ops.regs 1 [(0, (Value.slice B bs.length bc)), (2, (Value.slice none 0 0)), (3, (Value.slice none 0 0))] (j := 1) (by kernel_rfl) (by kernel_rfl) ?_
  refine Ops.done (by kernel_rfl) ?_
  refine q_seq (by kernel_rfl) ?_
  refine q_region (by kernel_rfl) ?_
  refine Ops.regs 2 [(0, (Value.slice B bs.length bc)), (2, (Value.slice none 0 0)), (3, (Value.slice none 0 0)), (4, (Value.slice none 0 0)), (5, (Value.slice B bs.length bc))] (j := 2) (by kernel_rfl) (by kernel_rfl) ?_
  obtain ⟨v1, w2, hr3, hO4, K5⟩ := OwnB.app (ty := 23) tyB hnil (hB.keep0 (by omega) K0) (by (try simp only at *); (try simp only [List.length_append] at *); (try simp only [List.length_cons] at *); (try simp only [List.length_nil] at *); omega) K0.size
  refine Ops.go (v := v1) (by kernel_rfl) (Runs.append (ts := #[23, 23]) (ty := 23) (vs := [(Value.slice none 0 0), (Value.slice B bs.length bc)]) (by kernel_rfl) hr3) (d := (some 6)) (by kernel_rfl) rfl ?_
  have K6 := Keeps.own2 K0 K5
  clear hnil K0 hr3 K5
  refine Ops.regs 1 [(0, (Value.slice B bs.length bc)), (2, (Value.slice none 0 0)), (3, v1)] (j := 4) (by kernel_rfl) (by kernel_rfl) ?_
  refine Ops.done (by kernel_rfl) ?_
  refine q_seq (by kernel_rfl) ?_
  refine q_region (by kernel_rfl) ?_
  refine Ops.regs 1 [(0, (Value.slice B bs.length bc)), (2, (Value.slice none 0 0)), (3, v1), (7, v1)] (j := 1) (by kernel_rfl) (by kernel_rfl) ?_
  refine Ops.new (o := rowL [(Value.int IntKind.u8 167)] 5) (V := fun b => (Value.slice (some ⟨b, 0, none⟩) 1 1)) (by kernel_rfl) (d := (some 8)) (by kernel_rfl) (fun b => rfl) (fun b7 w8 hb9 H10 K11 hs12 => ?_)
  have nb7 : w.heap.size ≤ b7 := by have := K6.size; omega
  have ob13 : ∀ i, (v1).ownBlock = some i → i < b7 := fun i hi => by have := (World.ownsRow.lt hO4 i hi).2; omega
  have K14 := K6.trans K11 (U := none_) (fun i h1 h2 => h2) (fun i h1 h2 => by exact h2)
  clear K6
  have F15 := own_keep0 hO4 K11
  clear hO4
  clear K11 hs12
  obtain ⟨v16, w17, hr18, hO19, K20⟩ := OwnB.app (ty := 23) tyB F15 (lit1 (m := 167) (by decide) H10) (by (try simp only at *); (try simp only [List.length_append] at *); (try simp only [List.length_cons] at *); (try simp only [List.length_nil] at *); omega) K14.size
  refine Ops.go (v := v16) (by kernel_rfl) (Runs.append (ts := #[23, 23]) (ty := 23) (vs := [v1, (Value.slice (some ⟨b7, 0, none⟩) 1 1)]) (by kernel_rfl) hr18) (d := (some 9)) (by kernel_rfl) rfl ?_
  have K21 := Keeps.own2 K14 K20
  clear H10 F15 K14 hr18 K20
  refine Ops.regs 1 [(0, (Value.slice B bs.length bc)), (2, (Value.slice none 0 0)), (3, v16)] (j := 4) (by kernel_rfl) (by kernel_rfl) ?_
  refine Ops.done (by kernel_rfl) ?_
  refine q_seq (by kernel_rfl) ?_
  refine q_region (by kernel_rfl) ?_
  refine Ops.regs 3 [(2, (Value.slice none 0 0)), (10, v16), (12, (i64 ((bs.length : Nat) : Int)))] (j := 3) (by kernel_rfl) (by kernel_rfl) ?_
  have hE : [] ++ bs ++ [byte 167] = bs ++ [byte 167] := by simp
  rw [hE] at hO19
  obtain ⟨A22, c23, hf⟩ := RdB.form (OwnB.rd hO19)
  subst hf
  have hsl := (OwnB.rd hO19).slice
  rw [List.length_append] at hsl
  simp only [List.length_cons, List.length_nil] at hsl
  have hcut := run_cut (sz := 1) (P := Try.prog) (w := w17) (t := 23) (A := A22) (n := (bs ++ [byte 167]).length) (c := c23) 0 bs.length c23 (lo := none) (hi := some (i64 ((bs.length : Nat) : Int))) (mx := none) tyB.slice (by kernel_rfl) (.inl ⟨rfl, rfl⟩) (.inr ⟨_, rfl⟩) (.inl ⟨rfl, rfl⟩) (by omega) (by omega) (by omega)
  have hA0 : (if c23 = 0 then A22 else Option.map (fun q => Addr.add q (0 * 1)) A22) = A22 := by cases A22 <;> simp [Addr.add]
  rw [hA0, Nat.sub_zero, Nat.sub_zero] at hcut
  refine Ops.go (v := (Value.slice A22 bs.length c23)) (by kernel_rfl) (Runs.slice (by kernel_rfl) hcut) (d := (some 13)) (by kernel_rfl) rfl ?_
  clear hcut hA0
  refine Ops.regs 1 [(2, (Value.slice A22 bs.length c23))] (j := 5) (by kernel_rfl) (by kernel_rfl) ?_
  refine Ops.done (by kernel_rfl) ?_
  refine q_ret (by kernel_rfl) ?_
  refine ⟨(Value.slice A22 bs.length c23), retv_tmp rfl rfl, ?_⟩
  exact ⟨_, _, rfl, K21, hO19⟩

theorem SameRows_calls (w : World) (A : Option Addr) (c : Nat) (la : List RowM) (B : Option Addr) (d : Nat) (lb : List RowM) (hA : RdR w (.slice A la.length c) la) (hB : RdR w (.slice B lb.length d) lb) : Calls Try.prog 66 ⟨[(Value.slice A la.length c), (Value.slice B lb.length d)]⟩ w (fun e w' => ∃ t, e = .returned (.bool t) ∧ (t = true ↔ la = lb) ∧ Keeps none_ w w') := by
  have hla := (RdT.len RowM.two (by decide) hA).2
  unfold maxLen at hla
  have K0 : Keeps none_ w w := Keeps.refl w
  refine q_calls Try.func66 (by kernel_rfl) (by kernel_rfl) ?_
  refine q_seq (by kernel_rfl) ?_
  refine q_region (by kernel_rfl) ?_
  refine Ops.regs 1 [(0, (Value.slice A la.length c)), (1, (Value.slice B lb.length d)), (4, (Value.bool false))] (j := 1) (by kernel_rfl) (by kernel_rfl) ?_
  refine Ops.done (by kernel_rfl) ?_
  refine q_seq (by kernel_rfl) ?_
  refine q_seq (by kernel_rfl) ?_
  refine q_region (by kernel_rfl) ?_
  refine Ops.regs 5 [(0, (Value.slice A la.length c)), (1, (Value.slice B lb.length d)), (4, (Value.bool false)), (10, (Value.bool (((la.length : Nat) : Int) != ((lb.length : Nat) : Int))))] (j := 5) (by kernel_rfl) (by kernel_rfl) ?_
  refine Ops.done (by kernel_rfl) ?_
  refine q_cond (o := .tmp 10) (b := (((la.length : Nat) : Int) != ((lb.length : Nat) : Int))) (by kernel_rfl) rfl (fun h1 => ?_) (fun h1 => ?_)
  · rw [h1]
    have p2 : ¬ (((la.length : Nat) : Int) = ((lb.length : Nat) : Int)) := of_bne_t h1
    refine q_seq (by kernel_rfl) ?_
    refine q_region (by kernel_rfl) ?_
    refine Ops.regs 1 [(0, (Value.slice A la.length c)), (1, (Value.slice B lb.length d)), (4, (Value.bool false))] (j := 1) (by kernel_rfl) (by kernel_rfl) ?_
    refine Ops.done (by kernel_rfl) ?_
    refine q_ret (by kernel_rfl) ?_
    refine ⟨(Value.bool false), retv_tmp rfl rfl, ?_⟩
    exact ⟨false, rfl, ⟨fun h => (by cases h), fun h => by exfalso; have := congrArg List.length h; omega⟩, K0⟩
  · rw [h1]
    have p3 : ((la.length : Nat) : Int) = ((lb.length : Nat) : Int) := of_bne_f h1
    refine q_skip (by kernel_rfl) ?_
    refine q_seq (by kernel_rfl) ?_
    refine q_seq (by kernel_rfl) ?_
    refine q_region (by kernel_rfl) ?_
    refine Ops.regs 1 [(0, (Value.slice A la.length c)), (1, (Value.slice B lb.length d)), (4, (Value.bool false)), (5, (i64 0))] (j := 1) (by kernel_rfl) (by kernel_rfl) ?_
    refine Ops.done (by kernel_rfl) ?_
    refine q_block (id := 0) (by kernel_rfl) ?_
    refine q_keep (R := [(0, (Value.slice A la.length c)), (1, (Value.slice B lb.length d)), (5, (i64 0))]) (by kernel_rfl) ?_
    refine q_loop (fun (i : Nat) L (wx : World) => L = [(0, (Value.slice A la.length c)), (1, (Value.slice B lb.length d)), (5, (i64 ((i : Nat) : Int)))] ∧ la.take i = lb.take i ∧ i ≤ la.length ∧ Keeps none_ w wx) (fun (i : Nat) => la.length - i) 0 (by kernel_rfl) ⟨rfl, rfl, Nat.zero_le _, K0⟩ ?_
    clear K0
    rintro i _ w4 ⟨rfl, hE, hi, K5⟩
    refine q_seq (by kernel_rfl) ?_
    refine q_seq (by kernel_rfl) ?_
    refine q_region (by kernel_rfl) ?_
    refine Ops.regs 4 [(0, (Value.slice A la.length c)), (1, (Value.slice B lb.length d)), (5, (i64 ((i : Nat) : Int))), (14, (Value.bool (decide (((i : Nat) : Int) < ((la.length : Nat) : Int)))))] (j := 4) (by kernel_rfl) (by kernel_rfl) ?_
    refine Ops.done (by kernel_rfl) ?_
    refine q_cond (o := .tmp 14) (b := (decide (((i : Nat) : Int) < ((la.length : Nat) : Int)))) (by kernel_rfl) rfl (fun h6 => ?_) (fun h6 => ?_)
    · rw [h6]
      have p7 : ((i : Nat) : Int) < ((la.length : Nat) : Int) := of_decide_eq_true h6
      obtain ⟨rb8, ro9, x, hA10, hx11⟩ := RdT.open (Rd.keep0 (by omega) hA K5) rfl (k := i) (by omega)
      obtain ⟨rb12, ro13, y, hA14, hx15⟩ := RdT.open (Rd.keep0 (by omega) hB K5) rfl (k := i) (by omega)
      have hX := hx11
      have hY := hx15
      refine q_skip (by kernel_rfl) ?_
      refine q_seq (by kernel_rfl) ?_
      refine q_block (id := 1) (by kernel_rfl) ?_
      refine q_seq (by kernel_rfl) ?_
      refine q_draw (fun wz => Keeps none_ w4 wz) 9 (by kernel_rfl) (by kernel_rfl) (by kernel_rfl) (fun w16 K17 _ _ => ⟨K17, ?_⟩)
      have K18 := K5.trans K17 (U := none_) (fun i h1 h2 => h2) (fun i h1 h2 => by exact h2)
      clear K5
      refine Dr.strong (S' := (fun wz => Keeps none_ w16 wz)) (Keeps.refl w16) (fun wz hx => K17.trans hx (fun i _ h => h) (fun _ _ h => h)) ?_
      clear K17
      refine Dr.takes (fuel' := 7) (is' := [1, 0]) [0, 1] [(0, (Value.slice A la.length c)), (1, (Value.slice B lb.length d)), (5, (i64 ((i : Nat) : Int))), (14, (Value.bool true)), (17, (Value.slice A la.length c)), (18, (i64 ((i : Nat) : Int)))] (by kernel_rfl) rfl (by kernel_rfl) ?_
      refine Dr.take (i := 2) (v := (Value.pointer (some ⟨rb8, ro9 + i * 2, none⟩))) (by kernel_rfl) (by kernel_rfl) (fun wz hS => Runs.ixSliceE (k := IntKind.i64) (t := 44) (len := la.length) (cap := c) (s := 2) (off' := ro9 + i * 2) (i := ((i : Nat) : Int)) hA10 (by kernel_rfl) (by kernel_rfl) (by omega) (by omega) (by omega)) (d := (some 19)) (by kernel_rfl) rfl ?_
      refine Dr.take (i := 3) (v := (agg [(Value.string (str x.name)), (i64 x.amount)])) (by kernel_rfl) (by kernel_rfl) (fun wz hS => Runs.load (t := 82) (a := ⟨rb8, ro9 + i * 2, none⟩) (by kernel_rfl) (RdT.ld (f := RowM.cells) (x := x) RowM.two (Rd.keep0 (by omega) hA (K18.trans hS (fun _ _ h => h) (fun _ _ h => h))) (by kernel_rfl) (by kernel_rfl) hA10 hx11)) (d := (some 20)) (by kernel_rfl) rfl ?_
      refine Dr.takes (fuel' := 3) (is' := [5, 4, 3, 2, 1, 0]) [4, 5] [(0, (Value.slice A la.length c)), (1, (Value.slice B lb.length d)), (5, (i64 ((i : Nat) : Int))), (14, (Value.bool true)), (20, (agg [(Value.string (str x.name)), (i64 x.amount)])), (21, (Value.slice B lb.length d)), (22, (i64 ((i : Nat) : Int)))] (by kernel_rfl) rfl (by kernel_rfl) ?_
      refine Dr.take (i := 6) (v := (Value.pointer (some ⟨rb12, ro13 + i * 2, none⟩))) (by kernel_rfl) (by kernel_rfl) (fun wz hS => Runs.ixSliceE (k := IntKind.i64) (t := 44) (len := lb.length) (cap := d) (s := 2) (off' := ro13 + i * 2) (i := ((i : Nat) : Int)) hA14 (by kernel_rfl) (by kernel_rfl) (by omega) (by omega) (by omega)) (d := (some 23)) (by kernel_rfl) rfl ?_
      refine Dr.take (i := 7) (v := (agg [(Value.string (str y.name)), (i64 y.amount)])) (by kernel_rfl) (by kernel_rfl) (fun wz hS => Runs.load (t := 82) (a := ⟨rb12, ro13 + i * 2, none⟩) (by kernel_rfl) (RdT.ld (f := RowM.cells) (x := y) RowM.two (Rd.keep0 (by omega) hB (K18.trans hS (fun _ _ h => h) (fun _ _ h => h))) (by kernel_rfl) (by kernel_rfl) hA14 hx15)) (d := (some 24)) (by kernel_rfl) rfl ?_
      refine Dr.take (i := 8) (v := (Value.bool (!(aggB [(Value.string (str x.name)), (i64 x.amount)] [(Value.string (str y.name)), (i64 y.amount)])))) (by kernel_rfl) (by kernel_rfl) (fun wz hS => Runs.aggne (t := 82) (by kernel_rfl) (by kernel_rfl)) (d := (some 25)) (by kernel_rfl) rfl ?_
      refine Dr.done (by kernel_rfl) ?_
      refine q_cond (o := .tmp 25) (b := (!(aggB [(Value.string (str x.name)), (i64 x.amount)] [(Value.string (str y.name)), (i64 y.amount)]))) (by kernel_rfl) rfl (fun h19 => ?_) (fun h19 => ?_)
      · rw [h19]
        have p20 : (aggB [(Value.string (str x.name)), (i64 x.amount)] [(Value.string (str y.name)), (i64 y.amount)]) = false := (bnot_true h19)
        have hxy := aggB_row_f (bnot_true h19)
        refine q_seq (by kernel_rfl) ?_
        refine q_region (by kernel_rfl) ?_
        refine Ops.regs 1 [(0, (Value.slice A la.length c)), (1, (Value.slice B lb.length d)), (4, (Value.bool false)), (5, (i64 ((i : Nat) : Int))), (14, (Value.bool true)), (25, (Value.bool true))] (j := 1) (by kernel_rfl) (by kernel_rfl) ?_
        refine Ops.done (by kernel_rfl) ?_
        refine q_ret (by kernel_rfl) ?_
        refine ⟨(Value.bool false), retv_tmp rfl rfl, ?_⟩
        exact ⟨false, rfl, ⟨fun h => (by cases h), fun h => absurd h (getElem_ne hX hY hxy)⟩, K18⟩
      · rw [h19]
        have p21 : (aggB [(Value.string (str x.name)), (i64 x.amount)] [(Value.string (str y.name)), (i64 y.amount)]) = true := (bnot_false h19)
        have hxy := (aggB_row x y).1 (bnot_false h19)
        refine q_skip (by kernel_rfl) ?_
        refine q_region (by kernel_rfl) ?_
        refine Ops.regs 2 [(0, (Value.slice A la.length c)), (1, (Value.slice B lb.length d)), (5, (i64 ((i : Nat) : Int))), (14, (Value.bool true)), (16, (i64 (IntKind.i64.wrap (((i : Nat) : Int) + 1)))), (25, (Value.bool false))] (j := 2) (by kernel_rfl) (by kernel_rfl) ?_
        have e22 : IntKind.i64.wrap (((i : Nat) : Int) + 1) = ((i + 1 : Nat) : Int) := by rw [wrap_i64 (by omega) (by omega)]; omega
        rw [e22]
        clear e22
        refine Ops.regs 1 [(0, (Value.slice A la.length c)), (1, (Value.slice B lb.length d)), (5, (i64 ((i + 1 : Nat) : Int))), (14, (Value.bool true)), (25, (Value.bool false))] (j := 3) (by kernel_rfl) (by kernel_rfl) ?_
        refine Ops.keep (R := [(0, (Value.slice A la.length c)), (1, (Value.slice B lb.length d)), (5, (i64 ((i + 1 : Nat) : Int)))]) (by kernel_rfl) ?_
        refine Ops.done (by kernel_rfl) ?_
        exact ⟨i + 1, ⟨rfl, (take_eq_succ hE hX (hxy ▸ hY)), (by omega), K18⟩, (show la.length - (i + 1) < la.length - i from by omega)⟩
    · rw [h6]
      have p23 : ¬ (((i : Nat) : Int) < ((la.length : Nat) : Int)) := of_decide_eq_false h6
      refine q_exit (id := 0) (by kernel_rfl) ?_
      refine q_seq (by kernel_rfl) ?_
      refine q_region (by kernel_rfl) ?_
      refine Ops.regs 1 [(4, (Value.bool true))] (j := 1) (by kernel_rfl) (by kernel_rfl) ?_
      refine Ops.done (by kernel_rfl) ?_
      refine q_ret (by kernel_rfl) ?_
      refine ⟨(Value.bool true), retv_tmp rfl rfl, ?_⟩
      exact ⟨true, rfl, ⟨fun _ => take_all_eq hE (by omega) (by omega), fun _ => rfl⟩, K5⟩

theorem SameReply_calls (w : World) (A : Option Addr) (c : Nat) (x : ReplyM) (B : Option Addr) (d : Nat) (y : ReplyM) (hA : RdR w (.slice A x.rows.length c) x.rows) (hB : RdR w (.slice B y.rows.length d) y.rows) : Calls Try.prog 39 ⟨[(agg [(i64 x.why), (i64 x.amount), (Value.slice A x.rows.length c)]), (agg [(i64 y.why), (i64 y.amount), (Value.slice B y.rows.length d)])]⟩ w (fun e w' => ∃ t, e = .returned (.bool t) ∧ (t = true ↔ x = y) ∧ Keeps none_ w w') := by
  have K0 : Keeps none_ w w := Keeps.refl w
  refine q_calls Try.func39 (by kernel_rfl) (by kernel_rfl) ?_
  refine q_seq (by kernel_rfl) ?_
  refine q_region (by kernel_rfl) ?_
  refine Ops.new (o := rowL [(i64 x.why), (i64 x.amount), (Value.slice A x.rows.length c)] 46) (V := fun b => (Value.pointer (some ⟨b, 0, none⟩))) (by kernel_rfl) (d := (some 2)) (by kernel_rfl) (fun b => rfl) (fun b1 w2 hb3 H4 K5 hs6 => ?_)
  have nb1 : w.heap.size ≤ b1 := by have := K0.size; omega
  have K7 := K0.trans K5 (U := none_) (fun i h1 h2 => h2) (fun i h1 h2 => by exact h2)
  clear K0
  clear K5 hs6
  refine Ops.new (o := rowL [(i64 y.why), (i64 y.amount), (Value.slice B y.rows.length d)] 46) (V := fun b => (Value.pointer (some ⟨b, 0, none⟩))) (by kernel_rfl) (d := (some 3)) (by kernel_rfl) (fun b => rfl) (fun b8 w9 hb10 H11 K12 hs13 => ?_)
  have lb8 : b1 < b8 := by have := H4.lt; omega
  have nb8 : w.heap.size ≤ b8 := by have := K7.size; omega
  have K14 := K7.trans K12 (U := none_) (fun i h1 h2 => h2) (fun i h1 h2 => by exact h2)
  clear K7
  have H15 := H4.keep K12 (fun h => h)
  clear H4
  clear K12 hs13
  refine Ops.regs 1 [(2, (Value.pointer (some ⟨b1, 0, none⟩))), (3, (Value.pointer (some ⟨b8, 0, none⟩))), (4, (Value.bool false))] (j := 3) (by kernel_rfl) (by kernel_rfl) ?_
  refine Ops.done (by kernel_rfl) ?_
  refine q_seq (by kernel_rfl) ?_
  refine q_region (by kernel_rfl) ?_
  refine Ops.regs 1 [(2, (Value.pointer (some ⟨b1, 0, none⟩))), (3, (Value.pointer (some ⟨b8, 0, none⟩))), (4, (Value.bool false)), (5, (Value.pointer (some ⟨b1, 0, none⟩)))] (j := 1) (by kernel_rfl) (by kernel_rfl) ?_
  refine Ops.go (v := (i64 x.why)) (by kernel_rfl) (Runs.load (t := 28) (a := ⟨b1, 0, none⟩) (by kernel_rfl) (H15.loads (by kernel_rfl))) (d := (some 6)) (by kernel_rfl) rfl ?_
  refine Ops.regs 1 [(2, (Value.pointer (some ⟨b1, 0, none⟩))), (3, (Value.pointer (some ⟨b8, 0, none⟩))), (4, (Value.bool false)), (6, (i64 x.why)), (7, (Value.pointer (some ⟨b8, 0, none⟩)))] (j := 3) (by kernel_rfl) (by kernel_rfl) ?_
  refine Ops.go (v := (i64 y.why)) (by kernel_rfl) (Runs.load (t := 28) (a := ⟨b8, 0, none⟩) (by kernel_rfl) (H11.loads (by kernel_rfl))) (d := (some 8)) (by kernel_rfl) rfl ?_
  refine Ops.regs 2 [(2, (Value.pointer (some ⟨b1, 0, none⟩))), (3, (Value.pointer (some ⟨b8, 0, none⟩))), (4, (Value.bool false)), (10, (Value.bool (x.why == y.why)))] (j := 6) (by kernel_rfl) (by kernel_rfl) ?_
  refine Ops.split (x.why == y.why) (fun h16 => ?_) (fun h16 => ?_)
  · rw [h16]
    have p17 : x.why = y.why := of_beq_t h16
    refine Ops.regs 1 [(2, (Value.pointer (some ⟨b1, 0, none⟩))), (3, (Value.pointer (some ⟨b8, 0, none⟩))), (4, (Value.bool false)), (10, (Value.bool true)), (11, (Value.pointer (some ⟨b1, 1, none⟩)))] (j := 7) (by kernel_rfl) (by kernel_rfl) ?_
    refine Ops.go (v := (i64 x.amount)) (by kernel_rfl) (Runs.load (t := 2) (a := ⟨b1, 1, none⟩) (by kernel_rfl) (H15.loads (by kernel_rfl))) (d := (some 12)) (by kernel_rfl) rfl ?_
    refine Ops.regs 1 [(2, (Value.pointer (some ⟨b1, 0, none⟩))), (3, (Value.pointer (some ⟨b8, 0, none⟩))), (4, (Value.bool false)), (10, (Value.bool true)), (12, (i64 x.amount)), (13, (Value.pointer (some ⟨b8, 1, none⟩)))] (j := 9) (by kernel_rfl) (by kernel_rfl) ?_
    refine Ops.go (v := (i64 y.amount)) (by kernel_rfl) (Runs.load (t := 2) (a := ⟨b8, 1, none⟩) (by kernel_rfl) (H11.loads (by kernel_rfl))) (d := (some 14)) (by kernel_rfl) rfl ?_
    refine Ops.regs 3 [(2, (Value.pointer (some ⟨b1, 0, none⟩))), (3, (Value.pointer (some ⟨b8, 0, none⟩))), (4, (Value.bool false)), (17, (Value.bool (x.amount == y.amount)))] (j := 13) (by kernel_rfl) (by kernel_rfl) ?_
    refine Ops.split (x.amount == y.amount) (fun h18 => ?_) (fun h18 => ?_)
    · rw [h18]
      have p19 : x.amount = y.amount := of_beq_t h18
      refine Ops.regs 1 [(3, (Value.pointer (some ⟨b8, 0, none⟩))), (4, (Value.bool false)), (17, (Value.bool true)), (18, (Value.pointer (some ⟨b1, 2, none⟩)))] (j := 14) (by kernel_rfl) (by kernel_rfl) ?_
      refine Ops.go (v := (Value.slice A x.rows.length c)) (by kernel_rfl) (Runs.load (t := 44) (a := ⟨b1, 2, none⟩) (by kernel_rfl) (H15.loads (by kernel_rfl))) (d := (some 19)) (by kernel_rfl) rfl ?_
      refine Ops.regs 1 [(4, (Value.bool false)), (17, (Value.bool true)), (19, (Value.slice A x.rows.length c)), (20, (Value.pointer (some ⟨b8, 2, none⟩)))] (j := 16) (by kernel_rfl) (by kernel_rfl) ?_
      refine Ops.go (v := (Value.slice B y.rows.length d)) (by kernel_rfl) (Runs.load (t := 44) (a := ⟨b8, 2, none⟩) (by kernel_rfl) (H11.loads (by kernel_rfl))) (d := (some 21)) (by kernel_rfl) rfl ?_
      refine Ops.call (by kernel_rfl) (d := (some 22)) (by kernel_rfl) (SameRows_calls _ A c x.rows B d y.rows (Rd.keep0 (by omega) hA K14) (Rd.keep0 (by omega) hB K14)) ?_
      rintro _ w23 ⟨t20, rfl, ht21, K22⟩
      refine ⟨_, _, rfl, rfl, ?_⟩
      have K24 := K14.trans K22 (U := none_) (fun i h1 h2 => h2) (fun i h1 h2 => by exact h2)
      clear K14
      have H25 := H15.keep K22 (fun h => h)
      clear H15
      have H26 := H11.keep K22 (fun h => h)
      clear H11
      clear K22
      refine Ops.regs 2 [(4, (Value.bool t20))] (j := 20) (by kernel_rfl) (by kernel_rfl) ?_
      refine Ops.done (by kernel_rfl) ?_
      refine q_ret (by kernel_rfl) ?_
      refine ⟨(Value.bool t20), retv_tmp rfl rfl, ?_⟩
      exact ⟨_, rfl, ⟨fun h => by have := ht21.1 h; cases x; cases y; simp only at *; simp only [ReplyM.mk.injEq]; exact ⟨by omega, by omega, this⟩, fun h => ht21.2 (by rw [h])⟩, K24⟩
    · rw [h18]
      have p27 : ¬ (x.amount = y.amount) := of_beq_f h18
      refine Ops.regs 7 [(4, (Value.bool false))] (j := 20) (by kernel_rfl) (by kernel_rfl) ?_
      refine Ops.done (by kernel_rfl) ?_
      refine q_ret (by kernel_rfl) ?_
      refine ⟨(Value.bool false), retv_tmp rfl rfl, ?_⟩
      exact ⟨false, rfl, ⟨fun h => (by cases h), fun h => by subst h; exfalso; omega⟩, K14⟩
  · rw [h16]
    have p28 : ¬ (x.why = y.why) := of_beq_f h16
    refine Ops.regs 14 [(4, (Value.bool false))] (j := 20) (by kernel_rfl) (by kernel_rfl) ?_
    refine Ops.done (by kernel_rfl) ?_
    refine q_ret (by kernel_rfl) ?_
    refine ⟨(Value.bool false), retv_tmp rfl rfl, ?_⟩
    exact ⟨false, rfl, ⟨fun h => (by cases h), fun h => by subst h; exfalso; omega⟩, K14⟩

theorem ok_nil (w : World)   : Calls Try.prog 58 ⟨[(Value.pointer none)]⟩ w (fun e w' => e = .returned (Value.bool false) ∧ Keeps none_ w w') := by
  have K0 : Keeps none_ w w := Keeps.refl w
  refine q_calls Try.func58 (by kernel_rfl) (by kernel_rfl) ?_
  refine q_seq (by kernel_rfl) ?_
  refine q_region (by kernel_rfl) ?_
  refine Ops.regs 1 [(0, (Value.pointer none)), (2, (Value.bool false))] (j := 1) (by kernel_rfl) (by kernel_rfl) ?_
  refine Ops.done (by kernel_rfl) ?_
  refine q_seq (by kernel_rfl) ?_
  refine q_region (by kernel_rfl) ?_
  refine Ops.regs 10 [(2, (Value.bool false))] (j := 10) (by kernel_rfl) (by kernel_rfl) ?_
  refine Ops.done (by kernel_rfl) ?_
  refine q_ret (by kernel_rfl) ?_
  refine ⟨(Value.bool false), retv_tmp rfl rfl, ?_⟩
  exact ⟨rfl, K0⟩

theorem Uint_nil (w : World)   : Calls Try.prog 14 ⟨[(Value.pointer none)]⟩ w (fun e w' => e = .returned (Value.int IntKind.u64 0) ∧ Keeps none_ w w') := by
  have K0 : Keeps none_ w w := Keeps.refl w
  refine q_calls Try.func14 (by kernel_rfl) (by kernel_rfl) ?_
  refine q_seq (by kernel_rfl) ?_
  refine q_region (by kernel_rfl) ?_
  refine Ops.regs 1 [(0, (Value.pointer none)), (2, (Value.int IntKind.u64 0))] (j := 1) (by kernel_rfl) (by kernel_rfl) ?_
  refine Ops.done (by kernel_rfl) ?_
  refine q_seq (by kernel_rfl) ?_
  refine q_seq (by kernel_rfl) ?_
  refine q_region (by kernel_rfl) ?_
  refine Ops.regs 1 [(0, (Value.pointer none)), (2, (Value.int IntKind.u64 0)), (6, (Value.pointer none))] (j := 1) (by kernel_rfl) (by kernel_rfl) ?_
  refine Ops.call (by kernel_rfl) (d := (some 7)) (by kernel_rfl) (ok_nil _ ) ?_
  rintro _ w1 ⟨rfl, K2⟩
  refine ⟨_, _, rfl, rfl, ?_⟩
  have K3 := K0.trans K2 (U := none_) (fun i h1 h2 => h2) (fun i h1 h2 => by exact h2)
  clear K0
  clear K2
  refine Ops.regs 1 [(0, (Value.pointer none)), (2, (Value.int IntKind.u64 0)), (8, (Value.bool true))] (j := 3) (by kernel_rfl) (by kernel_rfl) ?_
  refine Ops.done (by kernel_rfl) ?_
  refine q_then (o := .tmp 8) (by kernel_rfl) rfl ?_
  refine q_seq (by kernel_rfl) ?_
  refine q_region (by kernel_rfl) ?_
  refine Ops.regs 1 [(0, (Value.pointer none)), (2, (Value.int IntKind.u64 0))] (j := 1) (by kernel_rfl) (by kernel_rfl) ?_
  refine Ops.done (by kernel_rfl) ?_
  refine q_ret (by kernel_rfl) ?_
  refine ⟨(Value.int IntKind.u64 0), retv_tmp rfl rfl, ?_⟩
  exact ⟨rfl, K3⟩

theorem Int_nil (w : World)   : Calls Try.prog 47 ⟨[(Value.pointer none)]⟩ w (fun e w' => e = .returned (i64 0) ∧ Keeps none_ w w') := by
  have K0 : Keeps none_ w w := Keeps.refl w
  refine q_calls Try.func47 (by kernel_rfl) (by kernel_rfl) ?_
  refine q_seq (by kernel_rfl) ?_
  refine q_region (by kernel_rfl) ?_
  refine Ops.regs 1 [(0, (Value.pointer none)), (2, (i64 0))] (j := 1) (by kernel_rfl) (by kernel_rfl) ?_
  refine Ops.done (by kernel_rfl) ?_
  refine q_seq (by kernel_rfl) ?_
  refine q_region (by kernel_rfl) ?_
  refine Ops.regs 1 [(2, (i64 0)), (4, (Value.pointer none))] (j := 1) (by kernel_rfl) (by kernel_rfl) ?_
  refine Ops.call (by kernel_rfl) (d := (some 5)) (by kernel_rfl) (Uint_nil _ ) ?_
  rintro _ w1 ⟨rfl, K2⟩
  refine ⟨_, _, rfl, rfl, ?_⟩
  have K3 := K0.trans K2 (U := none_) (fun i h1 h2 => h2) (fun i h1 h2 => by exact h2)
  clear K0
  clear K2
  refine Ops.regs 1 [(2, (i64 0)), (3, (Value.int IntKind.u64 0))] (j := 3) (by kernel_rfl) (by kernel_rfl) ?_
  refine Ops.done (by kernel_rfl) ?_
  refine q_seq (by kernel_rfl) ?_
  refine q_region (by kernel_rfl) ?_
  refine Ops.regs 9 [(2, (i64 0))] (j := 9) (by kernel_rfl) (by kernel_rfl) ?_
  refine Ops.done (by kernel_rfl) ?_
  refine q_ret (by kernel_rfl) ?_
  refine ⟨(i64 0), retv_tmp rfl rfl, ?_⟩
  exact ⟨rfl, K3⟩

theorem sized_nil (w : World) (most : Int)  : Calls Try.prog 67 ⟨[(Value.pointer none), (i64 most)]⟩ w (fun e w' => e = .returned (i64 0) ∧ Keeps none_ w w') := by
  have K0 : Keeps none_ w w := Keeps.refl w
  refine q_calls Try.func67 (by kernel_rfl) (by kernel_rfl) ?_
  refine q_seq (by kernel_rfl) ?_
  refine q_region (by kernel_rfl) ?_
  refine Ops.regs 1 [(0, (Value.pointer none)), (1, (i64 most)), (4, (i64 0))] (j := 1) (by kernel_rfl) (by kernel_rfl) ?_
  refine Ops.done (by kernel_rfl) ?_
  refine q_seq (by kernel_rfl) ?_
  refine q_seq (by kernel_rfl) ?_
  refine q_region (by kernel_rfl) ?_
  refine Ops.regs 1 [(0, (Value.pointer none)), (1, (i64 most)), (4, (i64 0)), (7, (Value.pointer none))] (j := 1) (by kernel_rfl) (by kernel_rfl) ?_
  refine Ops.call (by kernel_rfl) (d := (some 8)) (by kernel_rfl) (ok_nil _ ) ?_
  rintro _ w1 ⟨rfl, K2⟩
  refine ⟨_, _, rfl, rfl, ?_⟩
  have K3 := K0.trans K2 (U := none_) (fun i h1 h2 => h2) (fun i h1 h2 => by exact h2)
  clear K0
  clear K2
  refine Ops.regs 1 [(0, (Value.pointer none)), (1, (i64 most)), (4, (i64 0)), (9, (Value.bool true))] (j := 3) (by kernel_rfl) (by kernel_rfl) ?_
  refine Ops.done (by kernel_rfl) ?_
  refine q_then (o := .tmp 9) (by kernel_rfl) rfl ?_
  refine q_seq (by kernel_rfl) ?_
  refine q_region (by kernel_rfl) ?_
  refine Ops.regs 1 [(0, (Value.pointer none)), (1, (i64 most)), (4, (i64 0))] (j := 1) (by kernel_rfl) (by kernel_rfl) ?_
  refine Ops.done (by kernel_rfl) ?_
  refine q_ret (by kernel_rfl) ?_
  refine ⟨(i64 0), retv_tmp rfl rfl, ?_⟩
  exact ⟨rfl, K3⟩

theorem Count_nil (w : World) (most : Int)  : Calls Try.prog 42 ⟨[(Value.pointer none), (i64 most)]⟩ w (fun e w' => e = .returned (i64 0) ∧ Keeps none_ w w') := by
  have K0 : Keeps none_ w w := Keeps.refl w
  refine q_calls Try.func42 (by kernel_rfl) (by kernel_rfl) ?_
  refine q_seq (by kernel_rfl) ?_
  refine q_region (by kernel_rfl) ?_
  refine Ops.regs 1 [(0, (Value.pointer none)), (1, (i64 most)), (4, (i64 0))] (j := 1) (by kernel_rfl) (by kernel_rfl) ?_
  refine Ops.done (by kernel_rfl) ?_
  refine q_seq (by kernel_rfl) ?_
  refine q_region (by kernel_rfl) ?_
  refine Ops.regs 2 [(4, (i64 0)), (5, (Value.pointer none)), (6, (i64 most))] (j := 2) (by kernel_rfl) (by kernel_rfl) ?_
  refine Ops.call (by kernel_rfl) (d := (some 7)) (by kernel_rfl) (sized_nil _ most) ?_
  rintro _ w1 ⟨rfl, K2⟩
  refine ⟨_, _, rfl, rfl, ?_⟩
  have K3 := K0.trans K2 (U := none_) (fun i h1 h2 => h2) (fun i h1 h2 => by exact h2)
  clear K0
  clear K2
  refine Ops.regs 1 [(4, (i64 0))] (j := 4) (by kernel_rfl) (by kernel_rfl) ?_
  refine Ops.done (by kernel_rfl) ?_
  refine q_ret (by kernel_rfl) ?_
  refine ⟨(i64 0), retv_tmp rfl rfl, ?_⟩
  exact ⟨rfl, K3⟩

theorem Bytes_nil (w : World)   : Calls Try.prog 48 ⟨[(Value.pointer none)]⟩ w (fun e w' => e = .returned (Value.slice none 0 0) ∧ Keeps none_ w w') := by
  have K0 : Keeps none_ w w := Keeps.refl w
  refine q_calls Try.func48 (by kernel_rfl) (by kernel_rfl) ?_
  refine q_seq (by kernel_rfl) ?_
  refine q_region (by kernel_rfl) ?_
  refine Ops.regs 1 [(0, (Value.pointer none)), (2, (Value.slice none 0 0))] (j := 1) (by kernel_rfl) (by kernel_rfl) ?_
  refine Ops.done (by kernel_rfl) ?_
  refine q_seq (by kernel_rfl) ?_
  refine q_region (by kernel_rfl) ?_
  refine Ops.regs 1 [(0, (Value.pointer none)), (2, (Value.slice none 0 0)), (5, (Value.pointer none))] (j := 1) (by kernel_rfl) (by kernel_rfl) ?_
  refine Ops.call (by kernel_rfl) (d := (some 6)) (by kernel_rfl) (sized_nil _ 65536) ?_
  rintro _ w1 ⟨rfl, K2⟩
  refine ⟨_, _, rfl, rfl, ?_⟩
  have K3 := K0.trans K2 (U := none_) (fun i h1 h2 => h2) (fun i h1 h2 => by exact h2)
  clear K0
  clear K2
  refine Ops.regs 1 [(0, (Value.pointer none)), (2, (Value.slice none 0 0)), (3, (i64 0))] (j := 3) (by kernel_rfl) (by kernel_rfl) ?_
  refine Ops.done (by kernel_rfl) ?_
  refine q_seq (by kernel_rfl) ?_
  refine q_seq (by kernel_rfl) ?_
  refine q_region (by kernel_rfl) ?_
  refine Ops.regs 1 [(0, (Value.pointer none)), (2, (Value.slice none 0 0)), (3, (i64 0)), (7, (Value.pointer none))] (j := 1) (by kernel_rfl) (by kernel_rfl) ?_
  refine Ops.call (by kernel_rfl) (d := (some 8)) (by kernel_rfl) (ok_nil _ ) ?_
  rintro _ w4 ⟨rfl, K5⟩
  refine ⟨_, _, rfl, rfl, ?_⟩
  have K6 := K3.trans K5 (U := none_) (fun i h1 h2 => h2) (fun i h1 h2 => by exact h2)
  clear K3
  clear K5
  refine Ops.regs 1 [(0, (Value.pointer none)), (2, (Value.slice none 0 0)), (3, (i64 0)), (9, (Value.bool true))] (j := 3) (by kernel_rfl) (by kernel_rfl) ?_
  refine Ops.done (by kernel_rfl) ?_
  refine q_then (o := .tmp 9) (by kernel_rfl) rfl ?_
  refine q_seq (by kernel_rfl) ?_
  refine q_region (by kernel_rfl) ?_
  refine Ops.regs 1 [(0, (Value.pointer none)), (2, (Value.slice none 0 0)), (3, (i64 0))] (j := 1) (by kernel_rfl) (by kernel_rfl) ?_
  refine Ops.done (by kernel_rfl) ?_
  refine q_ret (by kernel_rfl) ?_
  refine ⟨(Value.slice none 0 0), retv_tmp rfl rfl, ?_⟩
  exact ⟨rfl, K6⟩

theorem Text_nil (w : World)   : Calls Try.prog 41 ⟨[(Value.pointer none)]⟩ w (fun e w' => e = .returned (Value.string (str ([] : List UInt8))) ∧ Keeps none_ w w') := by
  have K0 : Keeps none_ w w := Keeps.refl w
  refine q_calls Try.func41 (by kernel_rfl) (by kernel_rfl) ?_
  refine q_seq (by kernel_rfl) ?_
  refine q_region (by kernel_rfl) ?_
  refine Ops.regs 1 [(0, (Value.pointer none)), (2, (Value.string (str ([] : List UInt8))))] (j := 1) (by kernel_rfl) (by kernel_rfl) ?_
  refine Ops.done (by kernel_rfl) ?_
  refine q_seq (by kernel_rfl) ?_
  refine q_region (by kernel_rfl) ?_
  refine Ops.regs 1 [(2, (Value.string (str ([] : List UInt8)))), (3, (Value.pointer none))] (j := 1) (by kernel_rfl) (by kernel_rfl) ?_
  refine Ops.call (by kernel_rfl) (d := (some 4)) (by kernel_rfl) (Bytes_nil _ ) ?_
  rintro _ w1 ⟨rfl, K2⟩
  refine ⟨_, _, rfl, rfl, ?_⟩
  have K3 := K0.trans K2 (U := none_) (fun i h1 h2 => h2) (fun i h1 h2 => by exact h2)
  clear K0
  clear K2
  refine Ops.go (v := (Value.string (str []))) (by kernel_rfl) (Runs.b2s (s := 23) (d := 9) (e := 5) (by kernel_rfl) (by kernel_rfl) (by kernel_rfl) (Rd.nil _ _)) (d := (some 5)) (by kernel_rfl) rfl ?_
  refine Ops.regs 1 [(2, (Value.string (str [])))] (j := 4) (by kernel_rfl) (by kernel_rfl) ?_
  refine Ops.done (by kernel_rfl) ?_
  refine q_ret (by kernel_rfl) ?_
  refine ⟨(Value.string (str [])), retv_tmp rfl rfl, ?_⟩
  exact ⟨rfl, K3⟩

theorem Bool_nil (w : World)   : Calls Try.prog 40 ⟨[(Value.pointer none)]⟩ w (fun e w' => e = .returned (Value.bool false) ∧ Keeps none_ w w') := by
  have K0 : Keeps none_ w w := Keeps.refl w
  refine q_calls Try.func40 (by kernel_rfl) (by kernel_rfl) ?_
  refine q_seq (by kernel_rfl) ?_
  refine q_region (by kernel_rfl) ?_
  refine Ops.regs 1 [(0, (Value.pointer none)), (2, (Value.bool false))] (j := 1) (by kernel_rfl) (by kernel_rfl) ?_
  refine Ops.done (by kernel_rfl) ?_
  refine q_seq (by kernel_rfl) ?_
  refine q_seq (by kernel_rfl) ?_
  refine q_region (by kernel_rfl) ?_
  refine Ops.regs 1 [(0, (Value.pointer none)), (2, (Value.bool false)), (4, (Value.pointer none))] (j := 1) (by kernel_rfl) (by kernel_rfl) ?_
  refine Ops.call (by kernel_rfl) (d := (some 5)) (by kernel_rfl) (ok_nil _ ) ?_
  rintro _ w1 ⟨rfl, K2⟩
  refine ⟨_, _, rfl, rfl, ?_⟩
  have K3 := K0.trans K2 (U := none_) (fun i h1 h2 => h2) (fun i h1 h2 => by exact h2)
  clear K0
  clear K2
  refine Ops.regs 1 [(0, (Value.pointer none)), (2, (Value.bool false)), (6, (Value.bool true))] (j := 3) (by kernel_rfl) (by kernel_rfl) ?_
  refine Ops.done (by kernel_rfl) ?_
  refine q_then (o := .tmp 6) (by kernel_rfl) rfl ?_
  refine q_seq (by kernel_rfl) ?_
  refine q_region (by kernel_rfl) ?_
  refine Ops.regs 1 [(0, (Value.pointer none)), (2, (Value.bool false))] (j := 1) (by kernel_rfl) (by kernel_rfl) ?_
  refine Ops.done (by kernel_rfl) ?_
  refine q_ret (by kernel_rfl) ?_
  refine ⟨(Value.bool false), retv_tmp rfl rfl, ?_⟩
  exact ⟨rfl, K3⟩

theorem End_nil (w : World)   : Calls Try.prog 15 ⟨[(Value.pointer none)]⟩ w (fun e w' => e = .returned (i64 2) ∧ Keeps none_ w w') := by
  have K0 : Keeps none_ w w := Keeps.refl w
  refine q_calls Try.func15 (by kernel_rfl) (by kernel_rfl) ?_
  refine q_seq (by kernel_rfl) ?_
  refine q_region (by kernel_rfl) ?_
  refine Ops.regs 1 [(0, (Value.pointer none)), (2, (i64 0))] (j := 1) (by kernel_rfl) (by kernel_rfl) ?_
  refine Ops.done (by kernel_rfl) ?_
  refine q_seq (by kernel_rfl) ?_
  refine q_block (id := 0) (by kernel_rfl) ?_
  refine q_seq (by kernel_rfl) ?_
  refine q_region (by kernel_rfl) ?_
  refine Ops.regs 3 [(0, (Value.pointer none)), (2, (i64 0)), (3, (Value.bool true))] (j := 3) (by kernel_rfl) (by kernel_rfl) ?_
  refine Ops.done (by kernel_rfl) ?_
  refine q_then (o := .tmp 3) (by kernel_rfl) rfl ?_
  refine q_seq (by kernel_rfl) ?_
  refine q_region (by kernel_rfl) ?_
  refine Ops.regs 1 [(0, (Value.pointer none)), (2, (i64 2))] (j := 1) (by kernel_rfl) (by kernel_rfl) ?_
  refine Ops.done (by kernel_rfl) ?_
  refine q_ret (by kernel_rfl) ?_
  refine ⟨(i64 2), retv_tmp rfl rfl, ?_⟩
  exact ⟨rfl, K0⟩

theorem At_nil (w : World)   : Calls Try.prog 16 ⟨[(Value.pointer none)]⟩ w (fun e w' => e = .returned (i64 0) ∧ Keeps none_ w w') := by
  have K0 : Keeps none_ w w := Keeps.refl w
  refine q_calls Try.func16 (by kernel_rfl) (by kernel_rfl) ?_
  refine q_seq (by kernel_rfl) ?_
  refine q_region (by kernel_rfl) ?_
  refine Ops.regs 1 [(0, (Value.pointer none)), (2, (i64 0))] (j := 1) (by kernel_rfl) (by kernel_rfl) ?_
  refine Ops.done (by kernel_rfl) ?_
  refine q_seq (by kernel_rfl) ?_
  refine q_seq (by kernel_rfl) ?_
  refine q_region (by kernel_rfl) ?_
  refine Ops.regs 2 [(0, (Value.pointer none)), (2, (i64 0)), (4, (Value.bool true))] (j := 2) (by kernel_rfl) (by kernel_rfl) ?_
  refine Ops.done (by kernel_rfl) ?_
  refine q_then (o := .tmp 4) (by kernel_rfl) rfl ?_
  refine q_seq (by kernel_rfl) ?_
  refine q_region (by kernel_rfl) ?_
  refine Ops.regs 1 [(0, (Value.pointer none)), (2, (i64 0))] (j := 1) (by kernel_rfl) (by kernel_rfl) ?_
  refine Ops.done (by kernel_rfl) ?_
  refine q_ret (by kernel_rfl) ?_
  refine ⟨(i64 0), retv_tmp rfl rfl, ?_⟩
  exact ⟨rfl, K0⟩

set_option maxHeartbeats 4000000 in
theorem one_calls (w : World) (b1 b2 : Nat) (A1 A2 : Option Addr) (c1 c2 : Nat) (r : Rdr) (kind most : Int) (hm : -9223372036854775808 ≤ most ∧ most ≤ 9223372036854775807) (hb : b1 ≠ b2) (hok : r.Ok) (H1 : Has w b1 (rowL (rdrL A1 c1 r) 88)) (H2 : Has w b2 (rowL (rdrL A2 c2 r) 72)) (hR1 : RdO w A1 c1 r.bs) (hR2 : RdO w A2 c2 r.bs) (hne11 : ∀ g o s, A1 = some ⟨g, o, s⟩ → g ≠ b1) (hne12 : ∀ g o s, A1 = some ⟨g, o, s⟩ → g ≠ b2) (hne21 : ∀ g o s, A2 = some ⟨g, o, s⟩ → g ≠ b1) (hne22 : ∀ g o s, A2 = some ⟨g, o, s⟩ → g ≠ b2) : Calls Try.prog 45 ⟨[(Value.pointer (some ⟨b1, 0, none⟩)), (Value.pointer (some ⟨b2, 0, none⟩)), (i64 kind), (i64 most)]⟩ w (fun e w' => e = .returned (.bool true) ∧ Keeps (fun i => i = b1 ∨ i = b2) w w' ∧ Has w' b1 (rowL (rdrL A1 c1 (r.step kind most)) 88) ∧ Has w' b2 (rowL (rdrL A2 c2 (r.step kind most)) 72)) := by
  have K0 : Keeps (fun i => i = b1 ∨ i = b2) w w := (Keeps.refl w).mono (fun _ _ h => h.elim)
  have Hb1 := H1.lt
  have Hb2 := H2.lt
  have htm := tmod_range kind (k := 8) (by decide)
  refine q_calls Try.func45 (by kernel_rfl) (by kernel_rfl) ?_
  refine q_seq (by kernel_rfl) ?_
  refine q_region (by kernel_rfl) ?_
  refine Ops.regs 1 [(0, (Value.pointer (some ⟨b1, 0, none⟩))), (1, (Value.pointer (some ⟨b2, 0, none⟩))), (2, (i64 kind)), (3, (i64 most)), (8, (Value.bool false))] (j := 1) (by kernel_rfl) (by kernel_rfl) ?_
  refine Ops.done (by kernel_rfl) ?_
  refine q_seq (by kernel_rfl) ?_
  refine q_seq (by kernel_rfl) ?_
  refine q_region (by kernel_rfl) ?_
  refine Ops.regs 2 [(0, (Value.pointer (some ⟨b1, 0, none⟩))), (1, (Value.pointer (some ⟨b2, 0, none⟩))), (3, (i64 most)), (8, (Value.bool false)), (13, (i64 ((kind).tmod 8)))] (j := 2) (by kernel_rfl) (by kernel_rfl) ?_
  refine Ops.done (by kernel_rfl) ?_
  refine q_block (id := 0) (by kernel_rfl) ?_
  refine q_seq (by kernel_rfl) ?_
  refine q_region (by kernel_rfl) ?_
  refine Ops.regs 2 [(0, (Value.pointer (some ⟨b1, 0, none⟩))), (1, (Value.pointer (some ⟨b2, 0, none⟩))), (3, (i64 most)), (8, (Value.bool false)), (13, (i64 ((kind).tmod 8))), (14, (Value.bool (((kind).tmod 8) == 0)))] (j := 2) (by kernel_rfl) (by kernel_rfl) ?_
  refine Ops.done (by kernel_rfl) ?_
  refine q_cond (o := .tmp 14) (b := (((kind).tmod 8) == 0)) (by kernel_rfl) rfl (fun h1 => ?_) (fun h1 => ?_)
  · rw [h1]
    have p2 : (kind).tmod 8 = 0 := of_beq_t h1
    refine q_seq (by kernel_rfl) ?_
    refine q_region (by kernel_rfl) ?_
    refine Ops.regs 1 [(0, (Value.pointer (some ⟨b1, 0, none⟩))), (1, (Value.pointer (some ⟨b2, 0, none⟩))), (3, (i64 most)), (8, (Value.bool false)), (13, (i64 ((kind).tmod 8))), (16, (Value.pointer (some ⟨b1, 0, none⟩)))] (j := 1) (by kernel_rfl) (by kernel_rfl) ?_
    refine Ops.call (by kernel_rfl) (d := (some 17)) (by kernel_rfl) (RdUint_calls _ b1 A1 c1 r hok H1 hR1 hne11 ) ?_
    rintro _ w3 ⟨rfl, K4, H5⟩
    have hok6 : (r.uint).2.Ok := Rdr.Ok.uint hok
    have hu7 := Rdr.uint_lt r
    refine ⟨_, _, rfl, rfl, ?_⟩
    have K8 := K0.trans K4 (U := (fun i => i = b1 ∨ i = b2)) (fun i h1 h2 => h2) (fun i h1 h2 => by have h2 : i = b1 := h2; show i = b1 ∨ i = b2; omega)
    clear K0
    have H9 := H2.keep K4 (by intro h; change b2 = b1 at h; omega)
    clear H2
    have F10 := RdO.keep hR1 K4 (fun i _ _ hi hs => by have hs : i = b1 := hs; have := hne11 i _ _ hi; omega)
    clear hR1
    have F11 := RdO.keep hR2 K4 (fun i _ _ hi hs => by have hs : i = b1 := hs; have := hne21 i _ _ hi; omega)
    clear hR2
    clear K4
    have F12 : RdO w3 A1 c1 (r.uint).2.bs := by rw [Rdr.uint_bs]; exact F10
    clear F10
    refine Ops.regs 1 [(0, (Value.pointer (some ⟨b1, 0, none⟩))), (1, (Value.pointer (some ⟨b2, 0, none⟩))), (3, (i64 most)), (8, (Value.bool false)), (13, (i64 ((kind).tmod 8))), (17, (Value.int IntKind.u64 (((r.uint).1 : Nat) : Int))), (18, (Value.pointer (some ⟨b2, 0, none⟩)))] (j := 3) (by kernel_rfl) (by kernel_rfl) ?_
    refine Ops.call (by kernel_rfl) (d := (some 19)) (by kernel_rfl) (RRUint_calls _ b2 A2 c2 r hok H9 F11 hne22 ) ?_
    rintro _ w13 ⟨rfl, K14, H15⟩
    have hok16 : (r.uint).2.Ok := Rdr.Ok.uint hok
    have hu17 := Rdr.uint_lt r
    refine ⟨_, _, rfl, rfl, ?_⟩
    have K18 := K8.trans K14 (U := (fun i => i = b1 ∨ i = b2)) (fun i h1 h2 => h2) (fun i h1 h2 => by have h2 : i = b2 := h2; show i = b1 ∨ i = b2; omega)
    clear K8
    have H19 := H5.keep K14 (by intro h; change b1 = b2 at h; omega)
    clear H5
    have F20 := RdO.keep F12 K14 (fun i _ _ hi hs => by have hs : i = b2 := hs; have := hne12 i _ _ hi; omega)
    clear F12
    have F21 := RdO.keep F11 K14 (fun i _ _ hi hs => by have hs : i = b2 := hs; have := hne22 i _ _ hi; omega)
    clear F11
    clear K14
    have F22 : RdO w13 A2 c2 (r.uint).2.bs := by rw [Rdr.uint_bs]; exact F21
    clear F21
    refine Ops.regs 2 [(0, (Value.pointer (some ⟨b1, 0, none⟩))), (1, (Value.pointer (some ⟨b2, 0, none⟩))), (3, (i64 most)), (8, (Value.bool ((((r.uint).1 : Nat) : Int) == (((r.uint).1 : Nat) : Int)))), (13, (i64 ((kind).tmod 8)))] (j := 6) (by kernel_rfl) (by kernel_rfl) ?_
    refine Ops.done (by kernel_rfl) ?_
    refine q_ret (by kernel_rfl) ?_
    refine ⟨(Value.bool ((((r.uint).1 : Nat) : Int) == (((r.uint).1 : Nat) : Int))), retv_tmp rfl rfl, ?_⟩
    have e : r.step kind most = (r.uint).2 := by unfold Rdr.step; repeat (first | rw [if_pos (by omega)] | rw [if_neg (by omega)])
    exact ⟨by simp, K18, by rw [e]; exact H19, by rw [e]; exact H15⟩
  · rw [h1]
    have p23 : ¬ ((kind).tmod 8 = 0) := of_beq_f h1
    refine q_seq (by kernel_rfl) ?_
    refine q_region (by kernel_rfl) ?_
    refine Ops.regs 2 [(0, (Value.pointer (some ⟨b1, 0, none⟩))), (1, (Value.pointer (some ⟨b2, 0, none⟩))), (3, (i64 most)), (8, (Value.bool false)), (13, (i64 ((kind).tmod 8))), (21, (Value.bool (((kind).tmod 8) == 1)))] (j := 2) (by kernel_rfl) (by kernel_rfl) ?_
    refine Ops.done (by kernel_rfl) ?_
    refine q_cond (o := .tmp 21) (b := (((kind).tmod 8) == 1)) (by kernel_rfl) rfl (fun h24 => ?_) (fun h24 => ?_)
    · rw [h24]
      have p25 : (kind).tmod 8 = 1 := of_beq_t h24
      refine q_seq (by kernel_rfl) ?_
      refine q_region (by kernel_rfl) ?_
      refine Ops.regs 1 [(0, (Value.pointer (some ⟨b1, 0, none⟩))), (1, (Value.pointer (some ⟨b2, 0, none⟩))), (3, (i64 most)), (8, (Value.bool false)), (13, (i64 ((kind).tmod 8))), (23, (Value.pointer (some ⟨b1, 0, none⟩)))] (j := 1) (by kernel_rfl) (by kernel_rfl) ?_
      refine Ops.call (by kernel_rfl) (d := (some 24)) (by kernel_rfl) (RdInt_calls _ b1 A1 c1 r hok H1 hR1 hne11 ) ?_
      rintro _ w26 ⟨rfl, K27, H28⟩
      have hok29 : (r.int).2.Ok := Rdr.Ok.int hok
      have hu30 := Rdr.int_range r
      refine ⟨_, _, rfl, rfl, ?_⟩
      have K31 := K0.trans K27 (U := (fun i => i = b1 ∨ i = b2)) (fun i h1 h2 => h2) (fun i h1 h2 => by have h2 : i = b1 := h2; show i = b1 ∨ i = b2; omega)
      clear K0
      have H32 := H2.keep K27 (by intro h; change b2 = b1 at h; omega)
      clear H2
      have F33 := RdO.keep hR1 K27 (fun i _ _ hi hs => by have hs : i = b1 := hs; have := hne11 i _ _ hi; omega)
      clear hR1
      have F34 := RdO.keep hR2 K27 (fun i _ _ hi hs => by have hs : i = b1 := hs; have := hne21 i _ _ hi; omega)
      clear hR2
      clear K27
      have F35 : RdO w26 A1 c1 (r.int).2.bs := by rw [Rdr.int_bs]; exact F33
      clear F33
      refine Ops.regs 1 [(0, (Value.pointer (some ⟨b1, 0, none⟩))), (1, (Value.pointer (some ⟨b2, 0, none⟩))), (3, (i64 most)), (8, (Value.bool false)), (13, (i64 ((kind).tmod 8))), (24, (i64 ((r.int).1))), (25, (Value.pointer (some ⟨b2, 0, none⟩)))] (j := 3) (by kernel_rfl) (by kernel_rfl) ?_
      refine Ops.call (by kernel_rfl) (d := (some 26)) (by kernel_rfl) (RRInt_calls _ b2 A2 c2 r hok H32 F34 hne22 ) ?_
      rintro _ w36 ⟨rfl, K37, H38⟩
      have hok39 : (r.int).2.Ok := Rdr.Ok.int hok
      have hu40 := Rdr.int_range r
      refine ⟨_, _, rfl, rfl, ?_⟩
      have K41 := K31.trans K37 (U := (fun i => i = b1 ∨ i = b2)) (fun i h1 h2 => h2) (fun i h1 h2 => by have h2 : i = b2 := h2; show i = b1 ∨ i = b2; omega)
      clear K31
      have H42 := H28.keep K37 (by intro h; change b1 = b2 at h; omega)
      clear H28
      have F43 := RdO.keep F35 K37 (fun i _ _ hi hs => by have hs : i = b2 := hs; have := hne12 i _ _ hi; omega)
      clear F35
      have F44 := RdO.keep F34 K37 (fun i _ _ hi hs => by have hs : i = b2 := hs; have := hne22 i _ _ hi; omega)
      clear F34
      clear K37
      have F45 : RdO w36 A2 c2 (r.int).2.bs := by rw [Rdr.int_bs]; exact F44
      clear F44
      refine Ops.regs 2 [(0, (Value.pointer (some ⟨b1, 0, none⟩))), (1, (Value.pointer (some ⟨b2, 0, none⟩))), (3, (i64 most)), (8, (Value.bool (((r.int).1) == ((r.int).1)))), (13, (i64 ((kind).tmod 8)))] (j := 6) (by kernel_rfl) (by kernel_rfl) ?_
      refine Ops.done (by kernel_rfl) ?_
      refine q_ret (by kernel_rfl) ?_
      refine ⟨(Value.bool (((r.int).1) == ((r.int).1))), retv_tmp rfl rfl, ?_⟩
      have e : r.step kind most = (r.int).2 := by unfold Rdr.step; repeat (first | rw [if_pos (by omega)] | rw [if_neg (by omega)])
      exact ⟨by simp, K41, by rw [e]; exact H42, by rw [e]; exact H38⟩
    · rw [h24]
      have p46 : ¬ ((kind).tmod 8 = 1) := of_beq_f h24
      refine q_seq (by kernel_rfl) ?_
      refine q_region (by kernel_rfl) ?_
      refine Ops.regs 2 [(0, (Value.pointer (some ⟨b1, 0, none⟩))), (1, (Value.pointer (some ⟨b2, 0, none⟩))), (3, (i64 most)), (8, (Value.bool false)), (13, (i64 ((kind).tmod 8))), (28, (Value.bool (((kind).tmod 8) == 2)))] (j := 2) (by kernel_rfl) (by kernel_rfl) ?_
      refine Ops.done (by kernel_rfl) ?_
      refine q_cond (o := .tmp 28) (b := (((kind).tmod 8) == 2)) (by kernel_rfl) rfl (fun h47 => ?_) (fun h47 => ?_)
      · rw [h47]
        have p48 : (kind).tmod 8 = 2 := of_beq_t h47
        refine q_seq (by kernel_rfl) ?_
        refine q_region (by kernel_rfl) ?_
        refine Ops.regs 1 [(0, (Value.pointer (some ⟨b1, 0, none⟩))), (1, (Value.pointer (some ⟨b2, 0, none⟩))), (3, (i64 most)), (8, (Value.bool false)), (13, (i64 ((kind).tmod 8))), (30, (Value.pointer (some ⟨b1, 0, none⟩)))] (j := 1) (by kernel_rfl) (by kernel_rfl) ?_
        refine Ops.call (by kernel_rfl) (d := (some 31)) (by kernel_rfl) (RdBytes_calls _ b1 A1 c1 r hok H1 hR1 hne11 ) ?_
        rintro _ w49 ⟨v54, rfl, K50, hO55, H51⟩
        have hok52 : (r.bytes).2.Ok := Rdr.Ok.bytes hok
        have hu53 := Rdr.bytes_le hok
        have ob57 : ∀ i, (v54).ownBlock = some i → i ≠ b1 := fun i hi => by have := (World.ownsRow.lt hO55 i hi).1; have := H1.lt; omega
        have ob58 : ∀ i, (v54).ownBlock = some i → i ≠ b2 := fun i hi => by have := (World.ownsRow.lt hO55 i hi).1; have := H2.lt; omega
        have oo59 : ∀ i o s, A1 = some ⟨i, o, s⟩ → (v54).ownBlock = some i → False := fun i o s hi hs => by have := (World.ownsRow.lt hO55 i hs).1; have := hR1.2 i o s hi; omega
        have oo61 : ∀ i o s, A2 = some ⟨i, o, s⟩ → (v54).ownBlock = some i → False := fun i o s hi hs => by have := (World.ownsRow.lt hO55 i hs).1; have := hR2.2 i o s hi; omega
        have O56 := own_base hO55 K0.size
        clear hO55
        refine ⟨_, _, rfl, rfl, ?_⟩
        have K63 := K0.trans K50 (U := (fun i => i = b1 ∨ i = b2)) (fun i h1 h2 => h2) (fun i h1 h2 => by have h2 : i = b1 := h2; show i = b1 ∨ i = b2; omega)
        clear K0
        have H64 := H2.keep K50 (by intro h; change b2 = b1 at h; omega)
        clear H2
        have F65 := RdO.keep hR1 K50 (fun i _ _ hi hs => by have hs : i = b1 := hs; have := hne11 i _ _ hi; omega)
        clear hR1
        have F66 := RdO.keep hR2 K50 (fun i _ _ hi hs => by have hs : i = b1 := hs; have := hne21 i _ _ hi; omega)
        clear hR2
        clear K50
        have F67 : RdO w49 A1 c1 (r.bytes).2.bs := by rw [Rdr.bytes_bs]; exact F65
        clear F65
        refine Ops.regs 1 [(0, (Value.pointer (some ⟨b1, 0, none⟩))), (1, (Value.pointer (some ⟨b2, 0, none⟩))), (3, (i64 most)), (8, (Value.bool false)), (9, v54), (13, (i64 ((kind).tmod 8)))] (j := 3) (by kernel_rfl) (by kernel_rfl) ?_
        refine Ops.done (by kernel_rfl) ?_
        refine q_seq (by kernel_rfl) ?_
        refine q_region (by kernel_rfl) ?_
        refine Ops.regs 1 [(0, (Value.pointer (some ⟨b1, 0, none⟩))), (1, (Value.pointer (some ⟨b2, 0, none⟩))), (3, (i64 most)), (8, (Value.bool false)), (9, v54), (13, (i64 ((kind).tmod 8))), (32, (Value.pointer (some ⟨b2, 0, none⟩)))] (j := 1) (by kernel_rfl) (by kernel_rfl) ?_
        refine Ops.call (by kernel_rfl) (d := (some 33)) (by kernel_rfl) (RRBytes_calls _ b2 A2 c2 r hok H64 F66 hne22 ) ?_
        rintro _ w68 ⟨v73, rfl, K69, hO74, H70⟩
        have hok71 : (r.bytes).2.Ok := Rdr.Ok.bytes hok
        have hu72 := Rdr.bytes_le hok
        have ob76 : ∀ i, (v73).ownBlock = some i → i ≠ b1 := fun i hi => by have := (World.ownsRow.lt hO74 i hi).1; have := H51.lt; omega
        have ob77 : ∀ i, (v73).ownBlock = some i → i ≠ b2 := fun i hi => by have := (World.ownsRow.lt hO74 i hi).1; have := H64.lt; omega
        have oo78 : ∀ i o s, A1 = some ⟨i, o, s⟩ → (v73).ownBlock = some i → False := fun i o s hi hs => by have := (World.ownsRow.lt hO74 i hs).1; have := F67.2 i o s hi; omega
        have oo80 : ∀ i o s, A2 = some ⟨i, o, s⟩ → (v73).ownBlock = some i → False := fun i o s hi hs => by have := (World.ownsRow.lt hO74 i hs).1; have := F66.2 i o s hi; omega
        have oo82 : ∀ i, (v54).ownBlock = some i → (v73).ownBlock = some i → False := fun i hi hs => by have := (World.ownsRow.lt hO74 i hs).1; have := (World.ownsRow.lt O56 i hi).2; omega
        have oo83 : ∀ i, (v73).ownBlock = some i → (v54).ownBlock = some i → False := fun i hi hs => oo82 i hs hi
        have O75 := own_base hO74 K63.size
        clear hO74
        refine ⟨_, _, rfl, rfl, ?_⟩
        have K84 := K63.trans K69 (U := (fun i => i = b1 ∨ i = b2)) (fun i h1 h2 => h2) (fun i h1 h2 => by have h2 : i = b2 := h2; show i = b1 ∨ i = b2; omega)
        clear K63
        have H85 := H51.keep K69 (by intro h; change b1 = b2 at h; omega)
        clear H51
        have F86 := RdO.keep F67 K69 (fun i _ _ hi hs => by have hs : i = b2 := hs; have := hne12 i _ _ hi; omega)
        clear F67
        have F87 := RdO.keep F66 K69 (fun i _ _ hi hs => by have hs : i = b2 := hs; have := hne22 i _ _ hi; omega)
        clear F66
        have F88 := own_keep O56 K69 (fun i hi hs => by have hs : i = b2 := hs; have := ob58 i hi; omega)
        clear O56
        clear K69
        have F89 : RdO w68 A2 c2 (r.bytes).2.bs := by rw [Rdr.bytes_bs]; exact F87
        clear F87
        refine Ops.regs 1 [(0, (Value.pointer (some ⟨b1, 0, none⟩))), (1, (Value.pointer (some ⟨b2, 0, none⟩))), (3, (i64 most)), (8, (Value.bool false)), (9, v54), (10, v73), (13, (i64 ((kind).tmod 8)))] (j := 3) (by kernel_rfl) (by kernel_rfl) ?_
        refine Ops.done (by kernel_rfl) ?_
        refine q_seq (by kernel_rfl) ?_
        refine q_region (by kernel_rfl) ?_
        refine Ops.regs 1 [(0, (Value.pointer (some ⟨b1, 0, none⟩))), (1, (Value.pointer (some ⟨b2, 0, none⟩))), (3, (i64 most)), (8, (Value.bool false)), (9, v54), (10, v73), (13, (i64 ((kind).tmod 8))), (34, v54)] (j := 1) (by kernel_rfl) (by kernel_rfl) ?_
        refine Ops.go (v := (Value.string (str ((r.bytes).1)))) (by kernel_rfl) (Runs.b2s (s := 23) (d := 9) (e := 5) (by kernel_rfl) (by kernel_rfl) (by kernel_rfl) (OwnB.rd F88)) (d := (some 35)) (by kernel_rfl) rfl ?_
        refine Ops.regs 1 [(0, (Value.pointer (some ⟨b1, 0, none⟩))), (1, (Value.pointer (some ⟨b2, 0, none⟩))), (3, (i64 most)), (8, (Value.bool false)), (9, v54), (13, (i64 ((kind).tmod 8))), (35, (Value.string (str ((r.bytes).1)))), (36, v73)] (j := 3) (by kernel_rfl) (by kernel_rfl) ?_
        refine Ops.go (v := (Value.string (str ((r.bytes).1)))) (by kernel_rfl) (Runs.b2s (s := 23) (d := 9) (e := 5) (by kernel_rfl) (by kernel_rfl) (by kernel_rfl) (OwnB.rd O75)) (d := (some 37)) (by kernel_rfl) rfl ?_
        refine Ops.go (v := (Value.bool (((r.bytes).1) == ((r.bytes).1)))) (by kernel_rfl) (Runs.streq (t := 9) (by kernel_rfl)) (d := (some 38)) (by kernel_rfl) rfl ?_
        refine Ops.regs 1 [(0, (Value.pointer (some ⟨b1, 0, none⟩))), (1, (Value.pointer (some ⟨b2, 0, none⟩))), (3, (i64 most)), (8, (Value.bool false)), (9, v54), (11, (Value.bool (((r.bytes).1) == ((r.bytes).1)))), (13, (i64 ((kind).tmod 8)))] (j := 6) (by kernel_rfl) (by kernel_rfl) ?_
        refine Ops.done (by kernel_rfl) ?_
        refine q_seq (by kernel_rfl) ?_
        refine q_region (by kernel_rfl) ?_
        refine Ops.regs 1 [(0, (Value.pointer (some ⟨b1, 0, none⟩))), (1, (Value.pointer (some ⟨b2, 0, none⟩))), (3, (i64 most)), (8, (Value.bool false)), (11, (Value.bool (((r.bytes).1) == ((r.bytes).1)))), (13, (i64 ((kind).tmod 8))), (39, v54)] (j := 1) (by kernel_rfl) (by kernel_rfl) ?_
        refine Ops.call (by kernel_rfl) (d := (some 40)) (by kernel_rfl) (Spoil_calls _ v54 ((r.bytes).1) _ F88 (by (try simp only [List.length_append]); omega)) ?_
        rintro _ w91 ⟨rfl, K90⟩
        refine ⟨_, _, rfl, rfl, ?_⟩
        have K92 := K84.trans K90 (U := (fun i => i = b1 ∨ i = b2)) (fun i h1 h2 => h2) (fun i h1 h2 => by have h2 : (v54).ownBlock = some i := h2; exfalso; have := (World.ownsRow.lt F88 i h2).1; omega)
        clear K84
        have H93 := H85.keep K90 (by intro h; change (v54).ownBlock = some b1 at h; have := ob57 b1 h; omega)
        clear H85
        have H94 := H70.keep K90 (by intro h; change (v54).ownBlock = some b2 at h; have := ob58 b2 h; omega)
        clear H70
        have F95 := RdO.keep F86 K90 (fun i _ _ hi hs => by have hs : (v54).ownBlock = some i := hs; exact oo59 i _ _ hi hs)
        clear F86
        have F96 := RdO.keep F89 K90 (fun i _ _ hi hs => by have hs : (v54).ownBlock = some i := hs; exact oo61 i _ _ hi hs)
        clear F89
        clear F88
        have F97 := own_keep O75 K90 (fun i hi hs => by have hs : (v54).ownBlock = some i := hs; exact oo83 i hi hs)
        clear O75
        clear K90
        refine Ops.done (by kernel_rfl) ?_
        refine q_seq (by kernel_rfl) ?_
        refine q_region (by kernel_rfl) ?_
        refine Ops.regs 2 [(0, (Value.pointer (some ⟨b1, 0, none⟩))), (1, (Value.pointer (some ⟨b2, 0, none⟩))), (3, (i64 most)), (8, (Value.bool (((r.bytes).1) == ((r.bytes).1)))), (13, (i64 ((kind).tmod 8)))] (j := 2) (by kernel_rfl) (by kernel_rfl) ?_
        refine Ops.done (by kernel_rfl) ?_
        refine q_ret (by kernel_rfl) ?_
        refine ⟨(Value.bool (((r.bytes).1) == ((r.bytes).1))), retv_tmp rfl rfl, ?_⟩
        have e : r.step kind most = (r.bytes).2 := by unfold Rdr.step; repeat (first | rw [if_pos (by omega)] | rw [if_neg (by omega)])
        exact ⟨by simp, K92, by rw [e]; exact H93, by rw [e]; exact H94⟩
      · rw [h47]
        have p98 : ¬ ((kind).tmod 8 = 2) := of_beq_f h47
        refine q_seq (by kernel_rfl) ?_
        refine q_region (by kernel_rfl) ?_
        refine Ops.regs 2 [(0, (Value.pointer (some ⟨b1, 0, none⟩))), (1, (Value.pointer (some ⟨b2, 0, none⟩))), (3, (i64 most)), (8, (Value.bool false)), (13, (i64 ((kind).tmod 8))), (42, (Value.bool (((kind).tmod 8) == 3)))] (j := 2) (by kernel_rfl) (by kernel_rfl) ?_
        refine Ops.done (by kernel_rfl) ?_
        refine q_cond (o := .tmp 42) (b := (((kind).tmod 8) == 3)) (by kernel_rfl) rfl (fun h99 => ?_) (fun h99 => ?_)
        · rw [h99]
          have p100 : (kind).tmod 8 = 3 := of_beq_t h99
          refine q_seq (by kernel_rfl) ?_
          refine q_region (by kernel_rfl) ?_
          refine Ops.regs 1 [(0, (Value.pointer (some ⟨b1, 0, none⟩))), (1, (Value.pointer (some ⟨b2, 0, none⟩))), (3, (i64 most)), (8, (Value.bool false)), (13, (i64 ((kind).tmod 8))), (44, (Value.pointer (some ⟨b1, 0, none⟩)))] (j := 1) (by kernel_rfl) (by kernel_rfl) ?_
          refine Ops.call (by kernel_rfl) (d := (some 45)) (by kernel_rfl) (RdText_calls _ b1 A1 c1 r hok H1 hR1 hne11 ) ?_
          rintro _ w101 ⟨rfl, K102, H103⟩
          have hok104 : (r.bytes).2.Ok := Rdr.Ok.bytes hok
          have hu105 := Rdr.bytes_le hok
          refine ⟨_, _, rfl, rfl, ?_⟩
          have K106 := K0.trans K102 (U := (fun i => i = b1 ∨ i = b2)) (fun i h1 h2 => h2) (fun i h1 h2 => by have h2 : i = b1 := h2; show i = b1 ∨ i = b2; omega)
          clear K0
          have H107 := H2.keep K102 (by intro h; change b2 = b1 at h; omega)
          clear H2
          have F108 := RdO.keep hR1 K102 (fun i _ _ hi hs => by have hs : i = b1 := hs; have := hne11 i _ _ hi; omega)
          clear hR1
          have F109 := RdO.keep hR2 K102 (fun i _ _ hi hs => by have hs : i = b1 := hs; have := hne21 i _ _ hi; omega)
          clear hR2
          clear K102
          have F110 : RdO w101 A1 c1 (r.bytes).2.bs := by rw [Rdr.bytes_bs]; exact F108
          clear F108
          refine Ops.regs 1 [(0, (Value.pointer (some ⟨b1, 0, none⟩))), (1, (Value.pointer (some ⟨b2, 0, none⟩))), (3, (i64 most)), (8, (Value.bool false)), (13, (i64 ((kind).tmod 8))), (45, (Value.string (str (r.bytes).1))), (46, (Value.pointer (some ⟨b2, 0, none⟩)))] (j := 3) (by kernel_rfl) (by kernel_rfl) ?_
          refine Ops.call (by kernel_rfl) (d := (some 47)) (by kernel_rfl) (RRText_calls _ b2 A2 c2 r hok H107 F109 hne22 ) ?_
          rintro _ w111 ⟨rfl, K112, H113⟩
          have hok114 : (r.bytes).2.Ok := Rdr.Ok.bytes hok
          have hu115 := Rdr.bytes_le hok
          refine ⟨_, _, rfl, rfl, ?_⟩
          have K116 := K106.trans K112 (U := (fun i => i = b1 ∨ i = b2)) (fun i h1 h2 => h2) (fun i h1 h2 => by have h2 : i = b2 := h2; show i = b1 ∨ i = b2; omega)
          clear K106
          have H117 := H103.keep K112 (by intro h; change b1 = b2 at h; omega)
          clear H103
          have F118 := RdO.keep F110 K112 (fun i _ _ hi hs => by have hs : i = b2 := hs; have := hne12 i _ _ hi; omega)
          clear F110
          have F119 := RdO.keep F109 K112 (fun i _ _ hi hs => by have hs : i = b2 := hs; have := hne22 i _ _ hi; omega)
          clear F109
          clear K112
          have F120 : RdO w111 A2 c2 (r.bytes).2.bs := by rw [Rdr.bytes_bs]; exact F119
          clear F119
          refine Ops.go (v := (Value.bool ((r.bytes).1 == (r.bytes).1))) (by kernel_rfl) (Runs.streq (t := 9) (by kernel_rfl)) (d := (some 48)) (by kernel_rfl) rfl ?_
          refine Ops.regs 1 [(0, (Value.pointer (some ⟨b1, 0, none⟩))), (1, (Value.pointer (some ⟨b2, 0, none⟩))), (3, (i64 most)), (8, (Value.bool ((r.bytes).1 == (r.bytes).1))), (13, (i64 ((kind).tmod 8)))] (j := 6) (by kernel_rfl) (by kernel_rfl) ?_
          refine Ops.done (by kernel_rfl) ?_
          refine q_ret (by kernel_rfl) ?_
          refine ⟨(Value.bool ((r.bytes).1 == (r.bytes).1)), retv_tmp rfl rfl, ?_⟩
          have e : r.step kind most = (r.bytes).2 := by unfold Rdr.step; repeat (first | rw [if_pos (by omega)] | rw [if_neg (by omega)])
          exact ⟨by simp, K116, by rw [e]; exact H117, by rw [e]; exact H113⟩
        · rw [h99]
          have p121 : ¬ ((kind).tmod 8 = 3) := of_beq_f h99
          refine q_seq (by kernel_rfl) ?_
          refine q_region (by kernel_rfl) ?_
          refine Ops.regs 2 [(0, (Value.pointer (some ⟨b1, 0, none⟩))), (1, (Value.pointer (some ⟨b2, 0, none⟩))), (3, (i64 most)), (8, (Value.bool false)), (13, (i64 ((kind).tmod 8))), (49, (Value.bool (((kind).tmod 8) == 4)))] (j := 2) (by kernel_rfl) (by kernel_rfl) ?_
          refine Ops.done (by kernel_rfl) ?_
          refine q_cond (o := .tmp 49) (b := (((kind).tmod 8) == 4)) (by kernel_rfl) rfl (fun h122 => ?_) (fun h122 => ?_)
          · rw [h122]
            have p123 : (kind).tmod 8 = 4 := of_beq_t h122
            refine q_seq (by kernel_rfl) ?_
            refine q_region (by kernel_rfl) ?_
            refine Ops.regs 1 [(0, (Value.pointer (some ⟨b1, 0, none⟩))), (1, (Value.pointer (some ⟨b2, 0, none⟩))), (3, (i64 most)), (8, (Value.bool false)), (13, (i64 ((kind).tmod 8))), (51, (Value.pointer (some ⟨b1, 0, none⟩)))] (j := 1) (by kernel_rfl) (by kernel_rfl) ?_
            refine Ops.call (by kernel_rfl) (d := (some 52)) (by kernel_rfl) (RdBool_calls _ b1 A1 c1 r hok H1 hR1 hne11 ) ?_
            rintro _ w124 ⟨rfl, K125, H126⟩
            have hok127 : (r.bool_).2.Ok := Rdr.Ok.bool_ hok
            refine ⟨_, _, rfl, rfl, ?_⟩
            have K128 := K0.trans K125 (U := (fun i => i = b1 ∨ i = b2)) (fun i h1 h2 => h2) (fun i h1 h2 => by have h2 : i = b1 := h2; show i = b1 ∨ i = b2; omega)
            clear K0
            have H129 := H2.keep K125 (by intro h; change b2 = b1 at h; omega)
            clear H2
            have F130 := RdO.keep hR1 K125 (fun i _ _ hi hs => by have hs : i = b1 := hs; have := hne11 i _ _ hi; omega)
            clear hR1
            have F131 := RdO.keep hR2 K125 (fun i _ _ hi hs => by have hs : i = b1 := hs; have := hne21 i _ _ hi; omega)
            clear hR2
            clear K125
            have F132 : RdO w124 A1 c1 (r.bool_).2.bs := by rw [Rdr.bool_bs]; exact F130
            clear F130
            refine Ops.regs 1 [(0, (Value.pointer (some ⟨b1, 0, none⟩))), (1, (Value.pointer (some ⟨b2, 0, none⟩))), (3, (i64 most)), (8, (Value.bool false)), (13, (i64 ((kind).tmod 8))), (52, (Value.bool ((r.bool_).1))), (53, (Value.pointer (some ⟨b2, 0, none⟩)))] (j := 3) (by kernel_rfl) (by kernel_rfl) ?_
            refine Ops.call (by kernel_rfl) (d := (some 54)) (by kernel_rfl) (RRBool_calls _ b2 A2 c2 r hok H129 F131 hne22 ) ?_
            rintro _ w133 ⟨rfl, K134, H135⟩
            have hok136 : (r.bool_).2.Ok := Rdr.Ok.bool_ hok
            refine ⟨_, _, rfl, rfl, ?_⟩
            have K137 := K128.trans K134 (U := (fun i => i = b1 ∨ i = b2)) (fun i h1 h2 => h2) (fun i h1 h2 => by have h2 : i = b2 := h2; show i = b1 ∨ i = b2; omega)
            clear K128
            have H138 := H126.keep K134 (by intro h; change b1 = b2 at h; omega)
            clear H126
            have F139 := RdO.keep F132 K134 (fun i _ _ hi hs => by have hs : i = b2 := hs; have := hne12 i _ _ hi; omega)
            clear F132
            have F140 := RdO.keep F131 K134 (fun i _ _ hi hs => by have hs : i = b2 := hs; have := hne22 i _ _ hi; omega)
            clear F131
            clear K134
            have F141 : RdO w133 A2 c2 (r.bool_).2.bs := by rw [Rdr.bool_bs]; exact F140
            clear F140
            refine Ops.split ((r.bool_).1) (fun h142 => ?_) (fun h142 => ?_)
            · rw [h142]
              have p143 : ((r.bool_).1) = true := h142
              refine Ops.regs 2 [(0, (Value.pointer (some ⟨b1, 0, none⟩))), (1, (Value.pointer (some ⟨b2, 0, none⟩))), (3, (i64 most)), (8, (Value.bool true)), (13, (i64 ((kind).tmod 8)))] (j := 6) (by kernel_rfl) (by kernel_rfl) ?_
              refine Ops.done (by kernel_rfl) ?_
              refine q_ret (by kernel_rfl) ?_
              refine ⟨(Value.bool true), retv_tmp rfl rfl, ?_⟩
              have e : r.step kind most = (r.bool_).2 := by unfold Rdr.step; repeat (first | rw [if_pos (by omega)] | rw [if_neg (by omega)])
              exact ⟨rfl, K137, by rw [e]; exact H138, by rw [e]; exact H135⟩
            · rw [h142]
              have p144 : ((r.bool_).1) = false := h142
              refine Ops.regs 2 [(0, (Value.pointer (some ⟨b1, 0, none⟩))), (1, (Value.pointer (some ⟨b2, 0, none⟩))), (3, (i64 most)), (8, (Value.bool true)), (13, (i64 ((kind).tmod 8)))] (j := 6) (by kernel_rfl) (by kernel_rfl) ?_
              refine Ops.done (by kernel_rfl) ?_
              refine q_ret (by kernel_rfl) ?_
              refine ⟨(Value.bool true), retv_tmp rfl rfl, ?_⟩
              have e : r.step kind most = (r.bool_).2 := by unfold Rdr.step; repeat (first | rw [if_pos (by omega)] | rw [if_neg (by omega)])
              exact ⟨rfl, K137, by rw [e]; exact H138, by rw [e]; exact H135⟩
          · rw [h122]
            have p145 : ¬ ((kind).tmod 8 = 4) := of_beq_f h122
            refine q_seq (by kernel_rfl) ?_
            refine q_region (by kernel_rfl) ?_
            refine Ops.regs 2 [(0, (Value.pointer (some ⟨b1, 0, none⟩))), (1, (Value.pointer (some ⟨b2, 0, none⟩))), (3, (i64 most)), (8, (Value.bool false)), (13, (i64 ((kind).tmod 8))), (56, (Value.bool (((kind).tmod 8) == 5)))] (j := 2) (by kernel_rfl) (by kernel_rfl) ?_
            refine Ops.done (by kernel_rfl) ?_
            refine q_cond (o := .tmp 56) (b := (((kind).tmod 8) == 5)) (by kernel_rfl) rfl (fun h146 => ?_) (fun h146 => ?_)
            · rw [h146]
              have p147 : (kind).tmod 8 = 5 := of_beq_t h146
              refine q_seq (by kernel_rfl) ?_
              refine q_region (by kernel_rfl) ?_
              refine Ops.regs 2 [(0, (Value.pointer (some ⟨b1, 0, none⟩))), (1, (Value.pointer (some ⟨b2, 0, none⟩))), (3, (i64 most)), (8, (Value.bool false)), (13, (i64 ((kind).tmod 8))), (58, (Value.pointer (some ⟨b1, 0, none⟩))), (59, (i64 most))] (j := 2) (by kernel_rfl) (by kernel_rfl) ?_
              refine Ops.call (by kernel_rfl) (d := (some 60)) (by kernel_rfl) (Count_calls _ b1 A1 c1 r hok H1 hR1 hne11 most (by omega)) ?_
              rintro _ w148 ⟨rfl, K149, H150⟩
              have hok151 : (r.sized most).2.Ok := Rdr.Ok.sized hok most
              have hu152 := Rdr.sized_le hok most
              have hu153 := Rdr.sized_lt r most
              refine ⟨_, _, rfl, rfl, ?_⟩
              have K154 := K0.trans K149 (U := (fun i => i = b1 ∨ i = b2)) (fun i h1 h2 => h2) (fun i h1 h2 => by have h2 : i = b1 := h2; show i = b1 ∨ i = b2; omega)
              clear K0
              have H155 := H2.keep K149 (by intro h; change b2 = b1 at h; omega)
              clear H2
              have F156 := RdO.keep hR1 K149 (fun i _ _ hi hs => by have hs : i = b1 := hs; have := hne11 i _ _ hi; omega)
              clear hR1
              have F157 := RdO.keep hR2 K149 (fun i _ _ hi hs => by have hs : i = b1 := hs; have := hne21 i _ _ hi; omega)
              clear hR2
              clear K149
              have F158 : RdO w148 A1 c1 (r.sized most).2.bs := by rw [Rdr.sized_bs]; exact F156
              clear F156
              refine Ops.regs 2 [(0, (Value.pointer (some ⟨b1, 0, none⟩))), (1, (Value.pointer (some ⟨b2, 0, none⟩))), (8, (Value.bool false)), (13, (i64 ((kind).tmod 8))), (60, (i64 (((r.sized most).1 : Nat) : Int))), (61, (Value.pointer (some ⟨b2, 0, none⟩))), (62, (i64 most))] (j := 5) (by kernel_rfl) (by kernel_rfl) ?_
              refine Ops.call (by kernel_rfl) (d := (some 63)) (by kernel_rfl) (RRCount_calls _ b2 A2 c2 r hok H155 F157 hne22 most (by omega)) ?_
              rintro _ w159 ⟨rfl, K160, H161⟩
              have hok162 : (r.sized most).2.Ok := Rdr.Ok.sized hok most
              have hu163 := Rdr.sized_le hok most
              have hu164 := Rdr.sized_lt r most
              refine ⟨_, _, rfl, rfl, ?_⟩
              have K165 := K154.trans K160 (U := (fun i => i = b1 ∨ i = b2)) (fun i h1 h2 => h2) (fun i h1 h2 => by have h2 : i = b2 := h2; show i = b1 ∨ i = b2; omega)
              clear K154
              have H166 := H150.keep K160 (by intro h; change b1 = b2 at h; omega)
              clear H150
              have F167 := RdO.keep F158 K160 (fun i _ _ hi hs => by have hs : i = b2 := hs; have := hne12 i _ _ hi; omega)
              clear F158
              have F168 := RdO.keep F157 K160 (fun i _ _ hi hs => by have hs : i = b2 := hs; have := hne22 i _ _ hi; omega)
              clear F157
              clear K160
              have F169 : RdO w159 A2 c2 (r.sized most).2.bs := by rw [Rdr.sized_bs]; exact F168
              clear F168
              refine Ops.regs 2 [(0, (Value.pointer (some ⟨b1, 0, none⟩))), (1, (Value.pointer (some ⟨b2, 0, none⟩))), (8, (Value.bool ((((r.sized most).1 : Nat) : Int) == (((r.sized most).1 : Nat) : Int)))), (13, (i64 ((kind).tmod 8)))] (j := 8) (by kernel_rfl) (by kernel_rfl) ?_
              refine Ops.done (by kernel_rfl) ?_
              refine q_ret (by kernel_rfl) ?_
              refine ⟨(Value.bool ((((r.sized most).1 : Nat) : Int) == (((r.sized most).1 : Nat) : Int))), retv_tmp rfl rfl, ?_⟩
              have e : r.step kind most = (r.sized most).2 := by unfold Rdr.step; repeat (first | rw [if_pos (by omega)] | rw [if_neg (by omega)])
              exact ⟨by simp, K165, by rw [e]; exact H166, by rw [e]; exact H161⟩
            · rw [h146]
              have p170 : ¬ ((kind).tmod 8 = 5) := of_beq_f h146
              refine q_seq (by kernel_rfl) ?_
              refine q_region (by kernel_rfl) ?_
              refine Ops.regs 2 [(0, (Value.pointer (some ⟨b1, 0, none⟩))), (1, (Value.pointer (some ⟨b2, 0, none⟩))), (8, (Value.bool false)), (65, (Value.bool (((kind).tmod 8) == 6)))] (j := 2) (by kernel_rfl) (by kernel_rfl) ?_
              refine Ops.done (by kernel_rfl) ?_
              refine q_cond (o := .tmp 65) (b := (((kind).tmod 8) == 6)) (by kernel_rfl) rfl (fun h171 => ?_) (fun h171 => ?_)
              · rw [h171]
                have p172 : (kind).tmod 8 = 6 := of_beq_t h171
                refine q_seq (by kernel_rfl) ?_
                refine q_region (by kernel_rfl) ?_
                refine Ops.regs 1 [(0, (Value.pointer (some ⟨b1, 0, none⟩))), (1, (Value.pointer (some ⟨b2, 0, none⟩))), (8, (Value.bool false)), (67, (Value.pointer (some ⟨b1, 0, none⟩)))] (j := 1) (by kernel_rfl) (by kernel_rfl) ?_
                refine Ops.call (by kernel_rfl) (d := (some 68)) (by kernel_rfl) (GetOp_calls _ b1 A1 c1 r hok H1 hR1 hne11 ) ?_
                rintro _ w173 ⟨rfl, K174, H175⟩
                have hok176 : (r.op).2.Ok := Rdr.Ok.op hok
                refine ⟨_, _, rfl, rfl, ?_⟩
                have K177 := K0.trans K174 (U := (fun i => i = b1 ∨ i = b2)) (fun i h1 h2 => h2) (fun i h1 h2 => by have h2 : i = b1 := h2; show i = b1 ∨ i = b2; omega)
                clear K0
                have H178 := H2.keep K174 (by intro h; change b2 = b1 at h; omega)
                clear H2
                have F179 := RdO.keep hR1 K174 (fun i _ _ hi hs => by have hs : i = b1 := hs; have := hne11 i _ _ hi; omega)
                clear hR1
                have F180 := RdO.keep hR2 K174 (fun i _ _ hi hs => by have hs : i = b1 := hs; have := hne21 i _ _ hi; omega)
                clear hR2
                clear K174
                have F181 : RdO w173 A1 c1 (r.op).2.bs := by rw [Rdr.op_bs]; exact F179
                clear F179
                refine Ops.regs 1 [(0, (Value.pointer (some ⟨b1, 0, none⟩))), (1, (Value.pointer (some ⟨b2, 0, none⟩))), (8, (Value.bool false)), (68, (agg [(i64 ((r.op).1.kind)), (Value.string (str (r.op).1.frm)), (Value.string (str (r.op).1.to)), (i64 ((r.op).1.amount)), (Value.string (str (r.op).1.key)), (i64 ((r.op).1.slot)), (i64 ((r.op).1.shard))])), (69, (Value.pointer (some ⟨b2, 0, none⟩)))] (j := 3) (by kernel_rfl) (by kernel_rfl) ?_
                refine Ops.call (by kernel_rfl) (d := (some 70)) (by kernel_rfl) (RGetOp_calls _ b2 A2 c2 r hok H178 F180 hne22 ) ?_
                rintro _ w182 ⟨rfl, K183, H184⟩
                have hok185 : (r.op).2.Ok := Rdr.Ok.op hok
                refine ⟨_, _, rfl, rfl, ?_⟩
                have K186 := K177.trans K183 (U := (fun i => i = b1 ∨ i = b2)) (fun i h1 h2 => h2) (fun i h1 h2 => by have h2 : i = b2 := h2; show i = b1 ∨ i = b2; omega)
                clear K177
                have H187 := H175.keep K183 (by intro h; change b1 = b2 at h; omega)
                clear H175
                have F188 := RdO.keep F181 K183 (fun i _ _ hi hs => by have hs : i = b2 := hs; have := hne12 i _ _ hi; omega)
                clear F181
                have F189 := RdO.keep F180 K183 (fun i _ _ hi hs => by have hs : i = b2 := hs; have := hne22 i _ _ hi; omega)
                clear F180
                clear K183
                have F190 : RdO w182 A2 c2 (r.op).2.bs := by rw [Rdr.op_bs]; exact F189
                clear F189
                refine Ops.go (v := (Value.bool (aggB [(i64 ((r.op).1.kind)), (Value.string (str (r.op).1.frm)), (Value.string (str (r.op).1.to)), (i64 ((r.op).1.amount)), (Value.string (str (r.op).1.key)), (i64 ((r.op).1.slot)), (i64 ((r.op).1.shard))] [(i64 ((r.op).1.kind)), (Value.string (str (r.op).1.frm)), (Value.string (str (r.op).1.to)), (i64 ((r.op).1.amount)), (Value.string (str (r.op).1.key)), (i64 ((r.op).1.slot)), (i64 ((r.op).1.shard))]))) (by kernel_rfl) (Runs.aggeq (t := 43) (by kernel_rfl) (by kernel_rfl)) (d := (some 71)) (by kernel_rfl) rfl ?_
                refine Ops.regs 1 [(0, (Value.pointer (some ⟨b1, 0, none⟩))), (1, (Value.pointer (some ⟨b2, 0, none⟩))), (8, (Value.bool (aggB [(i64 ((r.op).1.kind)), (Value.string (str (r.op).1.frm)), (Value.string (str (r.op).1.to)), (i64 ((r.op).1.amount)), (Value.string (str (r.op).1.key)), (i64 ((r.op).1.slot)), (i64 ((r.op).1.shard))] [(i64 ((r.op).1.kind)), (Value.string (str (r.op).1.frm)), (Value.string (str (r.op).1.to)), (i64 ((r.op).1.amount)), (Value.string (str (r.op).1.key)), (i64 ((r.op).1.slot)), (i64 ((r.op).1.shard))])))] (j := 6) (by kernel_rfl) (by kernel_rfl) ?_
                refine Ops.done (by kernel_rfl) ?_
                refine q_ret (by kernel_rfl) ?_
                refine ⟨(Value.bool (aggB [(i64 ((r.op).1.kind)), (Value.string (str (r.op).1.frm)), (Value.string (str (r.op).1.to)), (i64 ((r.op).1.amount)), (Value.string (str (r.op).1.key)), (i64 ((r.op).1.slot)), (i64 ((r.op).1.shard))] [(i64 ((r.op).1.kind)), (Value.string (str (r.op).1.frm)), (Value.string (str (r.op).1.to)), (i64 ((r.op).1.amount)), (Value.string (str (r.op).1.key)), (i64 ((r.op).1.slot)), (i64 ((r.op).1.shard))])), retv_tmp rfl rfl, ?_⟩
                have e : r.step kind most = (r.op).2 := by unfold Rdr.step; repeat (first | rw [if_pos (by omega)] | rw [if_neg (by omega)])
                exact ⟨by simp [aggB, cellB], K186, by rw [e]; exact H187, by rw [e]; exact H184⟩
              · rw [h171]
                have p191 : ¬ ((kind).tmod 8 = 6) := of_beq_f h171
                refine q_skip (by kernel_rfl) ?_
                refine q_seq (by kernel_rfl) ?_
                refine q_region (by kernel_rfl) ?_
                refine Ops.regs 1 [(1, (Value.pointer (some ⟨b2, 0, none⟩))), (8, (Value.bool false)), (72, (Value.pointer (some ⟨b1, 0, none⟩)))] (j := 1) (by kernel_rfl) (by kernel_rfl) ?_
                refine Ops.call (by kernel_rfl) (d := (some 73)) (by kernel_rfl) (GetReply_calls _ b1 A1 c1 r hok H1 hR1 hne11 ) ?_
                rintro _ w192 ⟨A205, c206, rfl, K193, hO197, H194⟩
                have hok195 : (r.reply).2.Ok := Rdr.Ok.reply hok
                have ob199 : ∀ i, ((Value.slice A205 ((r.reply).1.rows.length) c206)).ownBlock = some i → i ≠ b1 := fun i hi => by have := (World.ownsRow.lt hO197 i hi).1; have := H1.lt; omega
                have ob200 : ∀ i, ((Value.slice A205 ((r.reply).1.rows.length) c206)).ownBlock = some i → i ≠ b2 := fun i hi => by have := (World.ownsRow.lt hO197 i hi).1; have := H2.lt; omega
                have oo201 : ∀ i o s, A1 = some ⟨i, o, s⟩ → ((Value.slice A205 ((r.reply).1.rows.length) c206)).ownBlock = some i → False := fun i o s hi hs => by have := (World.ownsRow.lt hO197 i hs).1; have := hR1.2 i o s hi; omega
                have oo203 : ∀ i o s, A2 = some ⟨i, o, s⟩ → ((Value.slice A205 ((r.reply).1.rows.length) c206)).ownBlock = some i → False := fun i o s hi hs => by have := (World.ownsRow.lt hO197 i hs).1; have := hR2.2 i o s hi; omega
                have O198 := own_base hO197 K0.size
                clear hO197
                refine ⟨_, _, rfl, rfl, ?_⟩
                have K207 := K0.trans K193 (U := (fun i => i = b1 ∨ i = b2)) (fun i h1 h2 => h2) (fun i h1 h2 => by have h2 : i = b1 := h2; show i = b1 ∨ i = b2; omega)
                clear K0
                have H208 := H2.keep K193 (by intro h; change b2 = b1 at h; omega)
                clear H2
                have F209 := RdO.keep hR1 K193 (fun i _ _ hi hs => by have hs : i = b1 := hs; have := hne11 i _ _ hi; omega)
                clear hR1
                have F210 := RdO.keep hR2 K193 (fun i _ _ hi hs => by have hs : i = b1 := hs; have := hne21 i _ _ hi; omega)
                clear hR2
                clear K193
                have F211 : RdO w192 A1 c1 (r.reply).2.bs := by rw [Rdr.reply_bs]; exact F209
                clear F209
                refine Ops.regs 1 [(8, (Value.bool false)), (73, (agg [(i64 ((r.reply).1.why)), (i64 ((r.reply).1.amount)), (Value.slice A205 ((r.reply).1.rows.length) c206)])), (74, (Value.pointer (some ⟨b2, 0, none⟩)))] (j := 3) (by kernel_rfl) (by kernel_rfl) ?_
                refine Ops.call (by kernel_rfl) (d := (some 75)) (by kernel_rfl) (RGetReply_calls _ b2 A2 c2 r hok H208 F210 hne22 ) ?_
                rintro _ w212 ⟨A227, c228, rfl, K213, hO217, H214⟩
                have hok215 : (r.reply).2.Ok := Rdr.Ok.reply hok
                have ob219 : ∀ i, ((Value.slice A227 ((r.reply).1.rows.length) c228)).ownBlock = some i → i ≠ b1 := fun i hi => by have := (World.ownsRow.lt hO217 i hi).1; have := H194.lt; omega
                have ob220 : ∀ i, ((Value.slice A227 ((r.reply).1.rows.length) c228)).ownBlock = some i → i ≠ b2 := fun i hi => by have := (World.ownsRow.lt hO217 i hi).1; have := H208.lt; omega
                have oo221 : ∀ i o s, A1 = some ⟨i, o, s⟩ → ((Value.slice A227 ((r.reply).1.rows.length) c228)).ownBlock = some i → False := fun i o s hi hs => by have := (World.ownsRow.lt hO217 i hs).1; have := F211.2 i o s hi; omega
                have oo223 : ∀ i o s, A2 = some ⟨i, o, s⟩ → ((Value.slice A227 ((r.reply).1.rows.length) c228)).ownBlock = some i → False := fun i o s hi hs => by have := (World.ownsRow.lt hO217 i hs).1; have := F210.2 i o s hi; omega
                have oo225 : ∀ i, ((Value.slice A205 ((r.reply).1.rows.length) c206)).ownBlock = some i → ((Value.slice A227 ((r.reply).1.rows.length) c228)).ownBlock = some i → False := fun i hi hs => by have := (World.ownsRow.lt hO217 i hs).1; have := (World.ownsRow.lt O198 i hi).2; omega
                have oo226 : ∀ i, ((Value.slice A227 ((r.reply).1.rows.length) c228)).ownBlock = some i → ((Value.slice A205 ((r.reply).1.rows.length) c206)).ownBlock = some i → False := fun i hi hs => oo225 i hs hi
                have O218 := own_base hO217 K207.size
                clear hO217
                refine ⟨_, _, rfl, rfl, ?_⟩
                have K229 := K207.trans K213 (U := (fun i => i = b1 ∨ i = b2)) (fun i h1 h2 => h2) (fun i h1 h2 => by have h2 : i = b2 := h2; show i = b1 ∨ i = b2; omega)
                clear K207
                have H230 := H194.keep K213 (by intro h; change b1 = b2 at h; omega)
                clear H194
                have F231 := RdO.keep F211 K213 (fun i _ _ hi hs => by have hs : i = b2 := hs; have := hne12 i _ _ hi; omega)
                clear F211
                have F232 := RdO.keep F210 K213 (fun i _ _ hi hs => by have hs : i = b2 := hs; have := hne22 i _ _ hi; omega)
                clear F210
                have F233 := own_keep O198 K213 (fun i hi hs => by have hs : i = b2 := hs; have := ob200 i hi; omega)
                clear O198
                clear K213
                have F234 : RdO w212 A2 c2 (r.reply).2.bs := by rw [Rdr.reply_bs]; exact F232
                clear F232
                refine Ops.call (by kernel_rfl) (d := (some 76)) (by kernel_rfl) (SameReply_calls _ A205 c206 ((r.reply).1) A227 c228 ((r.reply).1) (OwnT.rd F233) (OwnT.rd O218)) ?_
                rintro _ w238 ⟨t235, rfl, ht236, K237⟩
                have httt235 : t235 = true := ht236.2 rfl
                refine ⟨_, _, rfl, rfl, ?_⟩
                have K239 := K229.trans K237 (U := (fun i => i = b1 ∨ i = b2)) (fun i h1 h2 => h2) (fun i h1 h2 => by exact h2.elim)
                clear K229
                have H240 := H230.keep K237 (fun h => h)
                clear H230
                have H241 := H214.keep K237 (fun h => h)
                clear H214
                have F242 := RdO.keep0 F231 K237
                clear F231
                have F243 := RdO.keep0 F234 K237
                clear F234
                have F244 := own_keep0 F233 K237
                clear F233
                have F245 := own_keep0 O218 K237
                clear O218
                clear K237
                refine Ops.regs 1 [(8, (Value.bool t235))] (j := 6) (by kernel_rfl) (by kernel_rfl) ?_
                refine Ops.done (by kernel_rfl) ?_
                refine q_ret (by kernel_rfl) ?_
                refine ⟨(Value.bool t235), retv_tmp rfl rfl, ?_⟩
                have e : r.step kind most = (r.reply).2 := by unfold Rdr.step; repeat (first | rw [if_pos (by omega)] | rw [if_neg (by omega)])
                exact ⟨by rw [httt235], K239, by rw [e]; exact H240, by rw [e]; exact H241⟩
end Go.Proofs.Ytnepjfnkaigakaa
