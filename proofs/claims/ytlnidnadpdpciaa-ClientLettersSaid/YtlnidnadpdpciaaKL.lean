/- answers are read -/
import Derived.Test.YtlnidnadpdpciaaProg
import Derived.Test.YtlnidnadpdpciaaKJ
import Derived.Test.YtlnidnadpdpciaaKG
import Derived.Test.YtlnidnadpdpciaaLX
set_option linter.unusedVariables false
namespace Go.Proofs.Ytlnidnadpdpciaa
open Go.Q Go.RowKit

theorem GetReply_calls (w : World) (b : Nat) (A : Option Addr) (c : Nat) (r : Rdr) (hok : r.Ok) (H0 : Has w b (rowL (rdrL A c r) 115)) (hR : RdO w A c r.bs) (hne : ∀ g o s, A = some ⟨g, o, s⟩ → g ≠ b) : Calls Try.prog 52 ⟨[(ptr b)]⟩ w (fun e w' => ∃ A' c', e = .returned (agg [i64 r.reply.1.why, i64 r.reply.1.amount, .slice A' r.reply.1.rows.length c']) ∧ Keeps (fun i => i = b) w w' ∧ OwnR w' w.heap.size 59 (.slice A' r.reply.1.rows.length c') r.reply.1.rows ∧ Has w' b (rowL (rdrL A c r.reply.2) 115)) := by
 have hpos := hok.pos
 have hlen := hok.len
 have hsc := r.scan_le
 have hdl : (r.bs.drop r.pos).length = r.bs.length - r.pos := List.length_drop
 have hcap := hR.1.slice
 have Hb := H0.lt
 have K0 : Keeps (fun i => i = b) w w := (Keeps.refl w).mono (fun _ _ h => h.elim)
 refine q_calls Try.func52 (by kernel_rfl) (by kernel_rfl) ?_
 refine qs ?_
 refine qg ?_
 refine Ops.new (o := rowL [(i64 0), (i64 0), (Value.slice none 0 0)] 27) (V := fun b => (ptr b)) (by kernel_rfl) (d := (some 2)) (by kernel_rfl) (fun b => rfl) (fun b1 w2 hb3 H4 K5 hs6 => ?_)
 have lb1 : b < b1 := by have := H0.lt; omega
 have nb1 : w.heap.size ≤ b1 := by have := K0.size; omega
 have ob7 : ∀ i o s, A = some ⟨i, o, s⟩ → i ≠ b1 := fun i o s hi => by have := hR.2 i o s hi; omega
 replace K0 := K0.trans K5 (U := (fun i => i = b)) (fun i h1 h2 => h2) (fun i h1 h2 => by exact h2.elim)
 replace H0 := H0.keep K5 (fun h => h)
 replace hR := RdO.keep0 hR K5
 clear K5 hs6
 refine od ?_
 refine qs ?_
 refine qg ?_
 refine og 1 [(0, (ptr b)), (2, (ptr b1)), (5, (ptr b))] 1 ?_
 refine Ops.call (by kernel_rfl) (d := (some 6)) (by kernel_rfl) (RdInt_calls _ b A c r hok H0 hR hne ) ?_
 rintro _ w8 ⟨rfl, K9, H10⟩
 have hok11 : (r.int).2.Ok := Rdr.Ok.int hok
 have hu12 := Rdr.int_range r
 refine ⟨_, _, rfl, rfl, ?_⟩
 replace K0 := K0.trans K9 (U := (fun i => i = b)) (fun i h1 h2 => h2) (fun i h1 h2 => by have h2 : i = b := h2; show i = b; omega)
 replace H4 := H4.keep K9 (by intro h; change b1 = b at h; omega)
 replace hR := RdO.keep hR K9 (fun i _ _ hi hs => by have hs : i = b := hs; have := hne i _ _ hi; omega)
 clear K9
 have F13 : RdO w8 A c (r.int).2.bs := by rw [Rdr.int_bs]; exact hR
 clear hR
 refine og 1 [(0, (ptr b)), (2, (ptr b1)), (6, (i64 ((r.int).1))), (7, (ptr b))] 3 ?_
 refine Ops.call (by kernel_rfl) (d := (some 8)) (by kernel_rfl) (RdInt_calls _ b A c ((r.int).2) hok11 H10 F13 hne ) ?_
 rintro _ w14 ⟨rfl, K15, H16⟩
 have hok17 : (((r.int).2).int).2.Ok := Rdr.Ok.int hok11
 have hu18 := Rdr.int_range ((r.int).2)
 refine ⟨_, _, rfl, rfl, ?_⟩
 replace K0 := K0.trans K15 (U := (fun i => i = b)) (fun i h1 h2 => h2) (fun i h1 h2 => by have h2 : i = b := h2; show i = b; omega)
 replace H4 := H4.keep K15 (by intro h; change b1 = b at h; omega)
 replace F13 := RdO.keep F13 K15 (fun i _ _ hi hs => by have hs : i = b := hs; have := hne i _ _ hi; omega)
 clear K15
 have F19 : RdO w14 A c (((r.int).2).int).2.bs := by rw [Rdr.int_bs]; exact F13
 clear F13
 refine og 1 [(0, (ptr b)), (2, (ptr b1)), (9, (agg [(i64 ((r.int).1)), (i64 ((((r.int).2).int).1)), (Value.slice none 0 0)]))] 5 ?_
 refine Ops.new (o := rowL [(i64 0), (i64 0), (Value.slice none 0 0)] 27) (V := fun b => (ptr b)) (by kernel_rfl) (d := (some 3)) (by kernel_rfl) (fun b => rfl) (fun b20 w21 hb22 H23 K24 hs25 => ?_)
 have lb20 : b1 < b20 := by have := H4.lt; omega
 have nb20 : w.heap.size ≤ b20 := by have := K0.size; omega
 have ob26 : ∀ i o s, A = some ⟨i, o, s⟩ → i ≠ b20 := fun i o s hi => by have := F19.2 i o s hi; omega
 replace K0 := K0.trans K24 (U := (fun i => i = b)) (fun i h1 h2 => h2) (fun i h1 h2 => by exact h2.elim)
 replace H16 := H16.keep K24 (fun h => h)
 replace H4 := H4.keep K24 (fun h => h)
 replace F19 := RdO.keep0 F19 K24
 clear K24 hs25
 refine Ops.put (t := 27) (b := b20) (off := 0) (v := (agg [(i64 ((r.int).1)), (i64 ((((r.int).2).int).1)), (Value.slice none 0 0)])) (ys := [(i64 ((r.int).1)), (i64 ((((r.int).2).int).1)), (Value.slice none 0 0)]) (by kernel_rfl) (by kernel_rfl) H23 (by kernel_rfl) (d := none) (by kernel_rfl) rfl (fun w27 H28 K29 => ?_)
 clear H23
 replace K0 := K0.trans K29 (U := (fun i => i = b)) (fun i h1 h2 => h2) (fun i h1 h2 => by have h2 : i = b20 := h2; show i = b; omega)
 replace H16 := H16.keep K29 (by intro h; change b = b20 at h; omega)
 replace H4 := H4.keep K29 (by intro h; change b1 = b20 at h; omega)
 replace F19 := RdO.keep F19 K29 (fun i _ _ hi hs => by have hs : i = b20 := hs; have := ob26 i _ _ hi; omega)
 clear K29
 refine od ?_
 refine qs ?_
 refine qs ?_
 refine qg ?_
 refine og 1 [(0, (ptr b)), (2, (ptr b1)), (3, (ptr b20)), (10, (ptr b))] 1 ?_
 refine Ops.call (by kernel_rfl) (d := (some 11)) (by kernel_rfl) (Count_calls _ b A c ((((r.int).2).int).2) hok17 H16 F19 hne 600 (by omega)) ?_
 rintro _ w30 ⟨rfl, K31, H32⟩
 have hok33 : (((((r.int).2).int).2).sized 600).2.Ok := Rdr.Ok.sized hok17 600
 have hu34 := Rdr.sized_le hok17 600
 have hu35 := Rdr.sized_lt ((((r.int).2).int).2) 600
 refine ⟨_, _, rfl, rfl, ?_⟩
 replace K0 := K0.trans K31 (U := (fun i => i = b)) (fun i h1 h2 => h2) (fun i h1 h2 => by have h2 : i = b := h2; show i = b; omega)
 replace H4 := H4.keep K31 (by intro h; change b1 = b at h; omega)
 replace H28 := H28.keep K31 (by intro h; change b20 = b at h; omega)
 replace F19 := RdO.keep F19 K31 (fun i _ _ hi hs => by have hs : i = b := hs; have := hne i _ _ hi; omega)
 clear K31
 have F36 : RdO w30 A c (((((r.int).2).int).2).sized 600).2.bs := by rw [Rdr.sized_bs]; exact F19
 clear F19
 refine og 1 [(0, (ptr b)), (2, (ptr b1)), (3, (ptr b20)), (11, (i64 (((((((r.int).2).int).2).sized 600).1 : Nat) : Int))), (12, (i64 0))] 3 ?_
 refine od ?_
 refine q_block (id := 0) (by kernel_rfl) ?_
 refine q_keep (R := [(0, (ptr b)), (2, (ptr b1)), (3, (ptr b20)), (11, (i64 (((((((r.int).2).int).2).sized 600).1 : Nat) : Int))), (12, (i64 0))]) (by kernel_rfl) ?_
 refine q_loop (fun (gs : (Option Addr) × Nat × Nat × (List RowM) × Rdr) L (wx : World) => match gs with | (VA, vc, i, l, R) => L = [(0, (ptr b)), (2, (ptr b1)), (3, (ptr b20)), (11, (i64 (((((((r.int).2).int).2).sized 600).1 : Nat) : Int))), (12, (i64 ((i : Nat) : Int)))] ∧ RdO wx A c R.bs ∧ OwnR wx w.heap.size 59 (Value.slice VA l.length vc) l ∧ (∀ i, ((Value.slice VA l.length vc)).ownBlock = some i → i ≠ b) ∧ (∀ i, ((Value.slice VA l.length vc)).ownBlock = some i → i ≠ b1) ∧ (∀ i, ((Value.slice VA l.length vc)).ownBlock = some i → i ≠ b20) ∧ (∀ i o s, A = some ⟨i, o, s⟩ → ((Value.slice VA l.length vc)).ownBlock = some i → False) ∧ R.Ok ∧ l ++ (Rdr.rows (r.rhead.1 - i) R).1 = (Rdr.rows r.rhead.1 r.rhead.2).1 ∧ (Rdr.rows (r.rhead.1 - i) R).2 = (Rdr.rows r.rhead.1 r.rhead.2).2 ∧ i ≤ r.rhead.1 ∧ l.length = i ∧ Keeps (fun i => i = b) w wx ∧ Has wx b (rowL (rdrL A c R) 115) ∧ Has wx b1 (rowL [(i64 0), (i64 0), (Value.slice none 0 0)] 27) ∧ Has wx b20 (rowL [(i64 ((r.int).1)), (i64 ((((r.int).2).int).1)), (Value.slice VA l.length vc)] 27)) (fun (gs : (Option Addr) × Nat × Nat × (List RowM) × Rdr) => match gs with | (VA, vc, i, l, R) => r.rhead.1 - i) (none, 0, 0, [], (((((r.int).2).int).2).sized 600).2) (by kernel_rfl) ⟨rfl, F36, (OwnT.nil _ _ _ _ _), (fun i hi => by cases hi), (fun i hi => by cases hi), (fun i hi => by cases hi), (fun _ _ _ _ h => by cases h), hok33, rfl, rfl, Nat.zero_le _, rfl, K0, H32, H4, H28⟩ ?_
 clear H32 H4 H28 F36 K0
 rintro ⟨VA, vc, i, l, R⟩ _ w37 ⟨rfl, hRdA, hOV, obVb, obVb1, obVb20, ooVA, hokR, hE, hF, hi, hli, K38, H39, H40, H41⟩
 have hN : r.rhead.1 = (((((r.int).2).int).2).sized 600).1 := rfl
 have hle := r.rhead_le
 refine qs ?_
 refine qg ?_
 refine og 1 [(0, (ptr b)), (2, (ptr b1)), (3, (ptr b20)), (11, (i64 (((((((r.int).2).int).2).sized 600).1 : Nat) : Int))), (12, (i64 ((i : Nat) : Int))), (13, (Value.bool (decide (((i : Nat) : Int) < (((((((r.int).2).int).2).sized 600).1 : Nat) : Int)))))] 1 ?_
 refine od ?_
 refine qs ?_
 refine q_cond (o := .tmp 13) (b := (decide (((i : Nat) : Int) < (((((((r.int).2).int).2).sized 600).1 : Nat) : Int)))) (by kernel_rfl) rfl (fun h42 => ?_) (fun h42 => ?_)
 ·rw [h42]
  have p43 : ((i : Nat) : Int) < (((((((r.int).2).int).2).sized 600).1 : Nat) : Int) := of_decide_eq_true h42
  refine q_skip (by kernel_rfl) ?_
  refine qs ?_
  refine q_block (id := 1) (by kernel_rfl) ?_
  refine qs ?_
  refine qg ?_
  refine og 1 [(0, (ptr b)), (2, (ptr b1)), (3, (ptr b20)), (11, (i64 (((((((r.int).2).int).2).sized 600).1 : Nat) : Int))), (12, (i64 ((i : Nat) : Int))), (13, (Value.bool true)), (14, (ptr b))] 1 ?_
  refine Ops.call (by kernel_rfl) (d := (some 15)) (by kernel_rfl) (RdText_calls _ b A c R hokR H39 hRdA hne ) ?_
  rintro _ w44 ⟨rfl, K45, H46⟩
  have hok47 : (R.bytes).2.Ok := Rdr.Ok.bytes hokR
  have hu48 := Rdr.bytes_le hokR
  refine ⟨_, _, rfl, rfl, ?_⟩
  replace K38 := K38.trans K45 (U := (fun i => i = b)) (fun i h1 h2 => h2) (fun i h1 h2 => by have h2 : i = b := h2; show i = b; omega)
  replace H40 := H40.keep K45 (by intro h; change b1 = b at h; omega)
  replace H41 := H41.keep K45 (by intro h; change b20 = b at h; omega)
  replace hRdA := RdO.keep hRdA K45 (fun i _ _ hi hs => by have hs : i = b := hs; have := hne i _ _ hi; omega)
  replace hOV := own_keep hOV K45 (fun i hi hs => by have hs : i = b := hs; have := obVb i hi; omega)
  clear K45
  have F49 : RdO w44 A c (R.bytes).2.bs := by rw [Rdr.bytes_bs]; exact hRdA
  clear hRdA
  refine og 1 [(0, (ptr b)), (2, (ptr b1)), (3, (ptr b20)), (11, (i64 (((((((r.int).2).int).2).sized 600).1 : Nat) : Int))), (12, (i64 ((i : Nat) : Int))), (13, (Value.bool true)), (16, (agg [(Value.string (str (R.bytes).1)), (i64 0)]))] 3 ?_
  refine Ops.new (o := rowL [(Value.string ByteArray.empty), (i64 0)] 59) (V := fun b => (ptr b)) (by kernel_rfl) (d := (some 4)) (by kernel_rfl) (fun b => rfl) (fun b50 w51 hb52 H53 K54 hs55 => ?_)
  have lb50 : b20 < b50 := by have := H41.lt; omega
  have nb50 : w.heap.size ≤ b50 := by have := K38.size; omega
  have ob56 : ∀ i o s, A = some ⟨i, o, s⟩ → i ≠ b50 := fun i o s hi => by have := F49.2 i o s hi; omega
  have ob57 : ∀ i, ((Value.slice VA l.length vc)).ownBlock = some i → i < b50 := fun i hi => by have := (World.ownsRow.lt hOV i hi).2; omega
  replace K38 := K38.trans K54 (U := (fun i => i = b)) (fun i h1 h2 => h2) (fun i h1 h2 => by exact h2.elim)
  replace H46 := H46.keep K54 (fun h => h)
  replace H40 := H40.keep K54 (fun h => h)
  replace H41 := H41.keep K54 (fun h => h)
  replace F49 := RdO.keep0 F49 K54
  replace hOV := own_keep0 hOV K54
  clear K54 hs55
  refine Ops.put (t := 59) (b := b50) (off := 0) (v := (agg [(Value.string (str (R.bytes).1)), (i64 0)])) (ys := [(Value.string (str (R.bytes).1)), (i64 0)]) (by kernel_rfl) (by kernel_rfl) H53 (by kernel_rfl) (d := none) (by kernel_rfl) rfl (fun w58 H59 K60 => ?_)
  clear H53
  replace K38 := K38.trans K60 (U := (fun i => i = b)) (fun i h1 h2 => h2) (fun i h1 h2 => by have h2 : i = b50 := h2; show i = b; omega)
  replace H46 := H46.keep K60 (by intro h; change b = b50 at h; omega)
  replace H40 := H40.keep K60 (by intro h; change b1 = b50 at h; omega)
  replace H41 := H41.keep K60 (by intro h; change b20 = b50 at h; omega)
  replace F49 := RdO.keep F49 K60 (fun i _ _ hi hs => by have hs : i = b50 := hs; have := ob56 i _ _ hi; omega)
  replace hOV := own_keep hOV K60 (fun i hi hs => by have hs : i = b50 := hs; have := ob57 i hi; omega)
  clear K60
  refine od ?_
  refine qs ?_
  refine qg ?_
  refine og 1 [(0, (ptr b)), (2, (ptr b1)), (3, (ptr b20)), (4, (ptr b50)), (11, (i64 (((((((r.int).2).int).2).sized 600).1 : Nat) : Int))), (12, (i64 ((i : Nat) : Int))), (13, (Value.bool true)), (17, (ptr b))] 1 ?_
  refine Ops.call (by kernel_rfl) (d := (some 18)) (by kernel_rfl) (RdInt_calls _ b A c ((R.bytes).2) hok47 H46 F49 hne ) ?_
  rintro _ w61 ⟨rfl, K62, H63⟩
  have hok64 : (((R.bytes).2).int).2.Ok := Rdr.Ok.int hok47
  have hu65 := Rdr.int_range ((R.bytes).2)
  refine ⟨_, _, rfl, rfl, ?_⟩
  replace K38 := K38.trans K62 (U := (fun i => i = b)) (fun i h1 h2 => h2) (fun i h1 h2 => by have h2 : i = b := h2; show i = b; omega)
  replace H40 := H40.keep K62 (by intro h; change b1 = b at h; omega)
  replace H41 := H41.keep K62 (by intro h; change b20 = b at h; omega)
  replace H59 := H59.keep K62 (by intro h; change b50 = b at h; omega)
  replace F49 := RdO.keep F49 K62 (fun i _ _ hi hs => by have hs : i = b := hs; have := hne i _ _ hi; omega)
  replace hOV := own_keep hOV K62 (fun i hi hs => by have hs : i = b := hs; have := obVb i hi; omega)
  clear K62
  have F66 : RdO w61 A c (((R.bytes).2).int).2.bs := by rw [Rdr.int_bs]; exact F49
  clear F49
  refine og 1 [(0, (ptr b)), (2, (ptr b1)), (3, (ptr b20)), (4, (ptr b50)), (11, (i64 (((((((r.int).2).int).2).sized 600).1 : Nat) : Int))), (12, (i64 ((i : Nat) : Int))), (13, (Value.bool true)), (18, (i64 ((((R.bytes).2).int).1))), (19, (Value.pointer (some ⟨b50, 1, none⟩)))] 3 ?_
  refine Ops.put (t := 2) (b := b50) (off := 1) (v := (i64 ((((R.bytes).2).int).1))) (ys := [(Value.string (str (R.bytes).1)), (i64 ((((R.bytes).2).int).1))]) (by kernel_rfl) (by kernel_rfl) H59 (by kernel_rfl) (d := none) (by kernel_rfl) rfl (fun w67 H68 K69 => ?_)
  clear H59
  replace K38 := K38.trans K69 (U := (fun i => i = b)) (fun i h1 h2 => h2) (fun i h1 h2 => by have h2 : i = b50 := h2; show i = b; omega)
  replace H63 := H63.keep K69 (by intro h; change b = b50 at h; omega)
  replace H40 := H40.keep K69 (by intro h; change b1 = b50 at h; omega)
  replace H41 := H41.keep K69 (by intro h; change b20 = b50 at h; omega)
  replace F66 := RdO.keep F66 K69 (fun i _ _ hi hs => by have hs : i = b50 := hs; have := ob56 i _ _ hi; omega)
  replace hOV := own_keep hOV K69 (fun i hi hs => by have hs : i = b50 := hs; have := ob57 i hi; omega)
  clear K69
  refine od ?_
  refine qg ?_
  refine og 1 [(0, (ptr b)), (2, (ptr b1)), (3, (ptr b20)), (4, (ptr b50)), (11, (i64 (((((((r.int).2).int).2).sized 600).1 : Nat) : Int))), (12, (i64 ((i : Nat) : Int))), (13, (Value.bool true)), (20, (Value.pointer (some ⟨b20, 2, none⟩)))] 1 ?_
  refine Ops.go (v := (Value.slice VA l.length vc)) (by kernel_rfl) (Runs.load (t := 25) (a := ⟨b20, 2, none⟩) (by kernel_rfl) (H41.loads (by kernel_rfl))) (d := (some 21)) (by kernel_rfl) rfl ?_
  refine Ops.go (v := (agg [(Value.string (str (R.bytes).1)), (i64 ((((R.bytes).2).int).1))])) (by kernel_rfl) (Runs.load (t := 59) (a := ⟨b50, 0, none⟩) (by kernel_rfl) (H68.loads (by kernel_rfl))) (d := (some 22)) (by kernel_rfl) rfl ?_
  refine Ops.new (o := rowL [(Value.string (str (R.bytes).1)), (i64 ((((R.bytes).2).int).1))] 59) (V := fun b => (Value.slice (some ⟨b, 0, none⟩) 1 1)) (by kernel_rfl) (d := (some 23)) (by kernel_rfl) (fun b => rfl) (fun b70 w71 hb72 H73 K74 hs75 => ?_)
  have lb70 : b50 < b70 := by have := H68.lt; omega
  have nb70 : w.heap.size ≤ b70 := by have := K38.size; omega
  have ob76 : ∀ i o s, A = some ⟨i, o, s⟩ → i ≠ b70 := fun i o s hi => by have := F66.2 i o s hi; omega
  have ob77 : ∀ i, ((Value.slice VA l.length vc)).ownBlock = some i → i < b70 := fun i hi => by have := (World.ownsRow.lt hOV i hi).2; omega
  replace K38 := K38.trans K74 (U := (fun i => i = b)) (fun i h1 h2 => h2) (fun i h1 h2 => by exact h2.elim)
  replace H63 := H63.keep K74 (fun h => h)
  replace H40 := H40.keep K74 (fun h => h)
  replace H41 := H41.keep K74 (fun h => h)
  replace H68 := H68.keep K74 (fun h => h)
  replace F66 := RdO.keep0 F66 K74
  replace hOV := own_keep0 hOV K74
  clear K74 hs75
  obtain ⟨v78, w79, hr80, hO81, hK82, hg83⟩ := OwnT.app (ty := 25) RowM.two RowM.one tyR hOV (show RdT _ 2 RowM.cells _ [(⟨(R.bytes).1, (((R.bytes).2).int).1⟩ : RowM)] from Rd.lit H73 (n := 1) rfl (by decide)) (by simp only [List.length_cons, List.length_nil]; omega) (by simp only [List.length_cons, List.length_nil]; omega) K38.size
  obtain ⟨A85, c86, rfl⟩ := RdT.form RowM.two (by decide) (OwnT.rd hO81)
  have ob87 : ∀ i, ((Value.slice A85 ((l ++ [(⟨(R.bytes).1, (((R.bytes).2).int).1⟩ : RowM)]).length) c86)).ownBlock = some i → i ≠ b := fun i hi => by rcases hg83 i hi with h | h; (have := obVb i h; omega); (have := H63.lt; omega)
  have ob88 : ∀ i, ((Value.slice A85 ((l ++ [(⟨(R.bytes).1, (((R.bytes).2).int).1⟩ : RowM)]).length) c86)).ownBlock = some i → i ≠ b1 := fun i hi => by rcases hg83 i hi with h | h; (have := obVb1 i h; omega); (have := H40.lt; omega)
  have ob89 : ∀ i, ((Value.slice A85 ((l ++ [(⟨(R.bytes).1, (((R.bytes).2).int).1⟩ : RowM)]).length) c86)).ownBlock = some i → i ≠ b20 := fun i hi => by rcases hg83 i hi with h | h; (have := obVb20 i h; omega); (have := H41.lt; omega)
  have ob90 : ∀ i, ((Value.slice A85 ((l ++ [(⟨(R.bytes).1, (((R.bytes).2).int).1⟩ : RowM)]).length) c86)).ownBlock = some i → i ≠ b50 := fun i hi => by rcases hg83 i hi with h | h; (have := ob57 i h; omega); (have := H68.lt; omega)
  have ob91 : ∀ i, ((Value.slice A85 ((l ++ [(⟨(R.bytes).1, (((R.bytes).2).int).1⟩ : RowM)]).length) c86)).ownBlock = some i → i ≠ b70 := fun i hi => by rcases hg83 i hi with h | h; (have := ob77 i h; omega); (have := H73.lt; omega)
  have oo92 : ∀ i o s, A = some ⟨i, o, s⟩ → ((Value.slice A85 ((l ++ [(⟨(R.bytes).1, (((R.bytes).2).int).1⟩ : RowM)]).length) c86)).ownBlock = some i → False := fun i o s hi hs => by rcases hg83 i hs with h | h; (exact ooVA i o s hi h); (have := F66.2 i o s hi; omega)
  have K84 := hK82
  refine Ops.go (v := (Value.slice A85 ((l ++ [(⟨(R.bytes).1, (((R.bytes).2).int).1⟩ : RowM)]).length) c86)) (by kernel_rfl) (Runs.append (ts := #[25, 25]) (ty := 25) (vs := [(Value.slice VA l.length vc), (Value.slice (some ⟨b70, 0, none⟩) 1 1)]) (by kernel_rfl) hr80) (d := (some 24)) (by kernel_rfl) rfl ?_
  replace K38 := K38.trans K84 (U := (fun i => i = b)) (fun i h1 h2 => h2) (fun i h1 h2 => by have h2 : ((Value.slice VA l.length vc)).ownBlock = some i := h2; exfalso; have := (World.ownsRow.lt hOV i h2).1; omega)
  replace H63 := H63.keep K84 (by intro h; change ((Value.slice VA l.length vc)).ownBlock = some b at h; have := obVb b h; omega)
  replace H40 := H40.keep K84 (by intro h; change ((Value.slice VA l.length vc)).ownBlock = some b1 at h; have := obVb1 b1 h; omega)
  replace H41 := H41.keep K84 (by intro h; change ((Value.slice VA l.length vc)).ownBlock = some b20 at h; have := obVb20 b20 h; omega)
  replace H68 := H68.keep K84 (by intro h; change ((Value.slice VA l.length vc)).ownBlock = some b50 at h; have := ob57 b50 h; omega)
  replace H73 := H73.keep K84 (by intro h; change ((Value.slice VA l.length vc)).ownBlock = some b70 at h; have := ob77 b70 h; omega)
  replace F66 := RdO.keep F66 K84 (fun i _ _ hi hs => by have hs : ((Value.slice VA l.length vc)).ownBlock = some i := hs; exact ooVA i _ _ hi hs)
  clear hOV
  clear K84 hr80 hK82 hg83
  refine og 1 [(0, (ptr b)), (2, (ptr b1)), (3, (ptr b20)), (4, (ptr b50)), (11, (i64 (((((((r.int).2).int).2).sized 600).1 : Nat) : Int))), (12, (i64 ((i : Nat) : Int))), (13, (Value.bool true)), (24, (Value.slice A85 ((l ++ [(⟨(R.bytes).1, (((R.bytes).2).int).1⟩ : RowM)]).length) c86)), (25, (Value.pointer (some ⟨b20, 2, none⟩)))] 6 ?_
  refine Ops.put (t := 25) (b := b20) (off := 2) (v := (Value.slice A85 ((l ++ [(⟨(R.bytes).1, (((R.bytes).2).int).1⟩ : RowM)]).length) c86)) (ys := [(i64 ((r.int).1)), (i64 ((((r.int).2).int).1)), (Value.slice A85 ((l ++ [(⟨(R.bytes).1, (((R.bytes).2).int).1⟩ : RowM)]).length) c86)]) (by kernel_rfl) (by kernel_rfl) H41 (by kernel_rfl) (d := none) (by kernel_rfl) rfl (fun w93 H94 K95 => ?_)
  clear H41
  replace K38 := K38.trans K95 (U := (fun i => i = b)) (fun i h1 h2 => h2) (fun i h1 h2 => by have h2 : i = b20 := h2; show i = b; omega)
  replace H63 := H63.keep K95 (by intro h; change b = b20 at h; omega)
  replace H40 := H40.keep K95 (by intro h; change b1 = b20 at h; omega)
  replace H68 := H68.keep K95 (by intro h; change b50 = b20 at h; omega)
  replace H73 := H73.keep K95 (by intro h; change b70 = b20 at h; omega)
  replace F66 := RdO.keep F66 K95 (fun i _ _ hi hs => by have hs : i = b20 := hs; have := ob26 i _ _ hi; omega)
  replace hO81 := own_keep hO81 K95 (fun i hi hs => by have hs : i = b20 := hs; have := ob89 i hi; omega)
  clear K95
  refine od ?_
  refine qg ?_
  refine og 1 [(0, (ptr b)), (2, (ptr b1)), (3, (ptr b20)), (4, (ptr b50)), (11, (i64 (((((((r.int).2).int).2).sized 600).1 : Nat) : Int))), (12, (i64 ((i : Nat) : Int))), (13, (Value.bool true)), (26, (i64 (IntKind.i64.wrap (((i : Nat) : Int) + 1))))] 1 ?_
  have e96 : IntKind.i64.wrap (((i : Nat) : Int) + 1) = ((i + 1 : Nat) : Int) := by rw [wrap_i64 (by omega) (by omega)]; omega
  rw [e96]
  clear e96
  refine og 1 [(0, (ptr b)), (2, (ptr b1)), (3, (ptr b20)), (4, (ptr b50)), (11, (i64 (((((((r.int).2).int).2).sized 600).1 : Nat) : Int))), (12, (i64 ((i + 1 : Nat) : Int))), (13, (Value.bool true))] 2 ?_
  refine Ops.keep (R := [(0, (ptr b)), (2, (ptr b1)), (3, (ptr b20)), (11, (i64 (((((((r.int).2).int).2).sized 600).1 : Nat) : Int))), (12, (i64 ((i + 1 : Nat) : Int)))]) (by kernel_rfl) ?_
  refine od ?_
  exact ⟨(A85, c86, i + 1, l ++ [(⟨(R.bytes).1, (((R.bytes).2).int).1⟩ : RowM)], (((R.bytes).2).int).2), ⟨rfl, F66, hO81, ob87, ob88, ob89, oo92, hok64, (Rdr.rows_next hE hF (by omega)).1, (Rdr.rows_next hE hF (by omega)).2, (by omega), (by simp [hli]), K38, H63, H40, H94⟩, (show r.rhead.1 - (i + 1) < r.rhead.1 - i from by omega)⟩
 ·rw [h42]
  have p97 : ¬ (((i : Nat) : Int) < (((((((r.int).2).int).2).sized 600).1 : Nat) : Int)) := of_decide_eq_false h42
  refine q_exit (id := 0) (by kernel_rfl) ?_
  refine qs ?_
  refine qg ?_
  refine Ops.go (v := (agg [(i64 ((r.int).1)), (i64 ((((r.int).2).int).1)), (Value.slice VA l.length vc)])) (by kernel_rfl) (Runs.load (t := 27) (a := ⟨b20, 0, none⟩) (by kernel_rfl) (H41.loads (by kernel_rfl))) (d := (some 27)) (by kernel_rfl) rfl ?_
  refine Ops.put (t := 27) (b := b1) (off := 0) (v := (agg [(i64 ((r.int).1)), (i64 ((((r.int).2).int).1)), (Value.slice VA l.length vc)])) (ys := [(i64 ((r.int).1)), (i64 ((((r.int).2).int).1)), (Value.slice VA l.length vc)]) (by kernel_rfl) (by kernel_rfl) H40 (by kernel_rfl) (d := none) (by kernel_rfl) rfl (fun w98 H99 K100 => ?_)
  clear H40
  replace K38 := K38.trans K100 (U := (fun i => i = b)) (fun i h1 h2 => h2) (fun i h1 h2 => by have h2 : i = b1 := h2; show i = b; omega)
  replace H39 := H39.keep K100 (by intro h; change b = b1 at h; omega)
  replace H41 := H41.keep K100 (by intro h; change b20 = b1 at h; omega)
  replace hRdA := RdO.keep hRdA K100 (fun i _ _ hi hs => by have hs : i = b1 := hs; have := ob7 i _ _ hi; omega)
  replace hOV := own_keep hOV K100 (fun i hi hs => by have hs : i = b1 := hs; have := obVb1 i hi; omega)
  clear K100
  refine od ?_
  refine q_ret (by kernel_rfl) ?_
  refine ⟨(agg [(i64 ((r.int).1)), (i64 ((((r.int).2).int).1)), (Value.slice VA l.length vc)]), retv_cell rfl rfl (H99.loads (by kernel_rfl)), ?_⟩
  have hd := Rdr.rows_done hE hF (by omega)
  have e : r.reply = (⟨r.int.1, r.int.2.int.1, l⟩, R) := by show ((⟨r.int.1, r.int.2.int.1, (Rdr.rows r.rhead.1 r.rhead.2).1⟩ : ReplyM), (Rdr.rows r.rhead.1 r.rhead.2).2) = _; rw [hd.1, hd.2]
  exact ⟨_, _, by rw [e], K38, by rw [e]; exact hOV, by rw [e]; exact H39⟩

theorem RGetReply_calls (w : World) (b : Nat) (A : Option Addr) (c : Nat) (r : Rdr) (hok : r.Ok) (H0 : Has w b (rowL (rdrL A c r) 100)) (hR : RdO w A c r.bs) (hne : ∀ g o s, A = some ⟨g, o, s⟩ → g ≠ b) : Calls Try.prog 58 ⟨[(ptr b)]⟩ w (fun e w' => ∃ A' c', e = .returned (agg [i64 r.reply.1.why, i64 r.reply.1.amount, .slice A' r.reply.1.rows.length c']) ∧ Keeps (fun i => i = b) w w' ∧ OwnR w' w.heap.size 59 (.slice A' r.reply.1.rows.length c') r.reply.1.rows ∧ Has w' b (rowL (rdrL A c r.reply.2) 100)) := by
 have hpos := hok.pos
 have hlen := hok.len
 have hsc := r.scan_le
 have hdl : (r.bs.drop r.pos).length = r.bs.length - r.pos := List.length_drop
 have hcap := hR.1.slice
 have Hb := H0.lt
 have K0 : Keeps (fun i => i = b) w w := (Keeps.refl w).mono (fun _ _ h => h.elim)
 refine q_calls Try.func58 (by kernel_rfl) (by kernel_rfl) ?_
 refine qs ?_
 refine qg ?_
 refine Ops.new (o := rowL [(i64 0), (i64 0), (Value.slice none 0 0)] 27) (V := fun b => (ptr b)) (by kernel_rfl) (d := (some 2)) (by kernel_rfl) (fun b => rfl) (fun b1 w2 hb3 H4 K5 hs6 => ?_)
 have lb1 : b < b1 := by have := H0.lt; omega
 have nb1 : w.heap.size ≤ b1 := by have := K0.size; omega
 have ob7 : ∀ i o s, A = some ⟨i, o, s⟩ → i ≠ b1 := fun i o s hi => by have := hR.2 i o s hi; omega
 replace K0 := K0.trans K5 (U := (fun i => i = b)) (fun i h1 h2 => h2) (fun i h1 h2 => by exact h2.elim)
 replace H0 := H0.keep K5 (fun h => h)
 replace hR := RdO.keep0 hR K5
 clear K5 hs6
 refine od ?_
 refine qs ?_
 refine qg ?_
 refine Ops.new (o := rowL [(i64 0), (i64 0), (Value.slice none 0 0)] 27) (V := fun b => (ptr b)) (by kernel_rfl) (d := (some 3)) (by kernel_rfl) (fun b => rfl) (fun b8 w9 hb10 H11 K12 hs13 => ?_)
 have lb8 : b1 < b8 := by have := H4.lt; omega
 have nb8 : w.heap.size ≤ b8 := by have := K0.size; omega
 have ob14 : ∀ i o s, A = some ⟨i, o, s⟩ → i ≠ b8 := fun i o s hi => by have := hR.2 i o s hi; omega
 replace K0 := K0.trans K12 (U := (fun i => i = b)) (fun i h1 h2 => h2) (fun i h1 h2 => by exact h2.elim)
 replace H0 := H0.keep K12 (fun h => h)
 replace H4 := H4.keep K12 (fun h => h)
 replace hR := RdO.keep0 hR K12
 clear K12 hs13
 refine od ?_
 refine qs ?_
 refine qg ?_
 refine og 1 [(0, (ptr b)), (2, (ptr b1)), (3, (ptr b8)), (7, (ptr b))] 1 ?_
 refine Ops.call (by kernel_rfl) (d := (some 8)) (by kernel_rfl) (RRInt_calls _ b A c r hok H0 hR hne ) ?_
 rintro _ w15 ⟨rfl, K16, H17⟩
 have hok18 : (r.int).2.Ok := Rdr.Ok.int hok
 have hu19 := Rdr.int_range r
 refine ⟨_, _, rfl, rfl, ?_⟩
 replace K0 := K0.trans K16 (U := (fun i => i = b)) (fun i h1 h2 => h2) (fun i h1 h2 => by have h2 : i = b := h2; show i = b; omega)
 replace H4 := H4.keep K16 (by intro h; change b1 = b at h; omega)
 replace H11 := H11.keep K16 (by intro h; change b8 = b at h; omega)
 replace hR := RdO.keep hR K16 (fun i _ _ hi hs => by have hs : i = b := hs; have := hne i _ _ hi; omega)
 clear K16
 have F20 : RdO w15 A c (r.int).2.bs := by rw [Rdr.int_bs]; exact hR
 clear hR
 refine og 1 [(0, (ptr b)), (2, (ptr b1)), (3, (ptr b8)), (8, (i64 ((r.int).1))), (9, (ptr b8))] 3 ?_
 refine Ops.put (t := 24) (b := b8) (off := 0) (v := (i64 ((r.int).1))) (ys := [(i64 ((r.int).1)), (i64 0), (Value.slice none 0 0)]) (by kernel_rfl) (by kernel_rfl) H11 (by kernel_rfl) (d := none) (by kernel_rfl) rfl (fun w21 H22 K23 => ?_)
 clear H11
 replace K0 := K0.trans K23 (U := (fun i => i = b)) (fun i h1 h2 => h2) (fun i h1 h2 => by have h2 : i = b8 := h2; show i = b; omega)
 replace H17 := H17.keep K23 (by intro h; change b = b8 at h; omega)
 replace H4 := H4.keep K23 (by intro h; change b1 = b8 at h; omega)
 replace F20 := RdO.keep F20 K23 (fun i _ _ hi hs => by have hs : i = b8 := hs; have := ob14 i _ _ hi; omega)
 clear K23
 refine od ?_
 refine qs ?_
 refine qg ?_
 refine og 1 [(0, (ptr b)), (2, (ptr b1)), (3, (ptr b8)), (10, (ptr b))] 1 ?_
 refine Ops.call (by kernel_rfl) (d := (some 11)) (by kernel_rfl) (RRInt_calls _ b A c ((r.int).2) hok18 H17 F20 hne ) ?_
 rintro _ w24 ⟨rfl, K25, H26⟩
 have hok27 : (((r.int).2).int).2.Ok := Rdr.Ok.int hok18
 have hu28 := Rdr.int_range ((r.int).2)
 refine ⟨_, _, rfl, rfl, ?_⟩
 replace K0 := K0.trans K25 (U := (fun i => i = b)) (fun i h1 h2 => h2) (fun i h1 h2 => by have h2 : i = b := h2; show i = b; omega)
 replace H4 := H4.keep K25 (by intro h; change b1 = b at h; omega)
 replace H22 := H22.keep K25 (by intro h; change b8 = b at h; omega)
 replace F20 := RdO.keep F20 K25 (fun i _ _ hi hs => by have hs : i = b := hs; have := hne i _ _ hi; omega)
 clear K25
 have F29 : RdO w24 A c (((r.int).2).int).2.bs := by rw [Rdr.int_bs]; exact F20
 clear F20
 refine og 1 [(0, (ptr b)), (2, (ptr b1)), (3, (ptr b8)), (11, (i64 ((((r.int).2).int).1))), (12, (Value.pointer (some ⟨b8, 1, none⟩)))] 3 ?_
 refine Ops.put (t := 2) (b := b8) (off := 1) (v := (i64 ((((r.int).2).int).1))) (ys := [(i64 ((r.int).1)), (i64 ((((r.int).2).int).1)), (Value.slice none 0 0)]) (by kernel_rfl) (by kernel_rfl) H22 (by kernel_rfl) (d := none) (by kernel_rfl) rfl (fun w30 H31 K32 => ?_)
 clear H22
 replace K0 := K0.trans K32 (U := (fun i => i = b)) (fun i h1 h2 => h2) (fun i h1 h2 => by have h2 : i = b8 := h2; show i = b; omega)
 replace H26 := H26.keep K32 (by intro h; change b = b8 at h; omega)
 replace H4 := H4.keep K32 (by intro h; change b1 = b8 at h; omega)
 replace F29 := RdO.keep F29 K32 (fun i _ _ hi hs => by have hs : i = b8 := hs; have := ob14 i _ _ hi; omega)
 clear K32
 refine od ?_
 refine qs ?_
 refine qg ?_
 refine og 1 [(0, (ptr b)), (2, (ptr b1)), (3, (ptr b8)), (13, (ptr b))] 1 ?_
 refine Ops.call (by kernel_rfl) (d := (some 14)) (by kernel_rfl) (RRCount_calls _ b A c ((((r.int).2).int).2) hok27 H26 F29 hne 600 (by omega)) ?_
 rintro _ w33 ⟨rfl, K34, H35⟩
 have hok36 : (((((r.int).2).int).2).sized 600).2.Ok := Rdr.Ok.sized hok27 600
 have hu37 := Rdr.sized_le hok27 600
 have hu38 := Rdr.sized_lt ((((r.int).2).int).2) 600
 refine ⟨_, _, rfl, rfl, ?_⟩
 replace K0 := K0.trans K34 (U := (fun i => i = b)) (fun i h1 h2 => h2) (fun i h1 h2 => by have h2 : i = b := h2; show i = b; omega)
 replace H4 := H4.keep K34 (by intro h; change b1 = b at h; omega)
 replace H31 := H31.keep K34 (by intro h; change b8 = b at h; omega)
 replace F29 := RdO.keep F29 K34 (fun i _ _ hi hs => by have hs : i = b := hs; have := hne i _ _ hi; omega)
 clear K34
 have F39 : RdO w33 A c (((((r.int).2).int).2).sized 600).2.bs := by rw [Rdr.sized_bs]; exact F29
 clear F29
 refine og 1 [(0, (ptr b)), (2, (ptr b1)), (3, (ptr b8)), (4, (i64 (((((((r.int).2).int).2).sized 600).1 : Nat) : Int)))] 3 ?_
 refine od ?_
 refine qs ?_
 refine qs ?_
 refine qg ?_
 refine og 1 [(0, (ptr b)), (2, (ptr b1)), (3, (ptr b8)), (4, (i64 (((((((r.int).2).int).2).sized 600).1 : Nat) : Int))), (5, (i64 0))] 1 ?_
 refine od ?_
 refine q_block (id := 0) (by kernel_rfl) ?_
 refine q_keep (R := [(0, (ptr b)), (2, (ptr b1)), (3, (ptr b8)), (4, (i64 (((((((r.int).2).int).2).sized 600).1 : Nat) : Int))), (5, (i64 0))]) (by kernel_rfl) ?_
 refine q_loop (fun (gs : (Option Addr) × Nat × Nat × (List RowM) × Rdr) L (wx : World) => match gs with | (VA, vc, i, l, R) => L = [(0, (ptr b)), (2, (ptr b1)), (3, (ptr b8)), (4, (i64 (((((((r.int).2).int).2).sized 600).1 : Nat) : Int))), (5, (i64 ((i : Nat) : Int)))] ∧ RdO wx A c R.bs ∧ OwnR wx w.heap.size 59 (Value.slice VA l.length vc) l ∧ (∀ i, ((Value.slice VA l.length vc)).ownBlock = some i → i ≠ b) ∧ (∀ i, ((Value.slice VA l.length vc)).ownBlock = some i → i ≠ b1) ∧ (∀ i, ((Value.slice VA l.length vc)).ownBlock = some i → i ≠ b8) ∧ (∀ i o s, A = some ⟨i, o, s⟩ → ((Value.slice VA l.length vc)).ownBlock = some i → False) ∧ R.Ok ∧ l ++ (Rdr.rows (r.rhead.1 - i) R).1 = (Rdr.rows r.rhead.1 r.rhead.2).1 ∧ (Rdr.rows (r.rhead.1 - i) R).2 = (Rdr.rows r.rhead.1 r.rhead.2).2 ∧ i ≤ r.rhead.1 ∧ l.length = i ∧ Keeps (fun i => i = b) w wx ∧ Has wx b (rowL (rdrL A c R) 100) ∧ Has wx b1 (rowL [(i64 0), (i64 0), (Value.slice none 0 0)] 27) ∧ Has wx b8 (rowL [(i64 ((r.int).1)), (i64 ((((r.int).2).int).1)), (Value.slice VA l.length vc)] 27)) (fun (gs : (Option Addr) × Nat × Nat × (List RowM) × Rdr) => match gs with | (VA, vc, i, l, R) => r.rhead.1 - i) (none, 0, 0, [], (((((r.int).2).int).2).sized 600).2) (by kernel_rfl) ⟨rfl, F39, (OwnT.nil _ _ _ _ _), (fun i hi => by cases hi), (fun i hi => by cases hi), (fun i hi => by cases hi), (fun _ _ _ _ h => by cases h), hok36, rfl, rfl, Nat.zero_le _, rfl, K0, H35, H4, H31⟩ ?_
 clear H35 H4 H31 F39 K0
 rintro ⟨VA, vc, i, l, R⟩ _ w40 ⟨rfl, hRdA, hOV, obVb, obVb1, obVb8, ooVA, hokR, hE, hF, hi, hli, K41, H42, H43, H44⟩
 have hN : r.rhead.1 = (((((r.int).2).int).2).sized 600).1 := rfl
 have hle := r.rhead_le
 refine qs ?_
 refine qs ?_
 refine qg ?_
 refine og 3 [(0, (ptr b)), (2, (ptr b1)), (3, (ptr b8)), (4, (i64 (((((((r.int).2).int).2).sized 600).1 : Nat) : Int))), (5, (i64 ((i : Nat) : Int))), (17, (Value.bool (decide (((i : Nat) : Int) < (((((((r.int).2).int).2).sized 600).1 : Nat) : Int)))))] 3 ?_
 refine od ?_
 refine q_cond (o := .tmp 17) (b := (decide (((i : Nat) : Int) < (((((((r.int).2).int).2).sized 600).1 : Nat) : Int)))) (by kernel_rfl) rfl (fun h45 => ?_) (fun h45 => ?_)
 ·rw [h45]
  have p46 : ((i : Nat) : Int) < (((((((r.int).2).int).2).sized 600).1 : Nat) : Int) := of_decide_eq_true h45
  refine q_skip (by kernel_rfl) ?_
  refine qs ?_
  refine q_block (id := 1) (by kernel_rfl) ?_
  refine qs ?_
  refine qg ?_
  refine og 1 [(0, (ptr b)), (2, (ptr b1)), (3, (ptr b8)), (4, (i64 (((((((r.int).2).int).2).sized 600).1 : Nat) : Int))), (5, (i64 ((i : Nat) : Int))), (17, (Value.bool true)), (20, (ptr b))] 1 ?_
  refine Ops.call (by kernel_rfl) (d := (some 21)) (by kernel_rfl) (RRText_calls _ b A c R hokR H42 hRdA hne ) ?_
  rintro _ w47 ⟨rfl, K48, H49⟩
  have hok50 : (R.bytes).2.Ok := Rdr.Ok.bytes hokR
  have hu51 := Rdr.bytes_le hokR
  refine ⟨_, _, rfl, rfl, ?_⟩
  replace K41 := K41.trans K48 (U := (fun i => i = b)) (fun i h1 h2 => h2) (fun i h1 h2 => by have h2 : i = b := h2; show i = b; omega)
  replace H43 := H43.keep K48 (by intro h; change b1 = b at h; omega)
  replace H44 := H44.keep K48 (by intro h; change b8 = b at h; omega)
  replace hRdA := RdO.keep hRdA K48 (fun i _ _ hi hs => by have hs : i = b := hs; have := hne i _ _ hi; omega)
  replace hOV := own_keep hOV K48 (fun i hi hs => by have hs : i = b := hs; have := obVb i hi; omega)
  clear K48
  have F52 : RdO w47 A c (R.bytes).2.bs := by rw [Rdr.bytes_bs]; exact hRdA
  clear hRdA
  refine og 1 [(0, (ptr b)), (2, (ptr b1)), (3, (ptr b8)), (4, (i64 (((((((r.int).2).int).2).sized 600).1 : Nat) : Int))), (5, (i64 ((i : Nat) : Int))), (6, (Value.string (str (R.bytes).1))), (17, (Value.bool true))] 3 ?_
  refine od ?_
  refine q_draw (fun wz => Keeps (fun i => ((Value.slice VA l.length vc)).ownBlock = some i ∨ i = b ∨ i = b8) w47 wz) 10 (by kernel_rfl) (by kernel_rfl) (by kernel_rfl) (fun w53 K54 _ _ => ⟨(K54.mono (fun _ _ h => h.elim)), ?_⟩)
  replace K41 := K41.trans K54 (U := (fun i => i = b)) (fun i h1 h2 => h2) (fun i h1 h2 => by exact h2.elim)
  replace H49 := H49.keep K54 (fun h => h)
  replace H43 := H43.keep K54 (fun h => h)
  replace H44 := H44.keep K54 (fun h => h)
  replace F52 := RdO.keep0 F52 K54
  replace hOV := own_keep0 hOV K54
  refine Dr.strong (S' := (fun wz => Keeps (fun i => ((Value.slice VA l.length vc)).ownBlock = some i ∨ i = b ∨ i = b8) w53 wz)) ((Keeps.refl w53).mono (fun _ _ h => h.elim)) (fun wz hx => K54.trans hx (fun i _ h => h.elim) (fun _ _ h => h)) ?_
  clear K54
  refine Dr.takes (fuel' := 7) (is' := [3, 2, 0]) [0, 2, 3] [(0, (ptr b)), (2, (ptr b1)), (3, (ptr b8)), (4, (i64 (((((((r.int).2).int).2).sized 600).1 : Nat) : Int))), (5, (i64 ((i : Nat) : Int))), (6, (Value.string (str (R.bytes).1))), (17, (Value.bool true)), (22, (Value.pointer (some ⟨b8, 2, none⟩))), (24, (Value.string (str (R.bytes).1))), (25, (ptr b))] (by kernel_rfl) rfl (by kernel_rfl) ?_
  refine Dr.float [(0, (ptr b)), (2, (ptr b1)), (3, (ptr b8)), (4, (i64 (((((((r.int).2).int).2).sized 600).1 : Nat) : Int))), (5, (i64 ((i : Nat) : Int))), (6, (Value.string (str (R.bytes).1))), (17, (Value.bool true)), (23, (Value.slice VA l.length vc)), (24, (Value.string (str (R.bytes).1))), (25, (ptr b))] 1 ?_
  refine DrB.call (i := 1) (j := 4) (t := 25) (a := ⟨b8, 2, none⟩) (v := (Value.slice VA l.length vc)) (by kernel_rfl) (.inl rfl) (by kernel_rfl) (by kernel_rfl) (by kernel_rfl) (by kernel_rfl) (di := (some 23)) (by kernel_rfl) (by kernel_rfl) (by kernel_rfl) (by kernel_rfl) (dj := (some 26)) (by kernel_rfl) (H44.loads (by kernel_rfl)) ((Keeps.refl _).mono (fun _ _ h => h.elim)) (RRInt_calls _ b A c ((R.bytes).2) hok50 H49 F52 hne ) ?_
  rintro _ w55 ⟨rfl, K56, H57⟩
  have hok58 : (((R.bytes).2).int).2.Ok := Rdr.Ok.int hok50
  have hu59 := Rdr.int_range ((R.bytes).2)
  replace K41 := K41.trans K56 (U := (fun i => i = b)) (fun i h1 h2 => h2) (fun i h1 h2 => by have h2 : i = b := h2; show i = b; omega)
  replace H43 := H43.keep K56 (by intro h; change b1 = b at h; omega)
  replace H44 := H44.keep K56 (by intro h; change b8 = b at h; omega)
  replace F52 := RdO.keep F52 K56 (fun i _ _ hi hs => by have hs : i = b := hs; have := hne i _ _ hi; omega)
  replace hOV := own_keep hOV K56 (fun i hi hs => by have hs : i = b := hs; have := obVb i hi; omega)
  refine ⟨_, _, _, rfl, (K56.mono (fun i _ h => by have h : i = b := h; show ((Value.slice VA l.length vc)).ownBlock = some i ∨ i = b ∨ i = b8; exact (.inr (.inl h)))), rfl, rfl, ?_⟩
  refine DrB.strong (S' := (fun wz => Keeps (fun i => ((Value.slice VA l.length vc)).ownBlock = some i ∨ i = b ∨ i = b8) w55 wz)) ((Keeps.refl w55).mono (fun _ _ h => h.elim)) (fun wz hx => K56.trans hx (fun i _ h => by have h : i = b := h; show ((Value.slice VA l.length vc)).ownBlock = some i ∨ i = b ∨ i = b8; exact (.inr (.inl h))) (fun _ _ h => h)) ?_
  clear K56
  have F60 : RdO w55 A c (((R.bytes).2).int).2.bs := by rw [Rdr.int_bs]; exact F52
  clear F52
  refine DrB.takes (fuel' := 4) (is' := [5, 4, 3, 2, 0]) [5] [(0, (ptr b)), (2, (ptr b1)), (3, (ptr b8)), (4, (i64 (((((((r.int).2).int).2).sized 600).1 : Nat) : Int))), (5, (i64 ((i : Nat) : Int))), (6, (Value.string (str (R.bytes).1))), (17, (Value.bool true)), (22, (Value.pointer (some ⟨b8, 2, none⟩))), (27, (agg [(Value.string (str (R.bytes).1)), (i64 ((((R.bytes).2).int).1))]))] [(0, (ptr b)), (2, (ptr b1)), (3, (ptr b8)), (4, (i64 (((((((r.int).2).int).2).sized 600).1 : Nat) : Int))), (5, (i64 ((i : Nat) : Int))), (6, (Value.string (str (R.bytes).1))), (17, (Value.bool true)), (23, (Value.slice VA l.length vc)), (27, (agg [(Value.string (str (R.bytes).1)), (i64 ((((R.bytes).2).int).1))]))] (by kernel_rfl) rfl (by kernel_rfl) (by kernel_rfl) (by kernel_rfl) ?_
  refine DrB.new (i := 1) (j := 6) (t := 25) (a := ⟨b8, 2, none⟩) (v := (Value.slice VA l.length vc)) (o := rowL [(Value.string (str (R.bytes).1)), (i64 ((((R.bytes).2).int).1))] 59) (V := fun b => (Value.slice (some ⟨b, 0, none⟩) 1 1)) (by kernel_rfl) (.inl rfl) (by kernel_rfl) (by kernel_rfl) (by kernel_rfl) (by kernel_rfl) (di := (some 23)) (by kernel_rfl) (by kernel_rfl) (by kernel_rfl) (by kernel_rfl) (dj := (some 28)) (by kernel_rfl) (fun b => rfl) (fun b => rfl) (H44.loads (by kernel_rfl)) ((Keeps.refl _).mono (fun _ _ h => h.elim)) (fun b61 w62 hb63 H64 K65 hs66 => ?_)
  have lb61 : b8 < b61 := by have := H44.lt; omega
  have nb61 : w.heap.size ≤ b61 := by have := K41.size; omega
  have ob67 : ∀ i o s, A = some ⟨i, o, s⟩ → i ≠ b61 := fun i o s hi => by have := F60.2 i o s hi; omega
  have ob68 : ∀ i, ((Value.slice VA l.length vc)).ownBlock = some i → i < b61 := fun i hi => by have := (World.ownsRow.lt hOV i hi).2; omega
  replace K41 := K41.trans K65 (U := (fun i => i = b)) (fun i h1 h2 => h2) (fun i h1 h2 => by exact h2.elim)
  replace H57 := H57.keep K65 (fun h => h)
  replace H43 := H43.keep K65 (fun h => h)
  replace H44 := H44.keep K65 (fun h => h)
  replace F60 := RdO.keep0 F60 K65
  replace hOV := own_keep0 hOV K65
  refine ⟨(K65.mono (fun _ _ h => h.elim)), ?_⟩
  refine DrB.strong (S' := (fun wz => Keeps (fun i => ((Value.slice VA l.length vc)).ownBlock = some i ∨ i = b ∨ i = b8) w62 wz)) ((Keeps.refl w62).mono (fun _ _ h => h.elim)) (fun wz hx => K65.trans hx (fun i _ h => h.elim) (fun _ _ h => h)) ?_
  clear K65 hs66
  refine DrB.end_ (t := 25) (a := ⟨b8, 2, none⟩) (v := (Value.slice VA l.length vc)) (R := [(0, (ptr b)), (2, (ptr b1)), (3, (ptr b8)), (4, (i64 (((((((r.int).2).int).2).sized 600).1 : Nat) : Int))), (5, (i64 ((i : Nat) : Int))), (6, (Value.string (str (R.bytes).1))), (17, (Value.bool true)), (23, (Value.slice VA l.length vc)), (28, (Value.slice (some ⟨b61, 0, none⟩) 1 1))]) (by kernel_rfl) (by kernel_rfl) (by kernel_rfl) (di := (some 23)) (by kernel_rfl) (by kernel_rfl) (by kernel_rfl) (H44.loads (by kernel_rfl)) ((Keeps.refl _).mono (fun _ _ h => h.elim)) ?_
  obtain ⟨v69, w70, hr71, hO72, hK73, hg74⟩ := OwnT.app (ty := 25) RowM.two RowM.one tyR hOV (show RdT _ 2 RowM.cells _ [(⟨(R.bytes).1, (((R.bytes).2).int).1⟩ : RowM)] from Rd.lit H64 (n := 1) rfl (by decide)) (by simp only [List.length_cons, List.length_nil]; omega) (by simp only [List.length_cons, List.length_nil]; omega) K41.size
  obtain ⟨A76, c77, rfl⟩ := RdT.form RowM.two (by decide) (OwnT.rd hO72)
  have ob78 : ∀ i, ((Value.slice A76 ((l ++ [(⟨(R.bytes).1, (((R.bytes).2).int).1⟩ : RowM)]).length) c77)).ownBlock = some i → i ≠ b := fun i hi => by rcases hg74 i hi with h | h; (have := obVb i h; omega); (have := H57.lt; omega)
  have ob79 : ∀ i, ((Value.slice A76 ((l ++ [(⟨(R.bytes).1, (((R.bytes).2).int).1⟩ : RowM)]).length) c77)).ownBlock = some i → i ≠ b1 := fun i hi => by rcases hg74 i hi with h | h; (have := obVb1 i h; omega); (have := H43.lt; omega)
  have ob80 : ∀ i, ((Value.slice A76 ((l ++ [(⟨(R.bytes).1, (((R.bytes).2).int).1⟩ : RowM)]).length) c77)).ownBlock = some i → i ≠ b8 := fun i hi => by rcases hg74 i hi with h | h; (have := obVb8 i h; omega); (have := H44.lt; omega)
  have ob81 : ∀ i, ((Value.slice A76 ((l ++ [(⟨(R.bytes).1, (((R.bytes).2).int).1⟩ : RowM)]).length) c77)).ownBlock = some i → i ≠ b61 := fun i hi => by rcases hg74 i hi with h | h; (have := ob68 i h; omega); (have := H64.lt; omega)
  have oo82 : ∀ i o s, A = some ⟨i, o, s⟩ → ((Value.slice A76 ((l ++ [(⟨(R.bytes).1, (((R.bytes).2).int).1⟩ : RowM)]).length) c77)).ownBlock = some i → False := fun i o s hi hs => by rcases hg74 i hs with h | h; (exact ooVA i o s hi h); (have := F60.2 i o s hi; omega)
  have K75 := hK73
  replace K41 := K41.trans K75 (U := (fun i => i = b)) (fun i h1 h2 => h2) (fun i h1 h2 => by have h2 : ((Value.slice VA l.length vc)).ownBlock = some i := h2; exfalso; have := (World.ownsRow.lt hOV i h2).1; omega)
  replace H57 := H57.keep K75 (by intro h; change ((Value.slice VA l.length vc)).ownBlock = some b at h; have := obVb b h; omega)
  replace H43 := H43.keep K75 (by intro h; change ((Value.slice VA l.length vc)).ownBlock = some b1 at h; have := obVb1 b1 h; omega)
  replace H44 := H44.keep K75 (by intro h; change ((Value.slice VA l.length vc)).ownBlock = some b8 at h; have := obVb8 b8 h; omega)
  replace H64 := H64.keep K75 (by intro h; change ((Value.slice VA l.length vc)).ownBlock = some b61 at h; have := ob68 b61 h; omega)
  replace F60 := RdO.keep F60 K75 (fun i _ _ hi hs => by have hs : ((Value.slice VA l.length vc)).ownBlock = some i := hs; exact ooVA i _ _ hi hs)
  clear hOV
  refine Dr.go (i := 7) (v := (Value.slice A76 ((l ++ [(⟨(R.bytes).1, (((R.bytes).2).int).1⟩ : RowM)]).length) c77)) (by kernel_rfl) (by kernel_rfl) (Runs.append (ts := #[25, 25]) (ty := 25) (vs := [(Value.slice VA l.length vc), (Value.slice (some ⟨b61, 0, none⟩) 1 1)]) (by kernel_rfl) hr71) (d := (some 29)) (by kernel_rfl) rfl (K75.mono (fun i _ h => by have h : ((Value.slice VA l.length vc)).ownBlock = some i := h; show ((Value.slice VA l.length vc)).ownBlock = some i ∨ i = b ∨ i = b8; exact (.inl h))) ?_
  refine Dr.strong (S' := (fun wz => Keeps (fun i => ((Value.slice VA l.length vc)).ownBlock = some i ∨ i = b ∨ i = b8) w70 wz)) ((Keeps.refl w70).mono (fun _ _ h => h.elim)) (fun wz hx => K75.trans hx (fun i _ h => by have h : ((Value.slice VA l.length vc)).ownBlock = some i := h; show ((Value.slice VA l.length vc)).ownBlock = some i ∨ i = b ∨ i = b8; exact (.inl h)) (fun _ _ h => h)) ?_
  clear K75 hr71 hK73 hg74
  refine Dr.takes (fuel' := 1) (is' := [8, 7, 1, 6, 5, 4, 3, 2, 0]) [8] [(0, (ptr b)), (2, (ptr b1)), (3, (ptr b8)), (4, (i64 (((((((r.int).2).int).2).sized 600).1 : Nat) : Int))), (5, (i64 ((i : Nat) : Int))), (6, (Value.string (str (R.bytes).1))), (17, (Value.bool true)), (29, (Value.slice A76 ((l ++ [(⟨(R.bytes).1, (((R.bytes).2).int).1⟩ : RowM)]).length) c77)), (30, (Value.pointer (some ⟨b8, 2, none⟩)))] (by kernel_rfl) rfl (by kernel_rfl) ?_
  refine Dr.put (i := 9) (t := 25) (b := b8) (off := 2) (v := (Value.slice A76 ((l ++ [(⟨(R.bytes).1, (((R.bytes).2).int).1⟩ : RowM)]).length) c77)) (ys := [(i64 ((r.int).1)), (i64 ((((r.int).2).int).1)), (Value.slice A76 ((l ++ [(⟨(R.bytes).1, (((R.bytes).2).int).1⟩ : RowM)]).length) c77)]) (by kernel_rfl) (by kernel_rfl) (by kernel_rfl) H44 (by kernel_rfl) (d := none) (by kernel_rfl) rfl (fun w83 H84 K85 => ?_)
  clear H44
  replace K41 := K41.trans K85 (U := (fun i => i = b)) (fun i h1 h2 => h2) (fun i h1 h2 => by have h2 : i = b8 := h2; show i = b; omega)
  replace H57 := H57.keep K85 (by intro h; change b = b8 at h; omega)
  replace H43 := H43.keep K85 (by intro h; change b1 = b8 at h; omega)
  replace H64 := H64.keep K85 (by intro h; change b61 = b8 at h; omega)
  replace F60 := RdO.keep F60 K85 (fun i _ _ hi hs => by have hs : i = b8 := hs; have := ob14 i _ _ hi; omega)
  replace hO72 := own_keep hO72 K85 (fun i hi hs => by have hs : i = b8 := hs; have := ob80 i hi; omega)
  refine ⟨(K85.mono (fun i _ h => by have h : i = b8 := h; show ((Value.slice VA l.length vc)).ownBlock = some i ∨ i = b ∨ i = b8; exact (.inr (.inr h)))), ?_⟩
  refine Dr.strong (S' := (fun wz => Keeps (fun i => ((Value.slice VA l.length vc)).ownBlock = some i ∨ i = b ∨ i = b8) w83 wz)) ((Keeps.refl w83).mono (fun _ _ h => h.elim)) (fun wz hx => K85.trans hx (fun i _ h => by have h : i = b8 := h; show ((Value.slice VA l.length vc)).ownBlock = some i ∨ i = b ∨ i = b8; exact (.inr (.inr h))) (fun _ _ h => h)) ?_
  clear K85
  refine Dr.done (by kernel_rfl) ?_
  refine qg ?_
  refine og 2 [(0, (ptr b)), (2, (ptr b1)), (3, (ptr b8)), (4, (i64 (((((((r.int).2).int).2).sized 600).1 : Nat) : Int))), (5, (i64 ((i : Nat) : Int))), (6, (Value.string (str (R.bytes).1))), (17, (Value.bool true)), (19, (i64 (IntKind.i64.wrap (((i : Nat) : Int) + 1))))] 2 ?_
  have e86 : IntKind.i64.wrap (((i : Nat) : Int) + 1) = ((i + 1 : Nat) : Int) := by rw [wrap_i64 (by omega) (by omega)]; omega
  rw [e86]
  clear e86
  refine og 1 [(0, (ptr b)), (2, (ptr b1)), (3, (ptr b8)), (4, (i64 (((((((r.int).2).int).2).sized 600).1 : Nat) : Int))), (5, (i64 ((i + 1 : Nat) : Int))), (6, (Value.string (str (R.bytes).1))), (17, (Value.bool true))] 3 ?_
  refine Ops.keep (R := [(0, (ptr b)), (2, (ptr b1)), (3, (ptr b8)), (4, (i64 (((((((r.int).2).int).2).sized 600).1 : Nat) : Int))), (5, (i64 ((i + 1 : Nat) : Int)))]) (by kernel_rfl) ?_
  refine od ?_
  exact ⟨(A76, c77, i + 1, l ++ [(⟨(R.bytes).1, (((R.bytes).2).int).1⟩ : RowM)], (((R.bytes).2).int).2), ⟨rfl, F60, hO72, ob78, ob79, ob80, oo82, hok58, (Rdr.rows_next hE hF (by omega)).1, (Rdr.rows_next hE hF (by omega)).2, (by omega), (by simp [hli]), K41, H57, H43, H84⟩, (show r.rhead.1 - (i + 1) < r.rhead.1 - i from by omega)⟩
 ·rw [h45]
  have p87 : ¬ (((i : Nat) : Int) < (((((((r.int).2).int).2).sized 600).1 : Nat) : Int)) := of_decide_eq_false h45
  refine q_exit (id := 0) (by kernel_rfl) ?_
  refine qs ?_
  refine qg ?_
  refine Ops.go (v := (agg [(i64 ((r.int).1)), (i64 ((((r.int).2).int).1)), (Value.slice VA l.length vc)])) (by kernel_rfl) (Runs.load (t := 27) (a := ⟨b8, 0, none⟩) (by kernel_rfl) (H44.loads (by kernel_rfl))) (d := (some 31)) (by kernel_rfl) rfl ?_
  refine Ops.put (t := 27) (b := b1) (off := 0) (v := (agg [(i64 ((r.int).1)), (i64 ((((r.int).2).int).1)), (Value.slice VA l.length vc)])) (ys := [(i64 ((r.int).1)), (i64 ((((r.int).2).int).1)), (Value.slice VA l.length vc)]) (by kernel_rfl) (by kernel_rfl) H43 (by kernel_rfl) (d := none) (by kernel_rfl) rfl (fun w88 H89 K90 => ?_)
  clear H43
  replace K41 := K41.trans K90 (U := (fun i => i = b)) (fun i h1 h2 => h2) (fun i h1 h2 => by have h2 : i = b1 := h2; show i = b; omega)
  replace H42 := H42.keep K90 (by intro h; change b = b1 at h; omega)
  replace H44 := H44.keep K90 (by intro h; change b8 = b1 at h; omega)
  replace hRdA := RdO.keep hRdA K90 (fun i _ _ hi hs => by have hs : i = b1 := hs; have := ob7 i _ _ hi; omega)
  replace hOV := own_keep hOV K90 (fun i hi hs => by have hs : i = b1 := hs; have := obVb1 i hi; omega)
  clear K90
  refine od ?_
  refine q_ret (by kernel_rfl) ?_
  refine ⟨(agg [(i64 ((r.int).1)), (i64 ((((r.int).2).int).1)), (Value.slice VA l.length vc)]), retv_cell rfl rfl (H89.loads (by kernel_rfl)), ?_⟩
  have hd := Rdr.rows_done hE hF (by omega)
  have e : r.reply = (⟨r.int.1, r.int.2.int.1, l⟩, R) := by show ((⟨r.int.1, r.int.2.int.1, (Rdr.rows r.rhead.1 r.rhead.2).1⟩ : ReplyM), (Rdr.rows r.rhead.1 r.rhead.2).2) = _; rw [hd.1, hd.2]
  exact ⟨_, _, by rw [e], K41, by rw [e]; exact hOV, by rw [e]; exact H42⟩
end Go.Proofs.Ytlnidnadpdpciaa
