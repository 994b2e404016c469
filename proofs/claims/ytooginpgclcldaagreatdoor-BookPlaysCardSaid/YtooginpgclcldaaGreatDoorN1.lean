/- chapter 11: BookPlays returns true -/
import Derived.Test.YtooginpgclcldaaGreatDoorProg
import Derived.Test.YtooginpgclcldaaGreatDoorS1
import Derived.Test.YtooginpgclcldaaGreatDoorS2
import Derived.Test.YtooginpgclcldaaGreatDoorS3
import Derived.Test.YtooginpgclcldaaGreatDoorKP
import Derived.Test.YtooginpgclcldaaGreatDoorKS
import Derived.Test.YtooginpgclcldaaGreatDoorKJ
import Derived.Test.YtooginpgclcldaaGreatDoorLX
set_option linter.unusedVariables false
namespace Go.Proofs.YtooginpgclcldaaGreatDoor
open Go.Q Go.RowKit

set_option maxHeartbeats 4000000 in
theorem Plays_calls (w : World) (PA : Option Addr) (pc : Nat) (l : List BopM) (hL : RdT w 5 BopM.cells (.slice PA l.length pc) l) (hLo : ∀ x ∈ l, x.Ok) : Calls Tryz.prog 4 ⟨[(Value.slice PA l.length pc)]⟩ w (fun e w' => e = .returned (.bool true) ∧ Keeps none_ w w') := by
 have hcap := RdT.len BopM.five (by decide) hL
 have K0 : Keeps none_ w w := Keeps.refl w
 refine q_calls Tryz.func4 (by kernel_rfl) (by kernel_rfl) ?_
 refine qs ?_
 refine qg ?_
 refine og 1 [(0, (Value.slice PA l.length pc)), (2, (Value.bool false))] 1 ?_
 refine od ?_
 refine qs ?_
 refine qg ?_
 refine Ops.call (by kernel_rfl) (d := (some 12)) (by kernel_rfl) (New_calls _) ?_
 rintro _ w3 ⟨b1, mb2, rfl, K4, H5, Hm6, hb7, hb8, hb9⟩
 have nb1 : w.heap.size ≤ b1 := by have := K0.size; omega
 have nmb2 : w.heap.size ≤ mb2 := by have := K0.size; omega
 refine ⟨_, _, rfl, rfl, ?_⟩
 replace K0 := K0.t0 K4
 clear K4
 refine og 1 [(0, (Value.slice PA l.length pc)), (2, (Value.bool false)), (3, (ptr b1))] 2 ?_
 refine od ?_
 refine qs ?_
 refine qs ?_
 refine qg ?_
 refine og 2 [(0, (Value.slice PA l.length pc)), (2, (Value.bool false)), (3, (ptr b1)), (14, (Value.bool false))] 2 ?_
 refine od ?_
 refine q_else (o := .tmp 14) (by kernel_rfl) rfl ?_
 refine q_skip (by kernel_rfl) ?_
 refine qs ?_
 refine qg ?_
 refine og 1 [(0, (Value.slice PA l.length pc)), (2, (Value.bool false)), (3, (ptr b1)), (15, (agg [(Value.slice none 0 0)]))] 1 ?_
 refine Ops.new (o := rowL [(Value.slice none 0 0)] 43) (V := fun b => (ptr b)) (by kernel_rfl) (d := (some 16)) (by kernel_rfl) (fun b => rfl) (fun b10 w11 hb12 H13 K14 hs15 => ?_)
 have lb10b1 : b1 < b10 := by have := H5.lt; omega
 have lb10mb2 : mb2 < b10 := by have := Hm6.lt; omega
 have nb10 : w.heap.size ≤ b10 := by have := K0.size; omega
 replace K0 := K0.t0 K14
 replace H5 := H5.keep K14 (fun h => h)
 replace Hm6 := Hm6.keep K14 (fun h => h)
 clear K14 hs15
 refine og 1 [(0, (Value.slice PA l.length pc)), (2, (Value.bool false)), (3, (ptr b1)), (4, (ptr b10))] 3 ?_
 refine od ?_
 refine qs ?_
 refine qs ?_
 refine qg ?_
 refine og 1 [(0, (Value.slice PA l.length pc)), (2, (Value.bool false)), (3, (ptr b1)), (4, (ptr b10)), (5, (i64 0))] 1 ?_
 refine od ?_
 refine q_block (id := 0) (by kernel_rfl) ?_
 refine q_keep (R := [(0, (Value.slice PA l.length pc)), (3, (ptr b1)), (4, (ptr b10)), (5, (i64 0))]) (by kernel_rfl) ?_
 refine q_loop (fun (gs : Nat × Nat × Nat × (List (List UInt8 × AccV)) × (List AccM) × (Option Addr) × Nat) L (wx : World) => match gs with | (i, bb, mbb, mm, SS, VA, vc) => L = [(0, (Value.slice PA l.length pc)), (3, (ptr bb)), (4, (ptr b10)), (5, (i64 ((i : Nat) : Int)))] ∧ OwnT wx w.heap.size 97 3 AccM.cells (Value.slice VA SS.length vc) SS ∧ (∀ i, ((Value.slice VA SS.length vc)).ownBlock = some i → i ≠ b10) ∧ i ≤ l.length ∧ Book mm SS ∧ (bb ≠ mbb ∧ bb ≠ b10 ∧ mbb ≠ b10 ∧ w.heap.size ≤ bb ∧ w.heap.size ≤ mbb) ∧ (∀ i, ((Value.slice VA SS.length vc)).ownBlock = some i → i ≠ bb) ∧ (∀ i, ((Value.slice VA SS.length vc)).ownBlock = some i → i ≠ mbb) ∧ Keeps none_ w wx ∧ Has wx b10 (rowL [(Value.slice VA SS.length vc)] 43) ∧ Has wx bb (rowL [(Value.map (some mbb))] 66) ∧ HasMap wx mbb kstr accv mm) (fun (gs : Nat × Nat × Nat × (List (List UInt8 × AccV)) × (List AccM) × (Option Addr) × Nat) => match gs with | (i, bb, mbb, mm, SS, VA, vc) => l.length - i) (0, b1, mb2, [], [], none, 0) (by kernel_rfl) ⟨rfl, (OwnT.nil _ _ _ _ _), (fun i hi => by cases hi), Nat.zero_le _, Book.nil, (by omega), (fun i hi => by cases hi), (fun i hi => by cases hi), K0, H13, H5, Hm6⟩ ?_
 clear H13 K0
 rintro ⟨i, bb, mbb, mm, SS, VA, vc⟩ _ w16 ⟨rfl, hOV, obVb10, hi, hBm, hd, hvb, hvm, K17, H18, H19, H20⟩
 have nbb : w.heap.size ≤ bb := hd.2.2.2.1
 have nmbb : w.heap.size ≤ mbb := hd.2.2.2.2
 refine qs ?_
 refine qs ?_
 refine qg ?_
 refine og 5 [(0, (Value.slice PA l.length pc)), (3, (ptr bb)), (4, (ptr b10)), (5, (i64 ((i : Nat) : Int))), (21, (Value.bool (decide (((i : Nat) : Int) < ((l.length : Nat) : Int)))))] 5 ?_
 refine Ops.split (decide (((i : Nat) : Int) < ((l.length : Nat) : Int))) (fun h21 => ?_) (fun h21 => ?_)
 ·rw [h21]
  have p22 : ((i : Nat) : Int) < ((l.length : Nat) : Int) := of_decide_eq_true h21
  obtain ⟨x, hx⟩ : ∃ y, l[i]? = some y := ⟨_, List.getElem?_eq_getElem (by omega)⟩
  have hxo := hLo x (List.mem_of_getElem? hx)
  have hx1 := hxo.kind
  have hx2 := hxo.n
  have hx3 := hxo.slot
  obtain ⟨rb23, ro24, hA25⟩ := Rd.addr (Rd.keep0 (by decide) hL K17) (by omega)
  refine og 3 [(0, (Value.slice PA l.length pc)), (3, (ptr bb)), (4, (ptr b10)), (5, (i64 ((i : Nat) : Int))), (24, (Value.bool (decide (((i : Nat) : Int) < 120))))] 8 ?_
  refine od ?_
  refine q_cond (o := .tmp 24) (b := (decide (((i : Nat) : Int) < 120))) (by kernel_rfl) rfl (fun h26 => ?_) (fun h26 => ?_)
  ·rw [h26]
   have p27 : ((i : Nat) : Int) < 120 := of_decide_eq_true h26
   refine q_skip (by kernel_rfl) ?_
   refine qs ?_
   refine q_block (id := 1) (by kernel_rfl) ?_
   refine qs ?_
   refine qg ?_
   refine og 2 [(0, (Value.slice PA l.length pc)), (3, (ptr bb)), (4, (ptr b10)), (5, (i64 ((i : Nat) : Int))), (24, (Value.bool true)), (27, (Value.slice PA l.length pc)), (28, (i64 ((i : Nat) : Int)))] 2 ?_
   refine Ops.go (by kernel_rfl) (Runs.ixSliceE (k := IntKind.i64) (t := 39) (len := l.length) (cap := pc) (s := 5) (off' := ro24 + i * 5) (i := ((i : Nat) : Int)) hA25 (by kernel_rfl) (by kernel_rfl) (by omega) (by omega) (by omega)) (d := (some 29)) (by kernel_rfl) rfl ?_
   refine Ops.go (v := (agg [(i64 x.kind), (Value.string (str x.name)), (Value.string (str x.own)), (i64 x.n), (i64 x.slot)])) (by kernel_rfl) (Runs.load (t := 37) (a := ⟨rb23, ro24 + i * 5, none⟩) (by kernel_rfl) (RdT.ld (f := BopM.cells) (x := x) BopM.five (Rd.keep0 (by decide) hL K17) (by kernel_rfl) (by kernel_rfl) hA25 hx)) (d := (some 30)) (by kernel_rfl) rfl ?_
   refine Ops.new (o := rowL [(i64 0), (Value.string ByteArray.empty), (Value.string ByteArray.empty), (i64 0), (i64 0)] 37) (V := fun b => (ptr b)) (by kernel_rfl) (d := (some 6)) (by kernel_rfl) (fun b => rfl) (fun b28 w29 hb30 H31 K32 hs33 => ?_)
   have lb28b10 : b10 < b28 := by have := H18.lt; omega
   have lb28bb : bb < b28 := by have := H19.lt; omega
   have lb28mbb : mbb < b28 := by have := H20.lt; omega
   have nb28 : w.heap.size ≤ b28 := by have := K17.size; omega
   have ob34 : ∀ i, ((Value.slice VA SS.length vc)).ownBlock = some i → i < b28 := fun i hi => by have := (World.ownsRow.lt hOV i hi).2; omega
   replace K17 := K17.trans K32 (U := none_) (fun i h1 h2 => h2) (fun i h1 h2 => by exact h2)
   replace H18 := H18.keep K32 (fun h => h)
   replace H19 := H19.keep K32 (fun h => h)
   replace H20 := H20.keep K32 (fun h => h)
   replace hOV := own_keep0 hOV K32
   clear K32 hs33
   refine Ops.put (t := 37) (b := b28) (off := 0) (v := (agg [(i64 x.kind), (Value.string (str x.name)), (Value.string (str x.own)), (i64 x.n), (i64 x.slot)])) (ys := [(i64 x.kind), (Value.string (str x.name)), (Value.string (str x.own)), (i64 x.n), (i64 x.slot)]) (by kernel_rfl) (by kernel_rfl) H31 (by kernel_rfl) (d := none) (by kernel_rfl) rfl (fun w35 H36 K37 => ?_)
   clear H31
   replace K17 := K17.trans K37 (U := none_) (fun i h1 h2 => h2) (fun i h1 h2 => by have h2 : i = b28 := h2; exfalso; omega)
   replace H18 := H18.keep K37 (by intro h; change b10 = b28 at h; omega)
   replace H19 := H19.keep K37 (by intro h; change bb = b28 at h; omega)
   replace H20 := H20.keep K37 (by intro h; change mbb = b28 at h; omega)
   replace hOV := own_keep hOV K37 (fun i hi hs => by have hs : i = b28 := hs; have := ob34 i hi; omega)
   clear K37
   refine od ?_
   refine qs ?_
   refine qs ?_
   refine qg ?_
   refine og 1 [(0, (Value.slice PA l.length pc)), (3, (ptr bb)), (4, (ptr b10)), (5, (i64 ((i : Nat) : Int))), (6, (ptr b28)), (24, (Value.bool true)), (31, (ptr b28))] 1 ?_
   refine Ops.go (v := (i64 x.kind)) (by kernel_rfl) (Runs.load (t := 3) (a := ⟨b28, 0, none⟩) (by kernel_rfl) (H36.loads (by kernel_rfl))) (d := (some 32)) (by kernel_rfl) rfl ?_
   refine og 1 [(0, (Value.slice PA l.length pc)), (3, (ptr bb)), (4, (ptr b10)), (5, (i64 ((i : Nat) : Int))), (6, (ptr b28)), (24, (Value.bool true)), (33, (Value.bool (x.kind == 10)))] 3 ?_
   refine od ?_
   refine q_cond (o := .tmp 33) (b := (x.kind == 10)) (by kernel_rfl) rfl (fun h38 => ?_) (fun h38 => ?_)
   ·rw [h38]
    have p39 : x.kind = 10 := of_beq_t h38
    refine qs ?_
    refine qg ?_
    refine og 1 [(0, (Value.slice PA l.length pc)), (3, (ptr bb)), (4, (ptr b10)), (5, (i64 ((i : Nat) : Int))), (6, (ptr b28)), (24, (Value.bool true)), (33, (Value.bool true)), (34, (ptr bb))] 1 ?_
    refine Ops.call (by kernel_rfl) (d := (some 35)) (by kernel_rfl) (Bytes_calls _ bb mbb mm SS H19 H20 (by omega) hBm) ?_
    rintro _ w41 ⟨v40, rfl, K42, hO43⟩
    have ob45 : ∀ i, (v40).ownBlock = some i → i ≠ b10 := fun i hi => by have := (World.ownsRow.lt hO43 i hi).1; have := H18.lt; omega
    have ob46 : ∀ i, (v40).ownBlock = some i → i ≠ bb := fun i hi => by have := (World.ownsRow.lt hO43 i hi).1; have := H19.lt; omega
    have ob47 : ∀ i, (v40).ownBlock = some i → i ≠ mbb := fun i hi => by have := (World.ownsRow.lt hO43 i hi).1; have := H20.lt; omega
    have ob48 : ∀ i, (v40).ownBlock = some i → i ≠ b28 := fun i hi => by have := (World.ownsRow.lt hO43 i hi).1; have := H36.lt; omega
    have oo49 : ∀ i, ((Value.slice VA SS.length vc)).ownBlock = some i → (v40).ownBlock = some i → False := fun i hi hs => by have := (World.ownsRow.lt hO43 i hs).1; have := (World.ownsRow.lt hOV i hi).2; omega
    have oo50 : ∀ i, (v40).ownBlock = some i → ((Value.slice VA SS.length vc)).ownBlock = some i → False := fun i hi hs => oo49 i hs hi
    have O44 := own_base hO43 K17.size
    clear hO43
    have hbl51 := bookB_len hBm.accs
    refine ⟨_, _, rfl, rfl, ?_⟩
    replace K17 := K17.trans K42 (U := none_) (fun i h1 h2 => h2) (fun i h1 h2 => by exact h2)
    replace H18 := H18.keep K42 (fun h => h)
    replace H19 := H19.keep K42 (fun h => h)
    replace H20 := H20.keep K42 (fun h => h)
    replace H36 := H36.keep K42 (fun h => h)
    replace hOV := own_keep0 hOV K42
    clear K42
    obtain ⟨A52, c53, hf54⟩ := RdB.form (OwnB.rd O44)
    subst hf54
    refine Ops.call (by kernel_rfl) (d := (some 36)) (by kernel_rfl) (Lent_calls _ A52 c53 (bookB SS) (OwnB.rd O44) (by omega)) ?_
    rintro _ w57 ⟨A55, c56, rfl, K58, hO59⟩
    have O61 := OwnB.cut hO59 (by simp)
    have ob62 : ∀ i, ((Value.slice A55 ((bookB SS).length) c56)).ownBlock = some i → i ≠ b10 := fun i hi => by have := (World.ownsRow.lt O61 i hi).1; have := H18.lt; omega
    have ob63 : ∀ i, ((Value.slice A55 ((bookB SS).length) c56)).ownBlock = some i → i ≠ bb := fun i hi => by have := (World.ownsRow.lt O61 i hi).1; have := H19.lt; omega
    have ob64 : ∀ i, ((Value.slice A55 ((bookB SS).length) c56)).ownBlock = some i → i ≠ mbb := fun i hi => by have := (World.ownsRow.lt O61 i hi).1; have := H20.lt; omega
    have ob65 : ∀ i, ((Value.slice A55 ((bookB SS).length) c56)).ownBlock = some i → i ≠ b28 := fun i hi => by have := (World.ownsRow.lt O61 i hi).1; have := H36.lt; omega
    have oo66 : ∀ i, ((Value.slice VA SS.length vc)).ownBlock = some i → ((Value.slice A55 ((bookB SS).length) c56)).ownBlock = some i → False := fun i hi hs => by have := (World.ownsRow.lt O61 i hs).1; have := (World.ownsRow.lt hOV i hi).2; omega
    have oo67 : ∀ i, ((Value.slice A55 ((bookB SS).length) c56)).ownBlock = some i → ((Value.slice VA SS.length vc)).ownBlock = some i → False := fun i hi hs => oo66 i hs hi
    have oo68 : ∀ i, ((Value.slice A52 ((bookB SS).length) c53)).ownBlock = some i → ((Value.slice A55 ((bookB SS).length) c56)).ownBlock = some i → False := fun i hi hs => by have := (World.ownsRow.lt O61 i hs).1; have := (World.ownsRow.lt O44 i hi).2; omega
    have oo69 : ∀ i, ((Value.slice A55 ((bookB SS).length) c56)).ownBlock = some i → ((Value.slice A52 ((bookB SS).length) c53)).ownBlock = some i → False := fun i hi hs => oo68 i hs hi
    have O60 := own_base O61 K17.size
    clear O61
    clear hO59
    refine ⟨_, _, rfl, rfl, ?_⟩
    replace K17 := K17.trans K58 (U := none_) (fun i h1 h2 => h2) (fun i h1 h2 => by exact h2)
    replace H18 := H18.keep K58 (fun h => h)
    replace H19 := H19.keep K58 (fun h => h)
    replace H20 := H20.keep K58 (fun h => h)
    replace H36 := H36.keep K58 (fun h => h)
    replace hOV := own_keep0 hOV K58
    replace O44 := own_keep0 O44 K58
    clear K58
    refine og 1 [(0, (Value.slice PA l.length pc)), (3, (ptr bb)), (4, (ptr b10)), (5, (i64 ((i : Nat) : Int))), (6, (ptr b28)), (7, (Value.slice A55 ((bookB SS).length) c56)), (24, (Value.bool true)), (33, (Value.bool true))] 4 ?_
    refine od ?_
    refine qs ?_
    refine qg ?_
    refine og 1 [(0, (Value.slice PA l.length pc)), (3, (ptr bb)), (4, (ptr b10)), (5, (i64 ((i : Nat) : Int))), (6, (ptr b28)), (7, (Value.slice A55 ((bookB SS).length) c56)), (24, (Value.bool true)), (33, (Value.bool true)), (38, (Value.slice A55 ((bookB SS).length) c56))] 1 ?_
    refine Ops.call (by kernel_rfl) (d := (some 39)) (by kernel_rfl) (Load_good _ A55 c56 (bookB SS) SS hBm.accs rfl (OwnB.rd O60) (by have := bookB_len hBm.accs; omega)) ?_
    rintro _ w74 ⟨b71, mb72, m73, rfl, K75, H76, Hm77, hB78, hb79, hb80, hb81⟩
    have lb71b10 : b10 < b71 := by have := H18.lt; omega
    have lmb72b10 : b10 < mb72 := by have := H18.lt; omega
    have lb71bb : bb < b71 := by have := H19.lt; omega
    have lmb72bb : bb < mb72 := by have := H19.lt; omega
    have lb71mbb : mbb < b71 := by have := H20.lt; omega
    have lmb72mbb : mbb < mb72 := by have := H20.lt; omega
    have lb71b28 : b28 < b71 := by have := H36.lt; omega
    have lmb72b28 : b28 < mb72 := by have := H36.lt; omega
    have nb71 : w.heap.size ≤ b71 := by have := K17.size; omega
    have nmb72 : w.heap.size ≤ mb72 := by have := K17.size; omega
    have ob82 : ∀ i, ((Value.slice VA SS.length vc)).ownBlock = some i → i ≠ b71 := fun i hi => by have := (World.ownsRow.lt hOV i hi).2; omega
    have ob83 : ∀ i, ((Value.slice VA SS.length vc)).ownBlock = some i → i ≠ mb72 := fun i hi => by have := (World.ownsRow.lt hOV i hi).2; omega
    have ob84 : ∀ i, ((Value.slice A52 ((bookB SS).length) c53)).ownBlock = some i → i ≠ b71 := fun i hi => by have := (World.ownsRow.lt O44 i hi).2; omega
    have ob85 : ∀ i, ((Value.slice A52 ((bookB SS).length) c53)).ownBlock = some i → i ≠ mb72 := fun i hi => by have := (World.ownsRow.lt O44 i hi).2; omega
    have ob86 : ∀ i, ((Value.slice A55 ((bookB SS).length) c56)).ownBlock = some i → i ≠ b71 := fun i hi => by have := (World.ownsRow.lt O60 i hi).2; omega
    have ob87 : ∀ i, ((Value.slice A55 ((bookB SS).length) c56)).ownBlock = some i → i ≠ mb72 := fun i hi => by have := (World.ownsRow.lt O60 i hi).2; omega
    refine ⟨_, _, rfl, rfl, ?_⟩
    replace K17 := K17.trans K75 (U := none_) (fun i h1 h2 => h2) (fun i h1 h2 => by exact h2)
    replace H18 := H18.keep K75 (fun h => h)
    replace H19 := H19.keep K75 (fun h => h)
    replace H20 := H20.keep K75 (fun h => h)
    replace H36 := H36.keep K75 (fun h => h)
    replace hOV := own_keep0 hOV K75
    replace O44 := own_keep0 O44 K75
    replace O60 := own_keep0 O60 K75
    clear K75
    refine og 5 [(0, (Value.slice PA l.length pc)), (3, (ptr bb)), (4, (ptr b10)), (5, (i64 ((i : Nat) : Int))), (6, (ptr b28)), (7, (Value.slice A55 ((bookB SS).length) c56)), (8, (ptr b71)), (9, (i64 0)), (24, (Value.bool true)), (33, (Value.bool true))] 7 ?_
    refine od ?_
    refine qs ?_
    refine qs ?_
    refine qg ?_
    refine og 9 [(0, (Value.slice PA l.length pc)), (3, (ptr bb)), (4, (ptr b10)), (5, (i64 ((i : Nat) : Int))), (6, (ptr b28)), (7, (Value.slice A55 ((bookB SS).length) c56)), (8, (ptr b71)), (9, (i64 0)), (24, (Value.bool true)), (33, (Value.bool true)), (48, (Value.bool false)), (49, (ptr b71)), (50, (ptr bb))] 9 ?_
    refine Ops.call (by kernel_rfl) (d := (some 51)) (by kernel_rfl) (Same_calls _ b71 mb72 m73 SS bb mbb mm SS H76 Hm77 (by omega) hB78 H19 H20 (by omega) hBm) ?_
    rintro _ w91 ⟨t88, rfl, ht89, K90⟩
    refine ⟨_, _, rfl, rfl, ?_⟩
    replace K17 := K17.trans K90 (U := none_) (fun i h1 h2 => h2) (fun i h1 h2 => by exact h2)
    replace H18 := H18.keep K90 (fun h => h)
    replace H19 := H19.keep K90 (fun h => h)
    replace H20 := H20.keep K90 (fun h => h)
    replace H36 := H36.keep K90 (fun h => h)
    replace H76 := H76.keep K90 (fun h => h)
    replace Hm77 := Hm77.keep K90 (fun h => h)
    replace hOV := own_keep0 hOV K90
    replace O44 := own_keep0 O44 K90
    replace O60 := own_keep0 O60 K90
    clear K90
    refine og 3 [(0, (Value.slice PA l.length pc)), (3, (ptr bb)), (4, (ptr b10)), (5, (i64 ((i : Nat) : Int))), (6, (ptr b28)), (7, (Value.slice A55 ((bookB SS).length) c56)), (8, (ptr b71)), (9, (i64 0)), (24, (Value.bool true)), (33, (Value.bool true)), (54, (Value.bool (!t88)))] 13 ?_
    have h92 : (!t88) = false := by rw [show t88 = true from ht89.2 rfl]; rfl
    rw [h92]
    refine og 2 [(0, (Value.slice PA l.length pc)), (3, (ptr bb)), (4, (ptr b10)), (5, (i64 ((i : Nat) : Int))), (6, (ptr b28)), (7, (Value.slice A55 ((bookB SS).length) c56)), (8, (ptr b71)), (9, (i64 0)), (24, (Value.bool true)), (33, (Value.bool true)), (54, (Value.bool false)), (55, (ptr bb)), (56, (ptr b71))] 15 ?_
    refine Ops.call (by kernel_rfl) (d := (some 57)) (by kernel_rfl) (Same_calls _ bb mbb mm SS b71 mb72 m73 SS H19 H20 (by omega) hBm H76 Hm77 (by omega) hB78) ?_
    rintro _ w96 ⟨t93, rfl, ht94, K95⟩
    refine ⟨_, _, rfl, rfl, ?_⟩
    replace K17 := K17.trans K95 (U := none_) (fun i h1 h2 => h2) (fun i h1 h2 => by exact h2)
    replace H18 := H18.keep K95 (fun h => h)
    replace H19 := H19.keep K95 (fun h => h)
    replace H20 := H20.keep K95 (fun h => h)
    replace H36 := H36.keep K95 (fun h => h)
    replace H76 := H76.keep K95 (fun h => h)
    replace Hm77 := Hm77.keep K95 (fun h => h)
    replace hOV := own_keep0 hOV K95
    replace O44 := own_keep0 O44 K95
    replace O60 := own_keep0 O60 K95
    clear K95
    refine og 2 [(0, (Value.slice PA l.length pc)), (3, (ptr bb)), (4, (ptr b10)), (5, (i64 ((i : Nat) : Int))), (6, (ptr b28)), (7, (Value.slice A55 ((bookB SS).length) c56)), (8, (ptr b71)), (9, (i64 0)), (24, (Value.bool true)), (33, (Value.bool true)), (59, (Value.bool (!t93)))] 18 ?_
    refine od ?_
    have h97 : (!t93) = false := by rw [show t93 = true from ht94.2 rfl]; rfl
    rw [h97]
    refine q_else (o := .tmp 59) (by kernel_rfl) rfl ?_
    refine q_skip (by kernel_rfl) ?_
    refine qs ?_
    refine qg ?_
    refine og 1 [(0, (Value.slice PA l.length pc)), (3, (ptr bb)), (4, (ptr b10)), (5, (i64 ((i : Nat) : Int))), (6, (ptr b28)), (7, (Value.slice A55 ((bookB SS).length) c56)), (8, (ptr b71)), (9, (i64 0)), (24, (Value.bool true)), (33, (Value.bool true)), (59, (Value.bool false)), (60, (Value.slice A55 ((bookB SS).length) c56))] 1 ?_
    refine Ops.call (by kernel_rfl) (d := (some 61)) (by kernel_rfl) (Spoil_calls _ (Value.slice A55 ((bookB SS).length) c56) (bookB SS) _ O60 (by (try simp only [List.length_append]); omega)) ?_
    rintro _ w99 ⟨rfl, K98⟩
    refine ⟨_, _, rfl, rfl, ?_⟩
    replace K17 := K17.trans K98 (U := none_) (fun i h1 h2 => h2) (fun i h1 h2 => by have h2 : ((Value.slice A55 ((bookB SS).length) c56)).ownBlock = some i := h2; exfalso; have := (World.ownsRow.lt O60 i h2).1; omega)
    replace H18 := H18.keep K98 (by intro h; change ((Value.slice A55 ((bookB SS).length) c56)).ownBlock = some b10 at h; have := ob62 b10 h; omega)
    replace H19 := H19.keep K98 (by intro h; change ((Value.slice A55 ((bookB SS).length) c56)).ownBlock = some bb at h; have := ob63 bb h; omega)
    replace H20 := H20.keep K98 (by intro h; change ((Value.slice A55 ((bookB SS).length) c56)).ownBlock = some mbb at h; have := ob64 mbb h; omega)
    replace H36 := H36.keep K98 (by intro h; change ((Value.slice A55 ((bookB SS).length) c56)).ownBlock = some b28 at h; have := ob65 b28 h; omega)
    replace H76 := H76.keep K98 (by intro h; change ((Value.slice A55 ((bookB SS).length) c56)).ownBlock = some b71 at h; have := ob86 b71 h; omega)
    replace Hm77 := Hm77.keep K98 (by intro h; change ((Value.slice A55 ((bookB SS).length) c56)).ownBlock = some mb72 at h; have := ob87 mb72 h; omega)
    replace hOV := own_keep hOV K98 (fun i hi hs => by have hs : ((Value.slice A55 ((bookB SS).length) c56)).ownBlock = some i := hs; exact oo66 i hi hs)
    replace O44 := own_keep O44 K98 (fun i hi hs => by have hs : ((Value.slice A55 ((bookB SS).length) c56)).ownBlock = some i := hs; exact oo68 i hi hs)
    clear O60
    clear K98
    refine od ?_
    refine qg ?_
    refine og 2 [(0, (Value.slice PA l.length pc)), (3, (ptr b71)), (4, (ptr b10)), (5, (i64 ((i : Nat) : Int))), (6, (ptr b28)), (7, (Value.slice A55 ((bookB SS).length) c56)), (8, (ptr b71)), (9, (i64 0)), (24, (Value.bool true)), (33, (Value.bool true)), (59, (Value.bool false))] 2 ?_
    refine od ?_
    refine qs ?_
    refine qg ?_
    refine og 2 [(0, (Value.slice PA l.length pc)), (3, (ptr b71)), (4, (ptr b10)), (5, (i64 ((i : Nat) : Int))), (6, (ptr b28)), (7, (Value.slice A55 ((bookB SS).length) c56)), (8, (ptr b71)), (9, (i64 0)), (24, (Value.bool true)), (33, (Value.bool true)), (59, (Value.bool false)), (63, (ptr b71)), (64, (ptr b10))] 2 ?_
    refine Ops.go (v := (agg [(i64 x.kind), (Value.string (str x.name)), (Value.string (str x.own)), (i64 x.n), (i64 x.slot)])) (by kernel_rfl) (Runs.load (t := 37) (a := ⟨b28, 0, none⟩) (by kernel_rfl) (H36.loads (by kernel_rfl))) (d := (some 65)) (by kernel_rfl) rfl ?_
    refine Ops.call (by kernel_rfl) (d := (some 66)) (by kernel_rfl) (step_calls _ b71 mb72 w.heap.size b10 m73 VA vc SS x H76 Hm77 (by omega) hB78 H18 hOV (fun i hi => by have := obVb10 i hi; omega) (fun i hi => by have := ob82 i hi; omega) (fun i hi => by have := ob83 i hi; omega) (by omega) (by omega) K17.size hxo) ?_
    rintro _ w104 ⟨m100, S101, A102, c103, rfl, K105, Hm106, hB107, Hr108, hO109, hg110⟩
    have ob111 : ∀ i, ((Value.slice A102 S101.length c103)).ownBlock = some i → i ≠ b10 := fun i hi => by rcases hg110 i hi with h | h; (have := obVb10 i h; omega); (have := H18.lt; omega)
    have ob112 : ∀ i, ((Value.slice A102 S101.length c103)).ownBlock = some i → i ≠ bb := fun i hi => by rcases hg110 i hi with h | h; (have := hvb i h; omega); (have := H19.lt; omega)
    have ob113 : ∀ i, ((Value.slice A102 S101.length c103)).ownBlock = some i → i ≠ mbb := fun i hi => by rcases hg110 i hi with h | h; (have := hvm i h; omega); (have := H20.lt; omega)
    have ob114 : ∀ i, ((Value.slice A102 S101.length c103)).ownBlock = some i → i ≠ b28 := fun i hi => by rcases hg110 i hi with h | h; (have := ob34 i h; omega); (have := H36.lt; omega)
    have ob115 : ∀ i, ((Value.slice A102 S101.length c103)).ownBlock = some i → i ≠ b71 := fun i hi => by rcases hg110 i hi with h | h; (have := ob82 i h; omega); (have := H76.lt; omega)
    have ob116 : ∀ i, ((Value.slice A102 S101.length c103)).ownBlock = some i → i ≠ mb72 := fun i hi => by rcases hg110 i hi with h | h; (have := ob83 i h; omega); (have := Hm77.lt; omega)
    have oo117 : ∀ i, ((Value.slice A52 ((bookB SS).length) c53)).ownBlock = some i → ((Value.slice A102 S101.length c103)).ownBlock = some i → False := fun i hi hs => by rcases hg110 i hs with h | h; (exact oo50 i hi h); (have := (World.ownsRow.lt O44 i hi).2; omega)
    have oo118 : ∀ i, ((Value.slice A102 S101.length c103)).ownBlock = some i → ((Value.slice A52 ((bookB SS).length) c53)).ownBlock = some i → False := fun i hi hs => oo117 i hs hi
    refine ⟨_, _, rfl, rfl, ?_⟩
    replace K17 := K17.trans K105 (U := none_) (fun i h1 h2 => h2) (fun i h1 h2 => by have h2 : i = mb72 ∨ i = b10 ∨ ((Value.slice VA SS.length vc)).ownBlock = some i := h2; rcases h2 with h2 | h2 | h2; (exfalso; omega); (exfalso; omega); (exfalso; have := (World.ownsRow.lt hOV i h2).1; omega))
    replace H19 := H19.keep K105 (by intro h; change bb = mb72 ∨ bb = b10 ∨ ((Value.slice VA SS.length vc)).ownBlock = some bb at h; rcases h with h | h | h; (omega); (omega); (have := hvb bb h; omega))
    replace H20 := H20.keep K105 (by intro h; change mbb = mb72 ∨ mbb = b10 ∨ ((Value.slice VA SS.length vc)).ownBlock = some mbb at h; rcases h with h | h | h; (omega); (omega); (have := hvm mbb h; omega))
    replace H36 := H36.keep K105 (by intro h; change b28 = mb72 ∨ b28 = b10 ∨ ((Value.slice VA SS.length vc)).ownBlock = some b28 at h; rcases h with h | h | h; (omega); (omega); (have := ob34 b28 h; omega))
    replace H76 := H76.keep K105 (by intro h; change b71 = mb72 ∨ b71 = b10 ∨ ((Value.slice VA SS.length vc)).ownBlock = some b71 at h; rcases h with h | h | h; (omega); (omega); (have := ob82 b71 h; omega))
    clear hOV
    replace O44 := own_keep O44 K105 (fun i hi hs => by have hs : i = mb72 ∨ i = b10 ∨ ((Value.slice VA SS.length vc)).ownBlock = some i := hs; rcases hs with hs | hs | hs; (have := ob85 i hi; omega); (have := ob45 i hi; omega); (exact oo50 i hi hs))
    clear K105
    refine og 4 [(0, (Value.slice PA l.length pc)), (3, (ptr b71)), (4, (ptr b10)), (5, (i64 ((i : Nat) : Int))), (6, (ptr b28)), (7, (Value.slice A55 ((bookB SS).length) c56)), (8, (ptr b71)), (9, (i64 0)), (24, (Value.bool true)), (33, (Value.bool true)), (59, (Value.bool false)), (68, (Value.bool false)), (69, (ptr b71)), (70, (ptr b10))] 8 ?_
    refine Ops.go (v := (agg [(i64 x.kind), (Value.string (str x.name)), (Value.string (str x.own)), (i64 x.n), (i64 x.slot)])) (by kernel_rfl) (Runs.load (t := 37) (a := ⟨b28, 0, none⟩) (by kernel_rfl) (H36.loads (by kernel_rfl))) (d := (some 71)) (by kernel_rfl) rfl ?_
    refine Ops.call (by kernel_rfl) (d := (some 72)) (by kernel_rfl) (alike_calls _ b71 mb72 m100 S101 b10 A102 c103 x H76 Hm106 (by omega) hB107 Hr108 (OwnT.rd hO109) (by omega) (by omega) hxo) ?_
    rintro _ w120 ⟨rfl, K119⟩
    refine ⟨_, _, rfl, rfl, ?_⟩
    replace K17 := K17.trans K119 (U := none_) (fun i h1 h2 => h2) (fun i h1 h2 => by exact h2)
    replace Hr108 := Hr108.keep K119 (fun h => h)
    replace H19 := H19.keep K119 (fun h => h)
    replace H20 := H20.keep K119 (fun h => h)
    replace H36 := H36.keep K119 (fun h => h)
    replace H76 := H76.keep K119 (fun h => h)
    replace Hm106 := Hm106.keep K119 (fun h => h)
    replace O44 := own_keep0 O44 K119
    replace hO109 := own_keep0 hO109 K119
    clear K119
    refine og 2 [(0, (Value.slice PA l.length pc)), (3, (ptr b71)), (4, (ptr b10)), (5, (i64 ((i : Nat) : Int))), (6, (ptr b28)), (7, (Value.slice A55 ((bookB SS).length) c56)), (8, (ptr b71)), (9, (i64 0)), (24, (Value.bool true)), (33, (Value.bool true)), (59, (Value.bool false)), (74, (Value.bool false))] 12 ?_
    refine od ?_
    refine q_else (o := .tmp 74) (by kernel_rfl) rfl ?_
    refine q_skip (by kernel_rfl) ?_
    refine qg ?_
    refine og 2 [(0, (Value.slice PA l.length pc)), (3, (ptr b71)), (4, (ptr b10)), (5, (i64 ((i : Nat) : Int))), (6, (ptr b28)), (7, (Value.slice A55 ((bookB SS).length) c56)), (8, (ptr b71)), (9, (i64 0)), (24, (Value.bool true)), (26, (i64 (IntKind.i64.wrap (((i : Nat) : Int) + 1)))), (33, (Value.bool true)), (59, (Value.bool false)), (74, (Value.bool false))] 2 ?_
    have e121 : IntKind.i64.wrap (((i : Nat) : Int) + 1) = ((i + 1 : Nat) : Int) := by rw [wrap_i64 (by omega) (by omega)]; omega
    rw [e121]
    clear e121
    refine og 1 [(0, (Value.slice PA l.length pc)), (3, (ptr b71)), (4, (ptr b10)), (5, (i64 ((i + 1 : Nat) : Int))), (6, (ptr b28)), (7, (Value.slice A55 ((bookB SS).length) c56)), (8, (ptr b71)), (9, (i64 0)), (24, (Value.bool true)), (33, (Value.bool true)), (59, (Value.bool false)), (74, (Value.bool false))] 3 ?_
    refine Ops.keep (R := [(0, (Value.slice PA l.length pc)), (3, (ptr b71)), (4, (ptr b10)), (5, (i64 ((i + 1 : Nat) : Int)))]) (by kernel_rfl) ?_
    refine od ?_
    exact ⟨(i + 1, b71, mb72, m100, S101, A102, c103), ⟨rfl, hO109, ob111, (by omega), hB107, (by omega), (fun i hi => by have := ob115 i hi; omega), (fun i hi => by have := ob116 i hi; omega), K17, Hr108, H76, Hm106⟩, (show l.length - (i + 1) < l.length - i from by omega)⟩
   ·rw [h38]
    have p122 : ¬ (x.kind = 10) := of_beq_f h38
    refine q_skip (by kernel_rfl) ?_
    refine qs ?_
    refine qg ?_
    refine og 2 [(0, (Value.slice PA l.length pc)), (3, (ptr bb)), (4, (ptr b10)), (5, (i64 ((i : Nat) : Int))), (6, (ptr b28)), (24, (Value.bool true)), (33, (Value.bool false)), (63, (ptr bb)), (64, (ptr b10))] 2 ?_
    refine Ops.go (v := (agg [(i64 x.kind), (Value.string (str x.name)), (Value.string (str x.own)), (i64 x.n), (i64 x.slot)])) (by kernel_rfl) (Runs.load (t := 37) (a := ⟨b28, 0, none⟩) (by kernel_rfl) (H36.loads (by kernel_rfl))) (d := (some 65)) (by kernel_rfl) rfl ?_
    refine Ops.call (by kernel_rfl) (d := (some 66)) (by kernel_rfl) (step_calls _ bb mbb w.heap.size b10 mm VA vc SS x H19 H20 (by omega) hBm H18 hOV (fun i hi => by have := obVb10 i hi; omega) (fun i hi => by have := hvb i hi; omega) (fun i hi => by have := hvm i hi; omega) (by omega) (by omega) K17.size hxo) ?_
    rintro _ w127 ⟨m123, S124, A125, c126, rfl, K128, Hm129, hB130, Hr131, hO132, hg133⟩
    have ob134 : ∀ i, ((Value.slice A125 S124.length c126)).ownBlock = some i → i ≠ b10 := fun i hi => by rcases hg133 i hi with h | h; (have := obVb10 i h; omega); (have := H18.lt; omega)
    have ob135 : ∀ i, ((Value.slice A125 S124.length c126)).ownBlock = some i → i ≠ bb := fun i hi => by rcases hg133 i hi with h | h; (have := hvb i h; omega); (have := H19.lt; omega)
    have ob136 : ∀ i, ((Value.slice A125 S124.length c126)).ownBlock = some i → i ≠ mbb := fun i hi => by rcases hg133 i hi with h | h; (have := hvm i h; omega); (have := H20.lt; omega)
    have ob137 : ∀ i, ((Value.slice A125 S124.length c126)).ownBlock = some i → i ≠ b28 := fun i hi => by rcases hg133 i hi with h | h; (have := ob34 i h; omega); (have := H36.lt; omega)
    refine ⟨_, _, rfl, rfl, ?_⟩
    replace K17 := K17.trans K128 (U := none_) (fun i h1 h2 => h2) (fun i h1 h2 => by have h2 : i = mbb ∨ i = b10 ∨ ((Value.slice VA SS.length vc)).ownBlock = some i := h2; rcases h2 with h2 | h2 | h2; (exfalso; omega); (exfalso; omega); (exfalso; have := (World.ownsRow.lt hOV i h2).1; omega))
    replace H19 := H19.keep K128 (by intro h; change bb = mbb ∨ bb = b10 ∨ ((Value.slice VA SS.length vc)).ownBlock = some bb at h; rcases h with h | h | h; (omega); (omega); (have := hvb bb h; omega))
    replace H36 := H36.keep K128 (by intro h; change b28 = mbb ∨ b28 = b10 ∨ ((Value.slice VA SS.length vc)).ownBlock = some b28 at h; rcases h with h | h | h; (omega); (omega); (have := ob34 b28 h; omega))
    clear hOV
    clear K128
    refine og 4 [(0, (Value.slice PA l.length pc)), (3, (ptr bb)), (4, (ptr b10)), (5, (i64 ((i : Nat) : Int))), (6, (ptr b28)), (24, (Value.bool true)), (33, (Value.bool false)), (68, (Value.bool false)), (69, (ptr bb)), (70, (ptr b10))] 8 ?_
    refine Ops.go (v := (agg [(i64 x.kind), (Value.string (str x.name)), (Value.string (str x.own)), (i64 x.n), (i64 x.slot)])) (by kernel_rfl) (Runs.load (t := 37) (a := ⟨b28, 0, none⟩) (by kernel_rfl) (H36.loads (by kernel_rfl))) (d := (some 71)) (by kernel_rfl) rfl ?_
    refine Ops.call (by kernel_rfl) (d := (some 72)) (by kernel_rfl) (alike_calls _ bb mbb m123 S124 b10 A125 c126 x H19 Hm129 (by omega) hB130 Hr131 (OwnT.rd hO132) (by omega) (by omega) hxo) ?_
    rintro _ w139 ⟨rfl, K138⟩
    refine ⟨_, _, rfl, rfl, ?_⟩
    replace K17 := K17.trans K138 (U := none_) (fun i h1 h2 => h2) (fun i h1 h2 => by exact h2)
    replace Hr131 := Hr131.keep K138 (fun h => h)
    replace H19 := H19.keep K138 (fun h => h)
    replace Hm129 := Hm129.keep K138 (fun h => h)
    replace H36 := H36.keep K138 (fun h => h)
    replace hO132 := own_keep0 hO132 K138
    clear K138
    refine og 2 [(0, (Value.slice PA l.length pc)), (3, (ptr bb)), (4, (ptr b10)), (5, (i64 ((i : Nat) : Int))), (6, (ptr b28)), (24, (Value.bool true)), (33, (Value.bool false)), (74, (Value.bool false))] 12 ?_
    refine od ?_
    refine q_else (o := .tmp 74) (by kernel_rfl) rfl ?_
    refine q_skip (by kernel_rfl) ?_
    refine qg ?_
    refine og 2 [(0, (Value.slice PA l.length pc)), (3, (ptr bb)), (4, (ptr b10)), (5, (i64 ((i : Nat) : Int))), (6, (ptr b28)), (24, (Value.bool true)), (26, (i64 (IntKind.i64.wrap (((i : Nat) : Int) + 1)))), (33, (Value.bool false)), (74, (Value.bool false))] 2 ?_
    have e140 : IntKind.i64.wrap (((i : Nat) : Int) + 1) = ((i + 1 : Nat) : Int) := by rw [wrap_i64 (by omega) (by omega)]; omega
    rw [e140]
    clear e140
    refine og 1 [(0, (Value.slice PA l.length pc)), (3, (ptr bb)), (4, (ptr b10)), (5, (i64 ((i + 1 : Nat) : Int))), (6, (ptr b28)), (24, (Value.bool true)), (33, (Value.bool false)), (74, (Value.bool false))] 3 ?_
    refine Ops.keep (R := [(0, (Value.slice PA l.length pc)), (3, (ptr bb)), (4, (ptr b10)), (5, (i64 ((i + 1 : Nat) : Int)))]) (by kernel_rfl) ?_
    refine od ?_
    exact ⟨(i + 1, bb, mbb, m123, S124, A125, c126), ⟨rfl, hO132, ob134, (by omega), hB130, (by omega), (fun i hi => by have := ob135 i hi; omega), (fun i hi => by have := ob136 i hi; omega), K17, Hr131, H19, Hm129⟩, (show l.length - (i + 1) < l.length - i from by omega)⟩
  ·rw [h26]
   have p141 : ¬ (((i : Nat) : Int) < 120) := of_decide_eq_false h26
   refine q_exit (id := 0) (by kernel_rfl) ?_
   refine qs ?_
   refine qg ?_
   refine og 1 [(3, (ptr bb)), (4, (ptr b10)), (75, (ptr bb))] 1 ?_
   refine Ops.call (by kernel_rfl) (d := (some 76)) (by kernel_rfl) (Copy_calls _ bb mbb mm SS H19 H20 (by omega) hBm) ?_
   rintro _ w144 ⟨b142, mb143, rfl, K145, H146, Hm147, hb148, hb149, hb150⟩
   have lb142b10 : b10 < b142 := by have := H18.lt; omega
   have lmb143b10 : b10 < mb143 := by have := H18.lt; omega
   have lb142bb : bb < b142 := by have := H19.lt; omega
   have lmb143bb : bb < mb143 := by have := H19.lt; omega
   have lb142mbb : mbb < b142 := by have := H20.lt; omega
   have lmb143mbb : mbb < mb143 := by have := H20.lt; omega
   have nb142 : w.heap.size ≤ b142 := by have := K17.size; omega
   have nmb143 : w.heap.size ≤ mb143 := by have := K17.size; omega
   have ob151 : ∀ i, ((Value.slice VA SS.length vc)).ownBlock = some i → i ≠ b142 := fun i hi => by have := (World.ownsRow.lt hOV i hi).2; omega
   have ob152 : ∀ i, ((Value.slice VA SS.length vc)).ownBlock = some i → i ≠ mb143 := fun i hi => by have := (World.ownsRow.lt hOV i hi).2; omega
   refine ⟨_, _, rfl, rfl, ?_⟩
   replace K17 := K17.trans K145 (U := none_) (fun i h1 h2 => h2) (fun i h1 h2 => by exact h2)
   replace H18 := H18.keep K145 (fun h => h)
   replace H19 := H19.keep K145 (fun h => h)
   replace H20 := H20.keep K145 (fun h => h)
   replace hOV := own_keep0 hOV K145
   clear K145
   refine og 1 [(3, (ptr bb)), (4, (ptr b10)), (10, (ptr b142))] 3 ?_
   refine od ?_
   refine qs ?_
   refine qs ?_
   refine qg ?_
   refine og 5 [(3, (ptr bb)), (4, (ptr b10)), (10, (ptr b142)), (79, (Value.bool false)), (80, (ptr b142)), (81, (ptr bb))] 5 ?_
   refine Ops.call (by kernel_rfl) (d := (some 82)) (by kernel_rfl) (Same_calls _ b142 mb143 mm SS bb mbb mm SS H146 Hm147 (by omega) hBm H19 H20 (by omega) hBm) ?_
   rintro _ w156 ⟨t153, rfl, ht154, K155⟩
   refine ⟨_, _, rfl, rfl, ?_⟩
   replace K17 := K17.trans K155 (U := none_) (fun i h1 h2 => h2) (fun i h1 h2 => by exact h2)
   replace H18 := H18.keep K155 (fun h => h)
   replace H19 := H19.keep K155 (fun h => h)
   replace H20 := H20.keep K155 (fun h => h)
   replace H146 := H146.keep K155 (fun h => h)
   replace Hm147 := Hm147.keep K155 (fun h => h)
   replace hOV := own_keep0 hOV K155
   clear K155
   refine og 3 [(3, (ptr bb)), (4, (ptr b10)), (10, (ptr b142)), (85, (Value.bool (!t153)))] 9 ?_
   have h157 : (!t153) = false := by rw [show t153 = true from ht154.2 rfl]; rfl
   rw [h157]
   refine og 1 [(3, (ptr bb)), (4, (ptr b10)), (10, (ptr b142)), (85, (Value.bool false)), (86, (ptr bb))] 10 ?_
   refine Ops.call (by kernel_rfl) (d := (some 87)) (by kernel_rfl) (Same_nil2 _ bb mbb mm SS H19 H20 (by omega) hBm) ?_
   rintro _ w161 ⟨rfl, K160⟩
   refine ⟨_, _, rfl, rfl, ?_⟩
   replace K17 := K17.trans K160 (U := none_) (fun i h1 h2 => h2) (fun i h1 h2 => by exact h2)
   replace H18 := H18.keep K160 (fun h => h)
   replace H19 := H19.keep K160 (fun h => h)
   replace H20 := H20.keep K160 (fun h => h)
   replace H146 := H146.keep K160 (fun h => h)
   replace Hm147 := Hm147.keep K160 (fun h => h)
   replace hOV := own_keep0 hOV K160
   clear K160
   refine og 1 [(3, (ptr bb)), (4, (ptr b10)), (10, (ptr b142)), (88, (Value.bool false))] 12 ?_
   refine od ?_
   refine q_else (o := .tmp 88) (by kernel_rfl) rfl ?_
   refine q_skip (by kernel_rfl) ?_
   refine qs ?_
   refine qg ?_
   refine og 1 [(3, (ptr bb)), (4, (ptr b10)), (10, (ptr b142)), (89, (ptr b142))] 1 ?_
   refine Ops.call (by kernel_rfl) (d := (some 90)) (by kernel_rfl) (Open_calls _ b142 mb143 mm SS [111, 116, 104, 101, 114, 95, 111, 110, 101, 95, 109, 111, 114, 101] H146 Hm147 (by omega) hBm) ?_
   rintro _ w163 ⟨m162, rfl, K164, H165, hB166⟩
   have hl167 := hB166.len
   refine ⟨_, _, rfl, rfl, ?_⟩
   replace K17 := K17.trans K164 (U := none_) (fun i h1 h2 => h2) (fun i h1 h2 => by have h2 : i = mb143 := h2; exfalso; omega)
   replace H18 := H18.keep K164 (by intro h; change b10 = mb143 at h; omega)
   replace H19 := H19.keep K164 (by intro h; change bb = mb143 at h; omega)
   replace H20 := H20.keep K164 (by intro h; change mbb = mb143 at h; omega)
   replace H146 := H146.keep K164 (by intro h; change b142 = mb143 at h; omega)
   replace hOV := own_keep hOV K164 (fun i hi hs => by have hs : i = mb143 := hs; have := ob152 i hi; omega)
   clear K164
   refine og 1 [(3, (ptr bb)), (4, (ptr b10)), (10, (ptr b142)), (11, (i64 (putE SS [111, 116, 104, 101, 114, 95, 111, 110, 101, 95, 109, 111, 114, 101] 0)))] 3 ?_
   refine od ?_
   refine qs ?_
   refine qg ?_
   refine og 4 [(3, (ptr bb)), (4, (ptr b10)), (92, (Value.bool ((putE SS [111, 116, 104, 101, 114, 95, 111, 110, 101, 95, 109, 111, 114, 101] 0) == 0))), (93, (ptr b142)), (94, (ptr bb))] 4 ?_
   refine Ops.call (by kernel_rfl) (d := (some 95)) (by kernel_rfl) (Same_calls _ b142 mb143 m162 (putS SS [111, 116, 104, 101, 114, 95, 111, 110, 101, 95, 109, 111, 114, 101] 0) bb mbb mm SS H146 H165 (by omega) hB166 H19 H20 (by omega) hBm) ?_
   rintro _ w171 ⟨t168, rfl, ht169, K170⟩
   refine ⟨_, _, rfl, rfl, ?_⟩
   replace K17 := K17.trans K170 (U := none_) (fun i h1 h2 => h2) (fun i h1 h2 => by exact h2)
   replace H18 := H18.keep K170 (fun h => h)
   replace H19 := H19.keep K170 (fun h => h)
   replace H20 := H20.keep K170 (fun h => h)
   replace H146 := H146.keep K170 (fun h => h)
   replace H165 := H165.keep K170 (fun h => h)
   replace hOV := own_keep0 hOV K170
   clear K170
   refine Ops.split ((putE SS [111, 116, 104, 101, 114, 95, 111, 110, 101, 95, 109, 111, 114, 101] 0) == 0) (fun h172 => ?_) (fun h172 => ?_)
   ·rw [h172]
    have p173 : putE SS [111, 116, 104, 101, 114, 95, 111, 110, 101, 95, 109, 111, 114, 101] 0 = 0 := of_beq_t h172
    have h174 : t168 = false := eqt_f ht169 (put_len (by omega))
    rw [h174]
    refine og 5 [(97, (Value.bool true)), (98, (ptr bb)), (99, (ptr b10)), (100, (agg [(i64 0), (Value.string ByteArray.empty), (Value.string ByteArray.empty), (i64 0), (i64 0)]))] 10 ?_
    refine Ops.call (by kernel_rfl) (d := (some 101)) (by kernel_rfl) (alike_calls _ bb mbb mm SS b10 VA vc (⟨0, ([] : List UInt8), ([] : List UInt8), 0, 0⟩ : BopM) H19 H20 (by omega) hBm H18 (OwnT.rd hOV) (by omega) (by omega) ⟨by decide, by decide, by decide⟩) ?_
    rintro _ w176 ⟨rfl, K175⟩
    refine ⟨_, _, rfl, rfl, ?_⟩
    replace K17 := K17.trans K175 (U := none_) (fun i h1 h2 => h2) (fun i h1 h2 => by exact h2)
    replace H18 := H18.keep K175 (fun h => h)
    replace H19 := H19.keep K175 (fun h => h)
    replace H20 := H20.keep K175 (fun h => h)
    replace H146 := H146.keep K175 (fun h => h)
    replace H165 := H165.keep K175 (fun h => h)
    replace hOV := own_keep0 hOV K175
    clear K175
    refine og 2 [(103, (Value.bool true))] 13 ?_
    refine Ops.call (by kernel_rfl) (d := (some 104)) (by kernel_rfl) (known_calls _) ?_
    rintro _ w178 ⟨rfl, K177⟩
    refine ⟨_, _, rfl, rfl, ?_⟩
    replace K17 := K17.trans K177 (U := none_) (fun i h1 h2 => h2) (fun i h1 h2 => by exact h2)
    replace H18 := H18.keep K177 (fun h => h)
    replace H19 := H19.keep K177 (fun h => h)
    replace H20 := H20.keep K177 (fun h => h)
    replace H146 := H146.keep K177 (fun h => h)
    replace H165 := H165.keep K177 (fun h => h)
    replace hOV := own_keep0 hOV K177
    clear K177
    refine og 2 [(2, (Value.bool true))] 16 ?_
    refine od ?_
    refine q_ret (by kernel_rfl) ?_
    refine ⟨(Value.bool true), retv_tmp rfl rfl, ?_⟩
    exact ⟨rfl, K17⟩
   ·rw [h172]
    have p179 : ¬ (putE SS [111, 116, 104, 101, 114, 95, 111, 110, 101, 95, 109, 111, 114, 101] 0 = 0) := of_beq_f h172
    have h180 : t168 = true := ht169.2 (put_same (by omega))
    rw [h180]
    refine og 5 [(97, (Value.bool true)), (98, (ptr bb)), (99, (ptr b10)), (100, (agg [(i64 0), (Value.string ByteArray.empty), (Value.string ByteArray.empty), (i64 0), (i64 0)]))] 10 ?_
    refine Ops.call (by kernel_rfl) (d := (some 101)) (by kernel_rfl) (alike_calls _ bb mbb mm SS b10 VA vc (⟨0, ([] : List UInt8), ([] : List UInt8), 0, 0⟩ : BopM) H19 H20 (by omega) hBm H18 (OwnT.rd hOV) (by omega) (by omega) ⟨by decide, by decide, by decide⟩) ?_
    rintro _ w182 ⟨rfl, K181⟩
    refine ⟨_, _, rfl, rfl, ?_⟩
    replace K17 := K17.trans K181 (U := none_) (fun i h1 h2 => h2) (fun i h1 h2 => by exact h2)
    replace H18 := H18.keep K181 (fun h => h)
    replace H19 := H19.keep K181 (fun h => h)
    replace H20 := H20.keep K181 (fun h => h)
    replace H146 := H146.keep K181 (fun h => h)
    replace H165 := H165.keep K181 (fun h => h)
    replace hOV := own_keep0 hOV K181
    clear K181
    refine og 2 [(103, (Value.bool true))] 13 ?_
    refine Ops.call (by kernel_rfl) (d := (some 104)) (by kernel_rfl) (known_calls _) ?_
    rintro _ w184 ⟨rfl, K183⟩
    refine ⟨_, _, rfl, rfl, ?_⟩
    replace K17 := K17.trans K183 (U := none_) (fun i h1 h2 => h2) (fun i h1 h2 => by exact h2)
    replace H18 := H18.keep K183 (fun h => h)
    replace H19 := H19.keep K183 (fun h => h)
    replace H20 := H20.keep K183 (fun h => h)
    replace H146 := H146.keep K183 (fun h => h)
    replace H165 := H165.keep K183 (fun h => h)
    replace hOV := own_keep0 hOV K183
    clear K183
    refine og 2 [(2, (Value.bool true))] 16 ?_
    refine od ?_
    refine q_ret (by kernel_rfl) ?_
    refine ⟨(Value.bool true), retv_tmp rfl rfl, ?_⟩
    exact ⟨rfl, K17⟩
 ·rw [h21]
  have p185 : ¬ (((i : Nat) : Int) < ((l.length : Nat) : Int)) := of_decide_eq_false h21
  refine og 3 [(0, (Value.slice PA l.length pc)), (3, (ptr bb)), (4, (ptr b10)), (5, (i64 ((i : Nat) : Int))), (24, (Value.bool false))] 8 ?_
  refine od ?_
  refine q_else (o := .tmp 24) (by kernel_rfl) rfl ?_
  refine q_exit (id := 0) (by kernel_rfl) ?_
  refine qs ?_
  refine qg ?_
  refine og 1 [(3, (ptr bb)), (4, (ptr b10)), (75, (ptr bb))] 1 ?_
  refine Ops.call (by kernel_rfl) (d := (some 76)) (by kernel_rfl) (Copy_calls _ bb mbb mm SS H19 H20 (by omega) hBm) ?_
  rintro _ w188 ⟨b186, mb187, rfl, K189, H190, Hm191, hb192, hb193, hb194⟩
  have lb186b10 : b10 < b186 := by have := H18.lt; omega
  have lmb187b10 : b10 < mb187 := by have := H18.lt; omega
  have lb186bb : bb < b186 := by have := H19.lt; omega
  have lmb187bb : bb < mb187 := by have := H19.lt; omega
  have lb186mbb : mbb < b186 := by have := H20.lt; omega
  have lmb187mbb : mbb < mb187 := by have := H20.lt; omega
  have nb186 : w.heap.size ≤ b186 := by have := K17.size; omega
  have nmb187 : w.heap.size ≤ mb187 := by have := K17.size; omega
  have ob195 : ∀ i, ((Value.slice VA SS.length vc)).ownBlock = some i → i ≠ b186 := fun i hi => by have := (World.ownsRow.lt hOV i hi).2; omega
  have ob196 : ∀ i, ((Value.slice VA SS.length vc)).ownBlock = some i → i ≠ mb187 := fun i hi => by have := (World.ownsRow.lt hOV i hi).2; omega
  refine ⟨_, _, rfl, rfl, ?_⟩
  replace K17 := K17.trans K189 (U := none_) (fun i h1 h2 => h2) (fun i h1 h2 => by exact h2)
  replace H18 := H18.keep K189 (fun h => h)
  replace H19 := H19.keep K189 (fun h => h)
  replace H20 := H20.keep K189 (fun h => h)
  replace hOV := own_keep0 hOV K189
  clear K189
  refine og 1 [(3, (ptr bb)), (4, (ptr b10)), (10, (ptr b186))] 3 ?_
  refine od ?_
  refine qs ?_
  refine qs ?_
  refine qg ?_
  refine og 5 [(3, (ptr bb)), (4, (ptr b10)), (10, (ptr b186)), (79, (Value.bool false)), (80, (ptr b186)), (81, (ptr bb))] 5 ?_
  refine Ops.call (by kernel_rfl) (d := (some 82)) (by kernel_rfl) (Same_calls _ b186 mb187 mm SS bb mbb mm SS H190 Hm191 (by omega) hBm H19 H20 (by omega) hBm) ?_
  rintro _ w200 ⟨t197, rfl, ht198, K199⟩
  refine ⟨_, _, rfl, rfl, ?_⟩
  replace K17 := K17.trans K199 (U := none_) (fun i h1 h2 => h2) (fun i h1 h2 => by exact h2)
  replace H18 := H18.keep K199 (fun h => h)
  replace H19 := H19.keep K199 (fun h => h)
  replace H20 := H20.keep K199 (fun h => h)
  replace H190 := H190.keep K199 (fun h => h)
  replace Hm191 := Hm191.keep K199 (fun h => h)
  replace hOV := own_keep0 hOV K199
  clear K199
  refine og 3 [(3, (ptr bb)), (4, (ptr b10)), (10, (ptr b186)), (85, (Value.bool (!t197)))] 9 ?_
  have h201 : (!t197) = false := by rw [show t197 = true from ht198.2 rfl]; rfl
  rw [h201]
  refine og 1 [(3, (ptr bb)), (4, (ptr b10)), (10, (ptr b186)), (85, (Value.bool false)), (86, (ptr bb))] 10 ?_
  refine Ops.call (by kernel_rfl) (d := (some 87)) (by kernel_rfl) (Same_nil2 _ bb mbb mm SS H19 H20 (by omega) hBm) ?_
  rintro _ w205 ⟨rfl, K204⟩
  refine ⟨_, _, rfl, rfl, ?_⟩
  replace K17 := K17.trans K204 (U := none_) (fun i h1 h2 => h2) (fun i h1 h2 => by exact h2)
  replace H18 := H18.keep K204 (fun h => h)
  replace H19 := H19.keep K204 (fun h => h)
  replace H20 := H20.keep K204 (fun h => h)
  replace H190 := H190.keep K204 (fun h => h)
  replace Hm191 := Hm191.keep K204 (fun h => h)
  replace hOV := own_keep0 hOV K204
  clear K204
  refine og 1 [(3, (ptr bb)), (4, (ptr b10)), (10, (ptr b186)), (88, (Value.bool false))] 12 ?_
  refine od ?_
  refine q_else (o := .tmp 88) (by kernel_rfl) rfl ?_
  refine q_skip (by kernel_rfl) ?_
  refine qs ?_
  refine qg ?_
  refine og 1 [(3, (ptr bb)), (4, (ptr b10)), (10, (ptr b186)), (89, (ptr b186))] 1 ?_
  refine Ops.call (by kernel_rfl) (d := (some 90)) (by kernel_rfl) (Open_calls _ b186 mb187 mm SS [111, 116, 104, 101, 114, 95, 111, 110, 101, 95, 109, 111, 114, 101] H190 Hm191 (by omega) hBm) ?_
  rintro _ w207 ⟨m206, rfl, K208, H209, hB210⟩
  have hl211 := hB210.len
  refine ⟨_, _, rfl, rfl, ?_⟩
  replace K17 := K17.trans K208 (U := none_) (fun i h1 h2 => h2) (fun i h1 h2 => by have h2 : i = mb187 := h2; exfalso; omega)
  replace H18 := H18.keep K208 (by intro h; change b10 = mb187 at h; omega)
  replace H19 := H19.keep K208 (by intro h; change bb = mb187 at h; omega)
  replace H20 := H20.keep K208 (by intro h; change mbb = mb187 at h; omega)
  replace H190 := H190.keep K208 (by intro h; change b186 = mb187 at h; omega)
  replace hOV := own_keep hOV K208 (fun i hi hs => by have hs : i = mb187 := hs; have := ob196 i hi; omega)
  clear K208
  refine og 1 [(3, (ptr bb)), (4, (ptr b10)), (10, (ptr b186)), (11, (i64 (putE SS [111, 116, 104, 101, 114, 95, 111, 110, 101, 95, 109, 111, 114, 101] 0)))] 3 ?_
  refine od ?_
  refine qs ?_
  refine qg ?_
  refine og 4 [(3, (ptr bb)), (4, (ptr b10)), (92, (Value.bool ((putE SS [111, 116, 104, 101, 114, 95, 111, 110, 101, 95, 109, 111, 114, 101] 0) == 0))), (93, (ptr b186)), (94, (ptr bb))] 4 ?_
  refine Ops.call (by kernel_rfl) (d := (some 95)) (by kernel_rfl) (Same_calls _ b186 mb187 m206 (putS SS [111, 116, 104, 101, 114, 95, 111, 110, 101, 95, 109, 111, 114, 101] 0) bb mbb mm SS H190 H209 (by omega) hB210 H19 H20 (by omega) hBm) ?_
  rintro _ w215 ⟨t212, rfl, ht213, K214⟩
  refine ⟨_, _, rfl, rfl, ?_⟩
  replace K17 := K17.trans K214 (U := none_) (fun i h1 h2 => h2) (fun i h1 h2 => by exact h2)
  replace H18 := H18.keep K214 (fun h => h)
  replace H19 := H19.keep K214 (fun h => h)
  replace H20 := H20.keep K214 (fun h => h)
  replace H190 := H190.keep K214 (fun h => h)
  replace H209 := H209.keep K214 (fun h => h)
  replace hOV := own_keep0 hOV K214
  clear K214
  refine Ops.split ((putE SS [111, 116, 104, 101, 114, 95, 111, 110, 101, 95, 109, 111, 114, 101] 0) == 0) (fun h216 => ?_) (fun h216 => ?_)
  ·rw [h216]
   have p217 : putE SS [111, 116, 104, 101, 114, 95, 111, 110, 101, 95, 109, 111, 114, 101] 0 = 0 := of_beq_t h216
   have h218 : t212 = false := eqt_f ht213 (put_len (by omega))
   rw [h218]
   refine og 5 [(97, (Value.bool true)), (98, (ptr bb)), (99, (ptr b10)), (100, (agg [(i64 0), (Value.string ByteArray.empty), (Value.string ByteArray.empty), (i64 0), (i64 0)]))] 10 ?_
   refine Ops.call (by kernel_rfl) (d := (some 101)) (by kernel_rfl) (alike_calls _ bb mbb mm SS b10 VA vc (⟨0, ([] : List UInt8), ([] : List UInt8), 0, 0⟩ : BopM) H19 H20 (by omega) hBm H18 (OwnT.rd hOV) (by omega) (by omega) ⟨by decide, by decide, by decide⟩) ?_
   rintro _ w220 ⟨rfl, K219⟩
   refine ⟨_, _, rfl, rfl, ?_⟩
   replace K17 := K17.trans K219 (U := none_) (fun i h1 h2 => h2) (fun i h1 h2 => by exact h2)
   replace H18 := H18.keep K219 (fun h => h)
   replace H19 := H19.keep K219 (fun h => h)
   replace H20 := H20.keep K219 (fun h => h)
   replace H190 := H190.keep K219 (fun h => h)
   replace H209 := H209.keep K219 (fun h => h)
   replace hOV := own_keep0 hOV K219
   clear K219
   refine og 2 [(103, (Value.bool true))] 13 ?_
   refine Ops.call (by kernel_rfl) (d := (some 104)) (by kernel_rfl) (known_calls _) ?_
   rintro _ w222 ⟨rfl, K221⟩
   refine ⟨_, _, rfl, rfl, ?_⟩
   replace K17 := K17.trans K221 (U := none_) (fun i h1 h2 => h2) (fun i h1 h2 => by exact h2)
   replace H18 := H18.keep K221 (fun h => h)
   replace H19 := H19.keep K221 (fun h => h)
   replace H20 := H20.keep K221 (fun h => h)
   replace H190 := H190.keep K221 (fun h => h)
   replace H209 := H209.keep K221 (fun h => h)
   replace hOV := own_keep0 hOV K221
   clear K221
   refine og 2 [(2, (Value.bool true))] 16 ?_
   refine od ?_
   refine q_ret (by kernel_rfl) ?_
   refine ⟨(Value.bool true), retv_tmp rfl rfl, ?_⟩
   exact ⟨rfl, K17⟩
  ·rw [h216]
   have p223 : ¬ (putE SS [111, 116, 104, 101, 114, 95, 111, 110, 101, 95, 109, 111, 114, 101] 0 = 0) := of_beq_f h216
   have h224 : t212 = true := ht213.2 (put_same (by omega))
   rw [h224]
   refine og 5 [(97, (Value.bool true)), (98, (ptr bb)), (99, (ptr b10)), (100, (agg [(i64 0), (Value.string ByteArray.empty), (Value.string ByteArray.empty), (i64 0), (i64 0)]))] 10 ?_
   refine Ops.call (by kernel_rfl) (d := (some 101)) (by kernel_rfl) (alike_calls _ bb mbb mm SS b10 VA vc (⟨0, ([] : List UInt8), ([] : List UInt8), 0, 0⟩ : BopM) H19 H20 (by omega) hBm H18 (OwnT.rd hOV) (by omega) (by omega) ⟨by decide, by decide, by decide⟩) ?_
   rintro _ w226 ⟨rfl, K225⟩
   refine ⟨_, _, rfl, rfl, ?_⟩
   replace K17 := K17.trans K225 (U := none_) (fun i h1 h2 => h2) (fun i h1 h2 => by exact h2)
   replace H18 := H18.keep K225 (fun h => h)
   replace H19 := H19.keep K225 (fun h => h)
   replace H20 := H20.keep K225 (fun h => h)
   replace H190 := H190.keep K225 (fun h => h)
   replace H209 := H209.keep K225 (fun h => h)
   replace hOV := own_keep0 hOV K225
   clear K225
   refine og 2 [(103, (Value.bool true))] 13 ?_
   refine Ops.call (by kernel_rfl) (d := (some 104)) (by kernel_rfl) (known_calls _) ?_
   rintro _ w228 ⟨rfl, K227⟩
   refine ⟨_, _, rfl, rfl, ?_⟩
   replace K17 := K17.trans K227 (U := none_) (fun i h1 h2 => h2) (fun i h1 h2 => by exact h2)
   replace H18 := H18.keep K227 (fun h => h)
   replace H19 := H19.keep K227 (fun h => h)
   replace H20 := H20.keep K227 (fun h => h)
   replace H190 := H190.keep K227 (fun h => h)
   replace H209 := H209.keep K227 (fun h => h)
   replace hOV := own_keep0 hOV K227
   clear K227
   refine og 2 [(2, (Value.bool true))] 16 ?_
   refine od ?_
   refine q_ret (by kernel_rfl) ?_
   refine ⟨(Value.bool true), retv_tmp rfl rfl, ?_⟩
   exact ⟨rfl, K17⟩
end Go.Proofs.YtooginpgclcldaaGreatDoor
