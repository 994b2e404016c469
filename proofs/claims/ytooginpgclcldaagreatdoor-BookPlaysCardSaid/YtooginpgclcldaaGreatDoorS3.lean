/- a book is read of its bytes -/
import Derived.Test.YtooginpgclcldaaGreatDoorProg
import Derived.Test.YtooginpgclcldaaGreatDoorKT
import Derived.Test.YtooginpgclcldaaGreatDoorKI
import Derived.Test.YtooginpgclcldaaGreatDoorKC
import Derived.Test.YtooginpgclcldaaGreatDoorOP
import Derived.Test.YtooginpgclcldaaGreatDoorOE
import Derived.Test.YtooginpgclcldaaGreatDoorLX
set_option linter.unusedVariables false
namespace Go.Proofs.YtooginpgclcldaaGreatDoor
open Go.Q Go.RowKit

set_option maxHeartbeats 4000000 in
theorem Load_calls (w : World) (P : Option Addr) (pc : Nat) (bs : List UInt8) (hP : RdB w (.slice P bs.length pc) bs) (hbl : bs.length ≤ 140737488351232) : Calls Tryz.prog 6 ⟨[(Value.slice P bs.length pc)]⟩ w (fun e w' => ∃ v er, e = .returned (.tuple #[v, i64 er]) ∧ Keeps none_ w w' ∧ ((er ≠ 0 ∧ v = .pointer none ∧ er = loadX bs) ∨ (er = 0 ∧ loadX bs = 0 ∧ ∃ b mb m, v = ptr b ∧ Has w' b (rowL [.map (some mb)] 66) ∧ HasMap w' mb kstr accv m ∧ Book m (loadE bs).2.1 ∧ w.heap.size ≤ b ∧ w.heap.size ≤ mb ∧ b ≠ mb))) := by
 have hN : (loadN bs).1 = ((⟨bs, 0, 0⟩ : Rdr).sized 200).1 := rfl
 have hN2 := loadN_le bs
 have K0 : Keeps none_ w w := Keeps.refl w
 refine q_calls Tryz.func6 (by kernel_rfl) (by kernel_rfl) ?_
 refine qs ?_
 refine qg ?_
 refine og 2 [(0, (Value.slice P bs.length pc)), (2, (Value.pointer none)), (3, (i64 0))] 2 ?_
 refine od ?_
 refine qs ?_
 refine qg ?_
 refine og 1 [(0, (Value.slice P bs.length pc)), (2, (Value.pointer none)), (3, (i64 0)), (10, (Value.slice P bs.length pc))] 1 ?_
 refine Ops.call (by kernel_rfl) (d := (some 11)) (by kernel_rfl) (NewReader_calls _ (Value.slice P bs.length pc) bs (hP.keep0 (by omega) K0) (by first | omega | decide)) ?_
 rintro _ w5 ⟨b1, A2, c3, rfl, q4, K6, H7, hr8, hne9, hge10⟩
 have nb1 : w.heap.size ≤ b1 := by have := K0.size; omega
 have hok11 : Rdr.Ok (⟨bs, 0, 0⟩ : Rdr) := ⟨Nat.zero_le _, by show bs.length ≤ _; first | omega | decide⟩
 clear q4 hge10
 refine ⟨_, _, rfl, rfl, ?_⟩
 replace K0 := K0.t0 K6
 clear K6
 refine og 1 [(0, (Value.slice P bs.length pc)), (2, (Value.pointer none)), (3, (i64 0)), (4, (ptr b1))] 3 ?_
 refine od ?_
 refine qs ?_
 refine qg ?_
 refine Ops.call (by kernel_rfl) (d := (some 12)) (by kernel_rfl) (New_calls _) ?_
 rintro _ w14 ⟨b12, mb13, rfl, K15, H16, Hm17, hb18, hb19, hb20⟩
 have lb12b1 : b1 < b12 := by have := H7.lt; omega
 have lmb13b1 : b1 < mb13 := by have := H7.lt; omega
 have nb12 : w.heap.size ≤ b12 := by have := K0.size; omega
 have nmb13 : w.heap.size ≤ mb13 := by have := K0.size; omega
 have ob21 : ∀ i o s, A2 = some ⟨i, o, s⟩ → i ≠ b12 := fun i o s hi => by have := hr8.2 i o s hi; omega
 have ob22 : ∀ i o s, A2 = some ⟨i, o, s⟩ → i ≠ mb13 := fun i o s hi => by have := hr8.2 i o s hi; omega
 refine ⟨_, _, rfl, rfl, ?_⟩
 replace K0 := K0.t0 K15
 replace H7 := H7.keep K15 (fun h => h)
 replace hr8 := RdO.keep0 hr8 K15
 clear K15
 refine og 1 [(0, (Value.slice P bs.length pc)), (2, (Value.pointer none)), (3, (i64 0)), (4, (ptr b1)), (5, (ptr b12))] 2 ?_
 refine od ?_
 refine qs ?_
 refine qg ?_
 refine og 1 [(0, (Value.slice P bs.length pc)), (2, (Value.pointer none)), (3, (i64 0)), (4, (ptr b1)), (5, (ptr b12)), (6, (i64 0))] 1 ?_
 refine od ?_
 refine qs ?_
 refine qs ?_
 refine qg ?_
 refine og 1 [(0, (Value.slice P bs.length pc)), (2, (Value.pointer none)), (3, (i64 0)), (4, (ptr b1)), (5, (ptr b12)), (6, (i64 0)), (13, (ptr b1))] 1 ?_
 refine Ops.call (by kernel_rfl) (d := (some 14)) (by kernel_rfl) (Count_calls _ b1 A2 c3 (⟨bs, 0, 0⟩ : Rdr) hok11 H7 hr8 hne9 200 (by omega)) ?_
 rintro _ w23 ⟨rfl, K24, H25⟩
 have hok26 : ((⟨bs, 0, 0⟩ : Rdr).sized 200).2.Ok := Rdr.Ok.sized hok11 200
 have hu27 := Rdr.sized_le hok11 200
 have hu28 := Rdr.sized_lt (⟨bs, 0, 0⟩ : Rdr) 200
 refine ⟨_, _, rfl, rfl, ?_⟩
 replace K0 := K0.trans K24 (U := none_) (fun i h1 h2 => h2) (fun i h1 h2 => by have h2 : i = b1 := h2; exfalso; omega)
 replace H16 := H16.keep K24 (by intro h; change b12 = b1 at h; omega)
 replace Hm17 := Hm17.keep K24 (by intro h; change mb13 = b1 at h; omega)
 replace hr8 := RdO.keep hr8 K24 (fun i _ _ hi hs => by have hs : i = b1 := hs; have := hne9 i _ _ hi; omega)
 clear K24
 have F29 : RdO w23 A2 c3 ((⟨bs, 0, 0⟩ : Rdr).sized 200).2.bs := by rw [Rdr.sized_bs]; exact hr8
 clear hr8
 refine og 1 [(0, (Value.slice P bs.length pc)), (2, (Value.pointer none)), (3, (i64 0)), (4, (ptr b1)), (5, (ptr b12)), (6, (i64 0)), (14, (i64 ((((⟨bs, 0, 0⟩ : Rdr).sized 200).1 : Nat) : Int))), (15, (i64 0))] 3 ?_
 refine od ?_
 refine q_block (id := 0) (by kernel_rfl) ?_
 refine q_keep (R := [(0, (Value.slice P bs.length pc)), (2, (Value.pointer none)), (3, (i64 0)), (4, (ptr b1)), (5, (ptr b12)), (6, (i64 0)), (14, (i64 ((((⟨bs, 0, 0⟩ : Rdr).sized 200).1 : Nat) : Int))), (15, (i64 0))]) (by kernel_rfl) ?_
 refine q_loop (fun (gs : Nat × Rdr × Int × (List (List UInt8 × AccV)) × (List AccM)) L (wx : World) => match gs with | (i, R, ev, mm, SS) => L = [(0, (Value.slice P bs.length pc)), (2, (Value.pointer none)), (3, (i64 0)), (4, (ptr b1)), (5, (ptr b12)), (6, (i64 ev)), (14, (i64 ((((⟨bs, 0, 0⟩ : Rdr).sized 200).1 : Nat) : Int))), (15, (i64 ((i : Nat) : Int)))] ∧ RdO wx A2 c3 R.bs ∧ R.Ok ∧ i ≤ (loadN bs).1 ∧ (ev = 0 ∨ ev = 11) ∧ loadR ((loadN bs).1 - i) (R, SS, ev) = loadE bs ∧ Book mm SS ∧ Keeps none_ w wx ∧ Has wx b1 (rowL (rdrL A2 c3 R) 86) ∧ Has wx b12 (rowL [(Value.map (some mb13))] 66) ∧ HasMap wx mb13 kstr accv mm) (fun (gs : Nat × Rdr × Int × (List (List UInt8 × AccV)) × (List AccM)) => match gs with | (i, R, ev, mm, SS) => (loadN bs).1 - i) (0, (loadN bs).2, 0, [], []) (by kernel_rfl) ⟨rfl, F29, hok26, Nat.zero_le _, (.inl rfl), rfl, Book.nil, K0, H25, H16, Hm17⟩ ?_
 clear H25 H16 Hm17 F29 K0
 rintro ⟨i, R, ev, mm, SS⟩ _ w30 ⟨rfl, hRdA2, hokR, hi, hev, hF, hBm, K31, H32, H33, H34⟩
 refine qs ?_
 refine qg ?_
 refine og 1 [(0, (Value.slice P bs.length pc)), (2, (Value.pointer none)), (3, (i64 0)), (4, (ptr b1)), (5, (ptr b12)), (6, (i64 ev)), (14, (i64 ((((⟨bs, 0, 0⟩ : Rdr).sized 200).1 : Nat) : Int))), (15, (i64 ((i : Nat) : Int))), (16, (Value.bool (decide (((i : Nat) : Int) < ((((⟨bs, 0, 0⟩ : Rdr).sized 200).1 : Nat) : Int)))))] 1 ?_
 refine od ?_
 refine qs ?_
 refine q_cond (o := .tmp 16) (b := (decide (((i : Nat) : Int) < ((((⟨bs, 0, 0⟩ : Rdr).sized 200).1 : Nat) : Int)))) (by kernel_rfl) rfl (fun h35 => ?_) (fun h35 => ?_)
 ·rw [h35]
  have p36 : ((i : Nat) : Int) < ((((⟨bs, 0, 0⟩ : Rdr).sized 200).1 : Nat) : Int) := of_decide_eq_true h35
  refine q_skip (by kernel_rfl) ?_
  refine qs ?_
  refine q_block (id := 1) (by kernel_rfl) ?_
  refine qs ?_
  refine qg ?_
  refine og 1 [(0, (Value.slice P bs.length pc)), (2, (Value.pointer none)), (3, (i64 0)), (4, (ptr b1)), (5, (ptr b12)), (6, (i64 ev)), (14, (i64 ((((⟨bs, 0, 0⟩ : Rdr).sized 200).1 : Nat) : Int))), (15, (i64 ((i : Nat) : Int))), (16, (Value.bool true)), (17, (ptr b1))] 1 ?_
  refine Ops.call (by kernel_rfl) (d := (some 18)) (by kernel_rfl) (RdText_calls _ b1 A2 c3 R hokR H32 hRdA2 hne9 ) ?_
  rintro _ w37 ⟨rfl, K38, H39⟩
  have hok40 : (R.bytes).2.Ok := Rdr.Ok.bytes hokR
  have hu41 := Rdr.bytes_le hokR
  refine ⟨_, _, rfl, rfl, ?_⟩
  replace K31 := K31.trans K38 (U := none_) (fun i h1 h2 => h2) (fun i h1 h2 => by have h2 : i = b1 := h2; exfalso; omega)
  replace H33 := H33.keep K38 (by intro h; change b12 = b1 at h; omega)
  replace H34 := H34.keep K38 (by intro h; change mb13 = b1 at h; omega)
  replace hRdA2 := RdO.keep hRdA2 K38 (fun i _ _ hi hs => by have hs : i = b1 := hs; have := hne9 i _ _ hi; omega)
  clear K38
  have F42 : RdO w37 A2 c3 (R.bytes).2.bs := by rw [Rdr.bytes_bs]; exact hRdA2
  clear hRdA2
  refine og 1 [(0, (Value.slice P bs.length pc)), (2, (Value.pointer none)), (3, (i64 0)), (4, (ptr b1)), (5, (ptr b12)), (6, (i64 ev)), (14, (i64 ((((⟨bs, 0, 0⟩ : Rdr).sized 200).1 : Nat) : Int))), (15, (i64 ((i : Nat) : Int))), (16, (Value.bool true)), (19, (agg [(Value.string (str (R.bytes).1)), (i64 0)]))] 3 ?_
  refine Ops.new (o := rowL [(Value.string ByteArray.empty), (i64 0)] 52) (V := fun b => (ptr b)) (by kernel_rfl) (d := (some 7)) (by kernel_rfl) (fun b => rfl) (fun b43 w44 hb45 H46 K47 hs48 => ?_)
  have lb43b1 : b1 < b43 := by have := H39.lt; omega
  have lb43b12 : b12 < b43 := by have := H33.lt; omega
  have lb43mb13 : mb13 < b43 := by have := H34.lt; omega
  have nb43 : w.heap.size ≤ b43 := by have := K31.size; omega
  have ob49 : ∀ i o s, A2 = some ⟨i, o, s⟩ → i ≠ b43 := fun i o s hi => by have := F42.2 i o s hi; omega
  replace K31 := K31.trans K47 (U := none_) (fun i h1 h2 => h2) (fun i h1 h2 => by exact h2)
  replace H39 := H39.keep K47 (fun h => h)
  replace H33 := H33.keep K47 (fun h => h)
  replace H34 := H34.keep K47 (fun h => h)
  replace F42 := RdO.keep0 F42 K47
  clear K47 hs48
  refine Ops.put (t := 52) (b := b43) (off := 0) (v := (agg [(Value.string (str (R.bytes).1)), (i64 0)])) (ys := [(Value.string (str (R.bytes).1)), (i64 0)]) (by kernel_rfl) (by kernel_rfl) H46 (by kernel_rfl) (d := none) (by kernel_rfl) rfl (fun w50 H51 K52 => ?_)
  clear H46
  replace K31 := K31.trans K52 (U := none_) (fun i h1 h2 => h2) (fun i h1 h2 => by have h2 : i = b43 := h2; exfalso; omega)
  replace H39 := H39.keep K52 (by intro h; change b1 = b43 at h; omega)
  replace H33 := H33.keep K52 (by intro h; change b12 = b43 at h; omega)
  replace H34 := H34.keep K52 (by intro h; change mb13 = b43 at h; omega)
  replace F42 := RdO.keep F42 K52 (fun i _ _ hi hs => by have hs : i = b43 := hs; have := ob49 i _ _ hi; omega)
  clear K52
  refine od ?_
  refine qs ?_
  refine qg ?_
  refine og 1 [(0, (Value.slice P bs.length pc)), (2, (Value.pointer none)), (3, (i64 0)), (4, (ptr b1)), (5, (ptr b12)), (6, (i64 ev)), (7, (ptr b43)), (14, (i64 ((((⟨bs, 0, 0⟩ : Rdr).sized 200).1 : Nat) : Int))), (15, (i64 ((i : Nat) : Int))), (16, (Value.bool true)), (20, (ptr b1))] 1 ?_
  refine Ops.call (by kernel_rfl) (d := (some 21)) (by kernel_rfl) (RdInt_calls _ b1 A2 c3 ((R.bytes).2) hok40 H39 F42 hne9) ?_
  rintro _ w53 ⟨rfl, K54, H55⟩
  have hok56 := Rdr.Ok.int hok40
  have hu57 := Rdr.int_range ((R.bytes).2)
  refine ⟨_, _, rfl, rfl, ?_⟩
  replace K31 := K31.trans K54 (U := none_) (fun i h1 h2 => h2) (fun i h1 h2 => by have h2 : i = b1 := h2; exfalso; omega)
  replace H33 := H33.keep K54 (by intro h; change b12 = b1 at h; omega)
  replace H34 := H34.keep K54 (by intro h; change mb13 = b1 at h; omega)
  replace H51 := H51.keep K54 (by intro h; change b43 = b1 at h; omega)
  replace F42 := RdO.keep F42 K54 (fun i _ _ hi hs => by have hs : i = b1 := hs; have := hne9 i _ _ hi; omega)
  clear K54
  have F58 : RdO w53 A2 c3 (((R.bytes).2).int.2).bs := by rw [Rdr.int_bs]; exact F42
  clear F42
  refine og 1 [(0, (Value.slice P bs.length pc)), (2, (Value.pointer none)), (3, (i64 0)), (4, (ptr b1)), (5, (ptr b12)), (6, (i64 ev)), (7, (ptr b43)), (14, (i64 ((((⟨bs, 0, 0⟩ : Rdr).sized 200).1 : Nat) : Int))), (15, (i64 ((i : Nat) : Int))), (16, (Value.bool true)), (21, (i64 (((R.bytes).2).int.1))), (22, (Value.pointer (some ⟨b43, 1, none⟩)))] 3 ?_
  refine Ops.put (t := 2) (b := b43) (off := 1) (v := (i64 (((R.bytes).2).int.1))) (ys := [(Value.string (str (R.bytes).1)), (i64 (((R.bytes).2).int.1))]) (by kernel_rfl) (by kernel_rfl) H51 (by kernel_rfl) (d := none) (by kernel_rfl) rfl (fun w59 H60 K61 => ?_)
  clear H51
  replace K31 := K31.trans K61 (U := none_) (fun i h1 h2 => h2) (fun i h1 h2 => by have h2 : i = b43 := h2; exfalso; omega)
  replace H55 := H55.keep K61 (by intro h; change b1 = b43 at h; omega)
  replace H33 := H33.keep K61 (by intro h; change b12 = b43 at h; omega)
  replace H34 := H34.keep K61 (by intro h; change mb13 = b43 at h; omega)
  replace F58 := RdO.keep F58 K61 (fun i _ _ hi hs => by have hs : i = b43 := hs; have := ob49 i _ _ hi; omega)
  clear K61
  refine od ?_
  refine qs ?_
  refine qg ?_
  refine og 1 [(0, (Value.slice P bs.length pc)), (2, (Value.pointer none)), (3, (i64 0)), (4, (ptr b1)), (5, (ptr b12)), (6, (i64 ev)), (7, (ptr b43)), (14, (i64 ((((⟨bs, 0, 0⟩ : Rdr).sized 200).1 : Nat) : Int))), (15, (i64 ((i : Nat) : Int))), (16, (Value.bool true)), (23, (ptr b1))] 1 ?_
  refine Ops.call (by kernel_rfl) (d := (some 24)) (by kernel_rfl) (RdText_calls _ b1 A2 c3 (((R.bytes).2).int.2) hok56 H55 F58 hne9 ) ?_
  rintro _ w62 ⟨rfl, K63, H64⟩
  have hok65 : ((((R.bytes).2).int.2).bytes).2.Ok := Rdr.Ok.bytes hok56
  have hu66 := Rdr.bytes_le hok56
  refine ⟨_, _, rfl, rfl, ?_⟩
  replace K31 := K31.trans K63 (U := none_) (fun i h1 h2 => h2) (fun i h1 h2 => by have h2 : i = b1 := h2; exfalso; omega)
  replace H33 := H33.keep K63 (by intro h; change b12 = b1 at h; omega)
  replace H34 := H34.keep K63 (by intro h; change mb13 = b1 at h; omega)
  replace H60 := H60.keep K63 (by intro h; change b43 = b1 at h; omega)
  replace F58 := RdO.keep F58 K63 (fun i _ _ hi hs => by have hs : i = b1 := hs; have := hne9 i _ _ hi; omega)
  clear K63
  have F67 : RdO w62 A2 c3 ((((R.bytes).2).int.2).bytes).2.bs := by rw [Rdr.bytes_bs]; exact F58
  clear F58
  refine og 1 [(0, (Value.slice P bs.length pc)), (2, (Value.pointer none)), (3, (i64 0)), (4, (ptr b1)), (5, (ptr b12)), (6, (i64 ev)), (7, (ptr b43)), (8, (Value.string (str ((((R.bytes).2).int.2).bytes).1))), (14, (i64 ((((⟨bs, 0, 0⟩ : Rdr).sized 200).1 : Nat) : Int))), (15, (i64 ((i : Nat) : Int))), (16, (Value.bool true))] 3 ?_
  refine od ?_
  refine qs ?_
  refine qg ?_
  refine og 1 [(0, (Value.slice P bs.length pc)), (2, (Value.pointer none)), (3, (i64 0)), (4, (ptr b1)), (5, (ptr b12)), (6, (i64 ev)), (7, (ptr b43)), (8, (Value.string (str ((((R.bytes).2).int.2).bytes).1))), (14, (i64 ((((⟨bs, 0, 0⟩ : Rdr).sized 200).1 : Nat) : Int))), (15, (i64 ((i : Nat) : Int))), (16, (Value.bool true)), (25, (ptr b12))] 1 ?_
  refine Ops.go (v := (agg [(Value.string (str (R.bytes).1)), (i64 (((R.bytes).2).int.1))])) (by kernel_rfl) (Runs.load (t := 52) (a := ⟨b43, 0, none⟩) (by kernel_rfl) (H60.loads (by kernel_rfl))) (d := (some 26)) (by kernel_rfl) rfl ?_
  refine Ops.call (by kernel_rfl) (d := (some 27)) (by kernel_rfl) (Put_calls _ b12 mb13 mm SS ((R.bytes).1) (((R.bytes).2).int.1) H33 H34 (by omega) hBm (by omega)) ?_
  rintro _ w69 ⟨m68, rfl, K70, H71, hB72⟩
  have hl73 := hB72.len
  refine ⟨_, _, rfl, rfl, ?_⟩
  replace K31 := K31.trans K70 (U := none_) (fun i h1 h2 => h2) (fun i h1 h2 => by have h2 : i = mb13 := h2; exfalso; omega)
  replace H64 := H64.keep K70 (by intro h; change b1 = mb13 at h; omega)
  replace H33 := H33.keep K70 (by intro h; change b12 = mb13 at h; omega)
  replace H60 := H60.keep K70 (by intro h; change b43 = mb13 at h; omega)
  replace F67 := RdO.keep F67 K70 (fun i _ _ hi hs => by have hs : i = mb13 := hs; have := ob22 i _ _ hi; omega)
  clear K70
  refine og 2 [(0, (Value.slice P bs.length pc)), (2, (Value.pointer none)), (3, (i64 0)), (4, (ptr b1)), (5, (ptr b12)), (6, (i64 ev)), (7, (ptr b43)), (8, (Value.string (str ((((R.bytes).2).int.2).bytes).1))), (14, (i64 ((((⟨bs, 0, 0⟩ : Rdr).sized 200).1 : Nat) : Int))), (15, (i64 ((i : Nat) : Int))), (16, (Value.bool true)), (29, (Value.bool ((putE SS ((R.bytes).1) (((R.bytes).2).int.1)) != 0)))] 5 ?_
  refine Ops.split ((putE SS ((R.bytes).1) (((R.bytes).2).int.1)) != 0) (fun h74 => ?_) (fun h74 => ?_)
  ·rw [h74]
   have p75 : ¬ (putE SS ((R.bytes).1) (((R.bytes).2).int.1) = 0) := of_bne_t h74
   refine og 11 [(0, (Value.slice P bs.length pc)), (2, (Value.pointer none)), (3, (i64 0)), (4, (ptr b1)), (5, (ptr b12)), (6, (i64 ev)), (7, (ptr b43)), (8, (Value.string (str ((((R.bytes).2).int.2).bytes).1))), (14, (i64 ((((⟨bs, 0, 0⟩ : Rdr).sized 200).1 : Nat) : Int))), (15, (i64 ((i : Nat) : Int))), (16, (Value.bool true)), (40, (Value.bool true))] 16 ?_
   refine od ?_
   refine q_then (o := .tmp 40) (by kernel_rfl) rfl ?_
   refine qg ?_
   refine og 1 [(0, (Value.slice P bs.length pc)), (2, (Value.pointer none)), (3, (i64 0)), (4, (ptr b1)), (5, (ptr b12)), (6, (i64 11)), (7, (ptr b43)), (8, (Value.string (str ((((R.bytes).2).int.2).bytes).1))), (14, (i64 ((((⟨bs, 0, 0⟩ : Rdr).sized 200).1 : Nat) : Int))), (15, (i64 ((i : Nat) : Int))), (16, (Value.bool true)), (40, (Value.bool true))] 1 ?_
   refine od ?_
   refine qg ?_
   refine og 1 [(0, (Value.slice P bs.length pc)), (2, (Value.pointer none)), (3, (i64 0)), (4, (ptr b1)), (5, (ptr b12)), (6, (i64 11)), (7, (ptr b43)), (8, (Value.string (str ((((R.bytes).2).int.2).bytes).1))), (14, (i64 ((((⟨bs, 0, 0⟩ : Rdr).sized 200).1 : Nat) : Int))), (15, (i64 ((i : Nat) : Int))), (16, (Value.bool true)), (40, (Value.bool true)), (41, (i64 (IntKind.i64.wrap (((i : Nat) : Int) + 1))))] 1 ?_
   have e76 : IntKind.i64.wrap (((i : Nat) : Int) + 1) = ((i + 1 : Nat) : Int) := by rw [wrap_i64 (by omega) (by omega)]; omega
   rw [e76]
   clear e76
   refine og 1 [(0, (Value.slice P bs.length pc)), (2, (Value.pointer none)), (3, (i64 0)), (4, (ptr b1)), (5, (ptr b12)), (6, (i64 11)), (7, (ptr b43)), (8, (Value.string (str ((((R.bytes).2).int.2).bytes).1))), (14, (i64 ((((⟨bs, 0, 0⟩ : Rdr).sized 200).1 : Nat) : Int))), (15, (i64 ((i + 1 : Nat) : Int))), (16, (Value.bool true)), (40, (Value.bool true))] 2 ?_
   have hstep : loadStep (R, SS, ev) = (((((R.bytes).2).int.2).bytes).2, putS SS ((R.bytes).1) (((R.bytes).2).int.1), 11) := by unfold loadStep; simp only; rw [if_neg (fun q => absurd q.1 (by omega)), if_pos (.inl (by omega))]
   refine Ops.keep (R := [(0, (Value.slice P bs.length pc)), (2, (Value.pointer none)), (3, (i64 0)), (4, (ptr b1)), (5, (ptr b12)), (6, (i64 11)), (14, (i64 ((((⟨bs, 0, 0⟩ : Rdr).sized 200).1 : Nat) : Int))), (15, (i64 ((i + 1 : Nat) : Int)))]) (by kernel_rfl) ?_
   refine od ?_
   have hstep : loadStep (R, SS, ev) = (((((R.bytes).2).int.2).bytes).2, putS SS ((R.bytes).1) (((R.bytes).2).int.1), 11) := by unfold loadStep; simp only; rw [if_neg (fun q => absurd q.1 (by omega)), if_pos (.inl (by omega))]
   exact ⟨(i + 1, ((((R.bytes).2).int.2).bytes).2, 11, m68, putS SS ((R.bytes).1) (((R.bytes).2).int.1)), ⟨rfl, F67, hok65, (by omega), (by omega), (by rw [← hF, loadR_step (n := (loadN bs).1) (i := i) (by omega), hstep]), hB72, K31, H64, H33, H71⟩, (show (loadN bs).1 - (i + 1) < (loadN bs).1 - i from by omega)⟩
  ·rw [h74]
   have p77 : putE SS ((R.bytes).1) (((R.bytes).2).int.1) = 0 := of_bne_f h74
   refine og 1 [(0, (Value.slice P bs.length pc)), (2, (Value.pointer none)), (3, (i64 0)), (4, (ptr b1)), (5, (ptr b12)), (6, (i64 ev)), (7, (ptr b43)), (8, (Value.string (str ((((R.bytes).2).int.2).bytes).1))), (14, (i64 ((((⟨bs, 0, 0⟩ : Rdr).sized 200).1 : Nat) : Int))), (15, (i64 ((i : Nat) : Int))), (16, (Value.bool true)), (29, (Value.bool false)), (30, (Value.string (str ((((R.bytes).2).int.2).bytes).1)))] 6 ?_
   refine Ops.go (v := (Value.bool (!(((((R.bytes).2).int.2).bytes).1 == ([] : List UInt8))))) (by kernel_rfl) (Runs.strne (t := 9) (by kernel_rfl)) (d := (some 31)) (by kernel_rfl) rfl ?_
   refine og 1 [(0, (Value.slice P bs.length pc)), (2, (Value.pointer none)), (3, (i64 0)), (4, (ptr b1)), (5, (ptr b12)), (6, (i64 ev)), (7, (ptr b43)), (8, (Value.string (str ((((R.bytes).2).int.2).bytes).1))), (14, (i64 ((((⟨bs, 0, 0⟩ : Rdr).sized 200).1 : Nat) : Int))), (15, (i64 ((i : Nat) : Int))), (16, (Value.bool true)), (29, (Value.bool false)), (32, (Value.bool (!(((((R.bytes).2).int.2).bytes).1 == ([] : List UInt8)))))] 8 ?_
   refine Ops.split (!(((((R.bytes).2).int.2).bytes).1 == ([] : List UInt8))) (fun h78 => ?_) (fun h78 => ?_)
   ·rw [h78]
    have p79 : (((((R.bytes).2).int.2).bytes).1 == ([] : List UInt8)) = false := (bnot_true h78)
    refine og 2 [(0, (Value.slice P bs.length pc)), (2, (Value.pointer none)), (3, (i64 0)), (4, (ptr b1)), (5, (ptr b12)), (6, (i64 ev)), (7, (ptr b43)), (8, (Value.string (str ((((R.bytes).2).int.2).bytes).1))), (14, (i64 ((((⟨bs, 0, 0⟩ : Rdr).sized 200).1 : Nat) : Int))), (15, (i64 ((i : Nat) : Int))), (16, (Value.bool true)), (29, (Value.bool false)), (32, (Value.bool true)), (33, (ptr b12)), (34, (ptr b43))] 10 ?_
    refine Ops.go (v := (Value.string (str (R.bytes).1))) (by kernel_rfl) (Runs.load (t := 9) (a := ⟨b43, 0, none⟩) (by kernel_rfl) (H60.loads (by kernel_rfl))) (d := (some 35)) (by kernel_rfl) rfl ?_
    refine og 1 [(0, (Value.slice P bs.length pc)), (2, (Value.pointer none)), (3, (i64 0)), (4, (ptr b1)), (5, (ptr b12)), (6, (i64 ev)), (7, (ptr b43)), (8, (Value.string (str ((((R.bytes).2).int.2).bytes).1))), (14, (i64 ((((⟨bs, 0, 0⟩ : Rdr).sized 200).1 : Nat) : Int))), (15, (i64 ((i : Nat) : Int))), (16, (Value.bool true)), (29, (Value.bool false)), (32, (Value.bool true)), (33, (ptr b12)), (35, (Value.string (str (R.bytes).1))), (36, (Value.string (str ((((R.bytes).2).int.2).bytes).1)))] 12 ?_
    refine Ops.call (by kernel_rfl) (d := (some 37)) (by kernel_rfl) (Hold_calls _ b12 mb13 m68 (putS SS ((R.bytes).1) (((R.bytes).2).int.1)) ((R.bytes).1) (((((R.bytes).2).int.2).bytes).1) H33 H71 (by omega) hB72) ?_
    rintro _ w81 ⟨m80, rfl, K82, H83, hB84⟩
    have hl85 := hB84.len
    refine ⟨_, _, rfl, rfl, ?_⟩
    replace K31 := K31.trans K82 (U := none_) (fun i h1 h2 => h2) (fun i h1 h2 => by have h2 : i = mb13 := h2; exfalso; omega)
    replace H64 := H64.keep K82 (by intro h; change b1 = mb13 at h; omega)
    replace H33 := H33.keep K82 (by intro h; change b12 = mb13 at h; omega)
    replace H60 := H60.keep K82 (by intro h; change b43 = mb13 at h; omega)
    replace F67 := RdO.keep F67 K82 (fun i _ _ hi hs => by have hs : i = mb13 := hs; have := ob22 i _ _ hi; omega)
    clear K82
    refine og 3 [(0, (Value.slice P bs.length pc)), (2, (Value.pointer none)), (3, (i64 0)), (4, (ptr b1)), (5, (ptr b12)), (6, (i64 ev)), (7, (ptr b43)), (8, (Value.string (str ((((R.bytes).2).int.2).bytes).1))), (14, (i64 ((((⟨bs, 0, 0⟩ : Rdr).sized 200).1 : Nat) : Int))), (15, (i64 ((i : Nat) : Int))), (16, (Value.bool true)), (40, (Value.bool ((chgE (holdF (((((R.bytes).2).int.2).bytes).1)) (putS SS ((R.bytes).1) (((R.bytes).2).int.1)) ((R.bytes).1)) != 0)))] 16 ?_
    refine od ?_
    refine q_cond (o := .tmp 40) (b := ((chgE (holdF (((((R.bytes).2).int.2).bytes).1)) (putS SS ((R.bytes).1) (((R.bytes).2).int.1)) ((R.bytes).1)) != 0)) (by kernel_rfl) rfl (fun h86 => ?_) (fun h86 => ?_)
    ·rw [h86]
     have p87 : ¬ (chgE (holdF (((((R.bytes).2).int.2).bytes).1)) (putS SS ((R.bytes).1) (((R.bytes).2).int.1)) ((R.bytes).1) = 0) := of_bne_t h86
     refine qg ?_
     refine og 1 [(0, (Value.slice P bs.length pc)), (2, (Value.pointer none)), (3, (i64 0)), (4, (ptr b1)), (5, (ptr b12)), (6, (i64 11)), (7, (ptr b43)), (8, (Value.string (str ((((R.bytes).2).int.2).bytes).1))), (14, (i64 ((((⟨bs, 0, 0⟩ : Rdr).sized 200).1 : Nat) : Int))), (15, (i64 ((i : Nat) : Int))), (16, (Value.bool true)), (40, (Value.bool true))] 1 ?_
     refine od ?_
     refine qg ?_
     refine og 1 [(0, (Value.slice P bs.length pc)), (2, (Value.pointer none)), (3, (i64 0)), (4, (ptr b1)), (5, (ptr b12)), (6, (i64 11)), (7, (ptr b43)), (8, (Value.string (str ((((R.bytes).2).int.2).bytes).1))), (14, (i64 ((((⟨bs, 0, 0⟩ : Rdr).sized 200).1 : Nat) : Int))), (15, (i64 ((i : Nat) : Int))), (16, (Value.bool true)), (40, (Value.bool true)), (41, (i64 (IntKind.i64.wrap (((i : Nat) : Int) + 1))))] 1 ?_
     have e88 : IntKind.i64.wrap (((i : Nat) : Int) + 1) = ((i + 1 : Nat) : Int) := by rw [wrap_i64 (by omega) (by omega)]; omega
     rw [e88]
     clear e88
     refine og 1 [(0, (Value.slice P bs.length pc)), (2, (Value.pointer none)), (3, (i64 0)), (4, (ptr b1)), (5, (ptr b12)), (6, (i64 11)), (7, (ptr b43)), (8, (Value.string (str ((((R.bytes).2).int.2).bytes).1))), (14, (i64 ((((⟨bs, 0, 0⟩ : Rdr).sized 200).1 : Nat) : Int))), (15, (i64 ((i + 1 : Nat) : Int))), (16, (Value.bool true)), (40, (Value.bool true))] 2 ?_
     have hby : (R.bytes.2.int.2.bytes).1 ≠ [] := by have h := (bnot_true h78); simpa using h
     have hstep : loadStep (R, SS, ev) = (((((R.bytes).2).int.2).bytes).2, chgS (holdF (((((R.bytes).2).int.2).bytes).1)) (putS SS ((R.bytes).1) (((R.bytes).2).int.1)) ((R.bytes).1), 11) := by unfold loadStep; simp only; rw [if_pos ⟨by omega, hby⟩, if_pos (.inr ⟨hby, by omega⟩)]
     refine Ops.keep (R := [(0, (Value.slice P bs.length pc)), (2, (Value.pointer none)), (3, (i64 0)), (4, (ptr b1)), (5, (ptr b12)), (6, (i64 11)), (14, (i64 ((((⟨bs, 0, 0⟩ : Rdr).sized 200).1 : Nat) : Int))), (15, (i64 ((i + 1 : Nat) : Int)))]) (by kernel_rfl) ?_
     refine od ?_
     have hby : (R.bytes.2.int.2.bytes).1 ≠ [] := by have h := (bnot_true h78); simpa using h
     have hstep : loadStep (R, SS, ev) = (((((R.bytes).2).int.2).bytes).2, chgS (holdF (((((R.bytes).2).int.2).bytes).1)) (putS SS ((R.bytes).1) (((R.bytes).2).int.1)) ((R.bytes).1), 11) := by unfold loadStep; simp only; rw [if_pos ⟨by omega, hby⟩, if_pos (.inr ⟨hby, by omega⟩)]
     exact ⟨(i + 1, ((((R.bytes).2).int.2).bytes).2, 11, m80, chgS (holdF (((((R.bytes).2).int.2).bytes).1)) (putS SS ((R.bytes).1) (((R.bytes).2).int.1)) ((R.bytes).1)), ⟨rfl, F67, hok65, (by omega), (by omega), (by rw [← hF, loadR_step (n := (loadN bs).1) (i := i) (by omega), hstep]), hB84, K31, H64, H33, H83⟩, (show (loadN bs).1 - (i + 1) < (loadN bs).1 - i from by omega)⟩
    ·rw [h86]
     have p89 : chgE (holdF (((((R.bytes).2).int.2).bytes).1)) (putS SS ((R.bytes).1) (((R.bytes).2).int.1)) ((R.bytes).1) = 0 := of_bne_f h86
     refine q_skip (by kernel_rfl) ?_
     refine qg ?_
     refine og 1 [(0, (Value.slice P bs.length pc)), (2, (Value.pointer none)), (3, (i64 0)), (4, (ptr b1)), (5, (ptr b12)), (6, (i64 ev)), (7, (ptr b43)), (8, (Value.string (str ((((R.bytes).2).int.2).bytes).1))), (14, (i64 ((((⟨bs, 0, 0⟩ : Rdr).sized 200).1 : Nat) : Int))), (15, (i64 ((i : Nat) : Int))), (16, (Value.bool true)), (40, (Value.bool false)), (41, (i64 (IntKind.i64.wrap (((i : Nat) : Int) + 1))))] 1 ?_
     have e90 : IntKind.i64.wrap (((i : Nat) : Int) + 1) = ((i + 1 : Nat) : Int) := by rw [wrap_i64 (by omega) (by omega)]; omega
     rw [e90]
     clear e90
     refine og 1 [(0, (Value.slice P bs.length pc)), (2, (Value.pointer none)), (3, (i64 0)), (4, (ptr b1)), (5, (ptr b12)), (6, (i64 ev)), (7, (ptr b43)), (8, (Value.string (str ((((R.bytes).2).int.2).bytes).1))), (14, (i64 ((((⟨bs, 0, 0⟩ : Rdr).sized 200).1 : Nat) : Int))), (15, (i64 ((i + 1 : Nat) : Int))), (16, (Value.bool true)), (40, (Value.bool false))] 2 ?_
     have hby : (R.bytes.2.int.2.bytes).1 ≠ [] := by have h := (bnot_true h78); simpa using h
     have hstep : loadStep (R, SS, ev) = (((((R.bytes).2).int.2).bytes).2, chgS (holdF (((((R.bytes).2).int.2).bytes).1)) (putS SS ((R.bytes).1) (((R.bytes).2).int.1)) ((R.bytes).1), ev) := by unfold loadStep; simp only; rw [if_pos ⟨by omega, hby⟩, if_neg (by rintro (q | q); (omega); (have := q.2; omega))]
     refine Ops.keep (R := [(0, (Value.slice P bs.length pc)), (2, (Value.pointer none)), (3, (i64 0)), (4, (ptr b1)), (5, (ptr b12)), (6, (i64 ev)), (14, (i64 ((((⟨bs, 0, 0⟩ : Rdr).sized 200).1 : Nat) : Int))), (15, (i64 ((i + 1 : Nat) : Int)))]) (by kernel_rfl) ?_
     refine od ?_
     have hby : (R.bytes.2.int.2.bytes).1 ≠ [] := by have h := (bnot_true h78); simpa using h
     have hstep : loadStep (R, SS, ev) = (((((R.bytes).2).int.2).bytes).2, chgS (holdF (((((R.bytes).2).int.2).bytes).1)) (putS SS ((R.bytes).1) (((R.bytes).2).int.1)) ((R.bytes).1), ev) := by unfold loadStep; simp only; rw [if_pos ⟨by omega, hby⟩, if_neg (by rintro (q | q); (omega); (have := q.2; omega))]
     exact ⟨(i + 1, ((((R.bytes).2).int.2).bytes).2, ev, m80, chgS (holdF (((((R.bytes).2).int.2).bytes).1)) (putS SS ((R.bytes).1) (((R.bytes).2).int.1)) ((R.bytes).1)), ⟨rfl, F67, hok65, (by omega), (by omega), (by rw [← hF, loadR_step (n := (loadN bs).1) (i := i) (by omega), hstep]), hB84, K31, H64, H33, H83⟩, (show (loadN bs).1 - (i + 1) < (loadN bs).1 - i from by omega)⟩
   ·rw [h78]
    have p91 : (((((R.bytes).2).int.2).bytes).1 == ([] : List UInt8)) = true := (bnot_false h78)
    refine og 8 [(0, (Value.slice P bs.length pc)), (2, (Value.pointer none)), (3, (i64 0)), (4, (ptr b1)), (5, (ptr b12)), (6, (i64 ev)), (7, (ptr b43)), (8, (Value.string (str ((((R.bytes).2).int.2).bytes).1))), (14, (i64 ((((⟨bs, 0, 0⟩ : Rdr).sized 200).1 : Nat) : Int))), (15, (i64 ((i : Nat) : Int))), (16, (Value.bool true)), (40, (Value.bool false))] 16 ?_
    refine od ?_
    refine q_else (o := .tmp 40) (by kernel_rfl) rfl ?_
    refine q_skip (by kernel_rfl) ?_
    refine qg ?_
    refine og 1 [(0, (Value.slice P bs.length pc)), (2, (Value.pointer none)), (3, (i64 0)), (4, (ptr b1)), (5, (ptr b12)), (6, (i64 ev)), (7, (ptr b43)), (8, (Value.string (str ((((R.bytes).2).int.2).bytes).1))), (14, (i64 ((((⟨bs, 0, 0⟩ : Rdr).sized 200).1 : Nat) : Int))), (15, (i64 ((i : Nat) : Int))), (16, (Value.bool true)), (40, (Value.bool false)), (41, (i64 (IntKind.i64.wrap (((i : Nat) : Int) + 1))))] 1 ?_
    have e92 : IntKind.i64.wrap (((i : Nat) : Int) + 1) = ((i + 1 : Nat) : Int) := by rw [wrap_i64 (by omega) (by omega)]; omega
    rw [e92]
    clear e92
    refine og 1 [(0, (Value.slice P bs.length pc)), (2, (Value.pointer none)), (3, (i64 0)), (4, (ptr b1)), (5, (ptr b12)), (6, (i64 ev)), (7, (ptr b43)), (8, (Value.string (str ((((R.bytes).2).int.2).bytes).1))), (14, (i64 ((((⟨bs, 0, 0⟩ : Rdr).sized 200).1 : Nat) : Int))), (15, (i64 ((i + 1 : Nat) : Int))), (16, (Value.bool true)), (40, (Value.bool false))] 2 ?_
    have hby : (R.bytes.2.int.2.bytes).1 = [] := by have h := (bnot_false h78); simpa using h
    have hstep : loadStep (R, SS, ev) = (((((R.bytes).2).int.2).bytes).2, putS SS ((R.bytes).1) (((R.bytes).2).int.1), ev) := by unfold loadStep; simp only; rw [if_neg (fun q => q.2 hby), if_neg (by rintro (q | q); (omega); (exact q.1 hby))]
    refine Ops.keep (R := [(0, (Value.slice P bs.length pc)), (2, (Value.pointer none)), (3, (i64 0)), (4, (ptr b1)), (5, (ptr b12)), (6, (i64 ev)), (14, (i64 ((((⟨bs, 0, 0⟩ : Rdr).sized 200).1 : Nat) : Int))), (15, (i64 ((i + 1 : Nat) : Int)))]) (by kernel_rfl) ?_
    refine od ?_
    have hby : (R.bytes.2.int.2.bytes).1 = [] := by have h := (bnot_false h78); simpa using h
    have hstep : loadStep (R, SS, ev) = (((((R.bytes).2).int.2).bytes).2, putS SS ((R.bytes).1) (((R.bytes).2).int.1), ev) := by unfold loadStep; simp only; rw [if_neg (fun q => q.2 hby), if_neg (by rintro (q | q); (omega); (exact q.1 hby))]
    exact ⟨(i + 1, ((((R.bytes).2).int.2).bytes).2, ev, m68, putS SS ((R.bytes).1) (((R.bytes).2).int.1)), ⟨rfl, F67, hok65, (by omega), (by omega), (by rw [← hF, loadR_step (n := (loadN bs).1) (i := i) (by omega), hstep]), hB72, K31, H64, H33, H71⟩, (show (loadN bs).1 - (i + 1) < (loadN bs).1 - i from by omega)⟩
 ·rw [h35]
  have p93 : ¬ (((i : Nat) : Int) < ((((⟨bs, 0, 0⟩ : Rdr).sized 200).1 : Nat) : Int)) := of_decide_eq_false h35
  refine q_exit (id := 0) (by kernel_rfl) ?_
  refine qs ?_
  refine qs ?_
  refine qg ?_
  refine og 1 [(0, (Value.slice P bs.length pc)), (2, (Value.pointer none)), (3, (i64 0)), (5, (ptr b12)), (6, (i64 ev)), (42, (ptr b1))] 1 ?_
  refine Ops.call (by kernel_rfl) (d := (some 43)) (by kernel_rfl) (RdEnd_calls _ b1 A2 c3 R hokR H32 hRdA2 hne9) ?_
  rintro _ w94 ⟨rfl, K95⟩
  refine ⟨_, _, rfl, rfl, ?_⟩
  replace K31 := K31.trans K95 (U := none_) (fun i h1 h2 => h2) (fun i h1 h2 => by exact h2)
  replace H32 := H32.keep K95 (fun h => h)
  replace H33 := H33.keep K95 (fun h => h)
  replace H34 := H34.keep K95 (fun h => h)
  replace hRdA2 := RdO.keep0 hRdA2 K95
  clear K95
  refine og 1 [(0, (Value.slice P bs.length pc)), (2, (Value.pointer none)), (3, (i64 0)), (5, (ptr b12)), (6, (i64 ev)), (9, (i64 R.end_))] 3 ?_
  refine od ?_
  refine qs ?_
  refine qg ?_
  refine og 2 [(0, (Value.slice P bs.length pc)), (2, (Value.pointer none)), (3, (i64 0)), (5, (ptr b12)), (6, (i64 ev)), (9, (i64 R.end_)), (45, (Value.bool (R.end_ != 0)))] 2 ?_
  refine od ?_
  refine q_cond (o := .tmp 45) (b := (R.end_ != 0)) (by kernel_rfl) rfl (fun h96 => ?_) (fun h96 => ?_)
  ·rw [h96]
   have p97 : ¬ (R.end_ = 0) := of_bne_t h96
   refine qs ?_
   refine qg ?_
   refine og 3 [(0, (Value.slice P bs.length pc)), (2, (Value.pointer none)), (3, (i64 R.end_)), (5, (ptr b12)), (6, (i64 ev))] 3 ?_
   refine od ?_
   refine q_ret (by kernel_rfl) ?_
   refine ⟨(Value.tuple #[(Value.pointer none), (i64 R.end_)]), retv_tmp2 rfl rfl rfl, ?_⟩
   have hz : (loadN bs).1 - i = 0 := by omega
   rw [hz] at hF
   have hE : loadE bs = (R, SS, ev) := hF.symm
   have hX : loadX bs = R.end_ := by unfold loadX; rw [hE, if_pos (show R.end_ ≠ 0 from by omega)]
   exact ⟨_, R.end_, rfl, K31, .inl ⟨by omega, rfl, hX.symm⟩⟩
  ·rw [h96]
   have p98 : R.end_ = 0 := of_bne_f h96
   refine q_skip (by kernel_rfl) ?_
   refine qs ?_
   refine qs ?_
   refine q_draw (fun wz => Keeps none_ w94 wz) 10 (by kernel_rfl) (by kernel_rfl) (by kernel_rfl) (fun w99 K100 _ _ => ⟨K100, ?_⟩)
   replace K31 := K31.trans K100 (U := none_) (fun i h1 h2 => h2) (fun i h1 h2 => by exact h2)
   replace H32 := H32.keep K100 (fun h => h)
   replace H33 := H33.keep K100 (fun h => h)
   replace H34 := H34.keep K100 (fun h => h)
   replace hRdA2 := RdO.keep0 hRdA2 K100
   refine Dr.strong (S' := (fun wz => Keeps none_ w99 wz)) (Keeps.refl w99) (fun wz hx => K100.trans hx (fun i _ h => h) (fun _ _ h => h)) ?_
   clear K100
   refine Dr.takes (fuel' := 7) (is' := [2, 1, 0]) [0, 1, 2] [(0, (Value.slice P bs.length pc)), (2, (Value.pointer none)), (3, (i64 0)), (5, (ptr b12)), (49, (Value.bool (ev != 0)))] (by kernel_rfl) rfl (by kernel_rfl) ?_
   refine Dr.split (ev != 0) (fun h101 => ?_) (fun h101 => ?_)
   ·rw [h101]
    have p102 : ¬ (ev = 0) := of_bne_t h101
    refine Dr.takes (fuel' := 0) (is' := [9, 8, 7, 6, 5, 4, 3, 2, 1, 0]) [3, 4, 5, 6, 7, 8, 9] [(2, (Value.pointer none)), (3, (i64 0)), (5, (ptr b12)), (56, (Value.bool true))] (by kernel_rfl) rfl (by kernel_rfl) ?_
    refine Dr.done (by kernel_rfl) ?_
    refine q_then (o := .tmp 56) (by kernel_rfl) rfl ?_
    refine qs ?_
    refine qg ?_
    refine og 2 [(2, (Value.pointer none)), (3, (i64 11)), (5, (ptr b12))] 2 ?_
    refine od ?_
    refine q_ret (by kernel_rfl) ?_
    refine ⟨(Value.tuple #[(Value.pointer none), (i64 11)]), retv_tmp2 rfl rfl rfl, ?_⟩
    have hz : (loadN bs).1 - i = 0 := by omega
    rw [hz] at hF
    have hE : loadE bs = (R, SS, ev) := hF.symm
    have hX : loadX bs = 11 := by unfold loadX; rw [hE, if_neg (fun q => q (by omega)), if_pos (.inl (by omega))]
    exact ⟨_, 11, rfl, K31, .inl ⟨by omega, rfl, hX.symm⟩⟩
   ·rw [h101]
    have p103 : ev = 0 := of_bne_f h101
    refine Dr.takes (fuel' := 5) (is' := [6, 3, 2, 1, 0]) [3, 6] [(2, (Value.pointer none)), (3, (i64 0)), (5, (ptr b12)), (49, (Value.bool false)), (50, (ptr b12)), (53, (Value.slice P bs.length pc))] (by kernel_rfl) rfl (by kernel_rfl) ?_
    refine Dr.take (i := 7) (v := (Value.string (str bs))) (by kernel_rfl) (by kernel_rfl) (fun wz hS => Runs.b2s (s := 22) (d := 9) (e := 5) (by kernel_rfl) (by kernel_rfl) (by kernel_rfl) (Rd.keep0 (by omega) (hP.keep0 (by omega) K31) hS)) (d := (some 54)) (by kernel_rfl) rfl ?_
    refine Dr.call (i := 4) (by kernel_rfl) (by kernel_rfl) (d := (some 51)) (by kernel_rfl) (fun _ => Bytes_calls _ b12 mb13 mm SS H33 H34 (by omega) hBm) ?_
    rintro _ w105 ⟨v104, rfl, K106, hO107⟩
    have ob109 : ∀ i, (v104).ownBlock = some i → i ≠ b1 := fun i hi => by have := (World.ownsRow.lt hO107 i hi).1; have := H32.lt; omega
    have ob110 : ∀ i, (v104).ownBlock = some i → i ≠ b12 := fun i hi => by have := (World.ownsRow.lt hO107 i hi).1; have := H33.lt; omega
    have ob111 : ∀ i, (v104).ownBlock = some i → i ≠ mb13 := fun i hi => by have := (World.ownsRow.lt hO107 i hi).1; have := H34.lt; omega
    have oo112 : ∀ i o s, A2 = some ⟨i, o, s⟩ → (v104).ownBlock = some i → False := fun i o s hi hs => by have := (World.ownsRow.lt hO107 i hs).1; have := hRdA2.2 i o s hi; omega
    have O108 := own_base hO107 K31.size
    clear hO107
    replace K31 := K31.trans K106 (U := none_) (fun i h1 h2 => h2) (fun i h1 h2 => by exact h2)
    replace H32 := H32.keep K106 (fun h => h)
    replace H33 := H33.keep K106 (fun h => h)
    replace H34 := H34.keep K106 (fun h => h)
    replace hRdA2 := RdO.keep0 hRdA2 K106
    refine ⟨_, _, rfl, rfl, K106, ?_⟩
    refine Dr.strong (S' := (fun wz => Keeps none_ w105 wz)) (Keeps.refl w105) (fun wz hx => K106.trans hx (fun i _ h => h) (fun _ _ h => h)) ?_
    clear K106
    refine Dr.take (i := 5) (v := (Value.string (str (bookB SS)))) (by kernel_rfl) (by kernel_rfl) (fun wz hS => Runs.b2s (s := 22) (d := 9) (e := 5) (by kernel_rfl) (by kernel_rfl) (by kernel_rfl) (Rd.keep0 (by omega) (OwnB.rd O108) hS)) (d := (some 52)) (by kernel_rfl) rfl ?_
    refine Dr.take (i := 8) (v := (Value.bool (!((bookB SS) == bs)))) (by kernel_rfl) (by kernel_rfl) (fun wz hS => Runs.strne (t := 9) (by kernel_rfl)) (d := (some 55)) (by kernel_rfl) rfl ?_
    refine Dr.takes (fuel' := 0) (is' := [9, 8, 5, 4, 7, 6, 3, 2, 1, 0]) [9] [(2, (Value.pointer none)), (3, (i64 0)), (5, (ptr b12)), (56, (Value.bool (!((bookB SS) == bs))))] (by kernel_rfl) rfl (by kernel_rfl) ?_
    refine Dr.done (by kernel_rfl) ?_
    refine q_cond (o := .tmp 56) (b := (!((bookB SS) == bs))) (by kernel_rfl) rfl (fun h114 => ?_) (fun h114 => ?_)
    ·rw [h114]
     have p115 : ((bookB SS) == bs) = false := (bnot_true h114)
     refine qs ?_
     refine qg ?_
     refine og 2 [(2, (Value.pointer none)), (3, (i64 11)), (5, (ptr b12))] 2 ?_
     refine od ?_
     refine q_ret (by kernel_rfl) ?_
     refine ⟨(Value.tuple #[(Value.pointer none), (i64 11)]), retv_tmp2 rfl rfl rfl, ?_⟩
     have hz : (loadN bs).1 - i = 0 := by omega
     rw [hz] at hF
     have hE : loadE bs = (R, SS, ev) := hF.symm
     have hX : loadX bs = 11 := by unfold loadX; rw [hE, if_neg (fun q => q (by omega)), if_pos (.inr (beq_false_ne (bnot_true h114)))]
     exact ⟨_, 11, rfl, K31, .inl ⟨by omega, rfl, hX.symm⟩⟩
    ·rw [h114]
     have p116 : ((bookB SS) == bs) = true := (bnot_false h114)
     refine q_skip (by kernel_rfl) ?_
     refine qs ?_
     refine qg ?_
     refine og 3 [(2, (ptr b12)), (3, (i64 0))] 3 ?_
     refine od ?_
     refine q_ret (by kernel_rfl) ?_
     refine ⟨(Value.tuple #[(ptr b12), (i64 0)]), retv_tmp2 rfl rfl rfl, ?_⟩
     have hz : (loadN bs).1 - i = 0 := by omega
     rw [hz] at hF
     have hE : loadE bs = (R, SS, ev) := hF.symm
     have hX : loadX bs = 0 := by unfold loadX; rw [hE, if_neg (fun q => q (by omega)), if_neg (by rintro (q | q); (exact q (by omega)); (exact q (beq_true_eq (bnot_false h114))))]
     exact ⟨_, 0, rfl, K31, .inr ⟨rfl, hX, b12, mb13, _, rfl, H33, H34, by rw [hE]; exact hBm, nb12, nmb13, by omega⟩⟩

theorem Load_good (w : World) (P : Option Addr) (pc : Nat) (bs : List UInt8) (T : List AccM) (hT : Accs T) (hbs : bs = bookB T) (hP : RdB w (.slice P bs.length pc) bs) (hbl : bs.length ≤ 140737488351232) : Calls Tryz.prog 6 ⟨[.slice P bs.length pc]⟩ w (fun e w' => ∃ b mb m, e = .returned (.tuple #[ptr b, i64 0]) ∧ Keeps none_ w w' ∧ Has w' b (rowL [.map (some mb)] 66) ∧ HasMap w' mb kstr accv m ∧ Book m T ∧ w.heap.size ≤ b ∧ w.heap.size ≤ mb ∧ b ≠ mb) := by
 refine (Load_calls w P pc bs hP hbl).mono ?_
 rintro e w' ⟨v, er, rfl, hk, ⟨h1, _, h3⟩ | ⟨rfl, _, b, mb, m, rfl, h4, h5, h6, h7⟩⟩
 ·exact absurd (by rw [h3, hbs]; exact loadX_good hT) h1
 ·rw [hbs, (load_back hT).2.1] at h6
  exact ⟨b, mb, m, rfl, hk, h4, h5, h6, h7⟩
end Go.Proofs.YtooginpgclcldaaGreatDoor
