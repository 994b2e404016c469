/- the reference's book as bytes -/
import Derived.Test.YtooginpgclcldaaGreatDoorProg
import Derived.Test.YtooginpgclcldaaGreatDoorRA
import Derived.Test.YtooginpgclcldaaGreatDoorKH
import Derived.Test.YtooginpgclcldaaGreatDoorKI
import Derived.Test.YtooginpgclcldaaGreatDoorLX
set_option linter.unusedVariables false
namespace Go.Proofs.YtooginpgclcldaaGreatDoor
open Go.Q Go.RowKit

theorem RText_calls (w : World) (v : Value) (xs : List UInt8) (ss : List UInt8) (hv : RdB w v xs) (hs : ss.length ≤ 70368744173568) (hl : xs.length ≤ 70368744173568) : Calls Tryz.prog 94 ⟨[v, (Value.string (str ss))]⟩ w (fun e w' => ∃ v', e = .returned v' ∧ Keeps none_ w w' ∧ OwnB w' w.heap.size 5 v' (xs ++ tv ss)) := by
 have K0 : Keeps none_ w w := Keeps.refl w
 refine q_calls Tryz.func94 (by kernel_rfl) (by kernel_rfl) ?_
 refine qs ?_
 refine qg ?_
 refine og 1 [(0, v), (1, (Value.string (str ss))), (4, (Value.slice none 0 0))] 1 ?_
 refine od ?_
 refine qs ?_
 refine qg ?_
 refine og 2 [(4, (Value.slice none 0 0)), (5, v), (6, (Value.string (str ss)))] 2 ?_
 obtain ⟨A1, c2, w3, hr4, K5, F6, hge7⟩ := run_s2b (P := Tryz.prog) (w := w) (src := 9) (dst := 22) (e := 5) (ss := ss) (by kernel_rfl) (by kernel_rfl) (by first | omega | decide)
 refine Ops.go (v := (Value.slice A1 ss.length c2)) (by kernel_rfl) (Runs.conv (by kernel_rfl) hr4) (d := (some 7)) (by kernel_rfl) rfl ?_
 replace K0 := K0.t0 K5
 clear K5 hr4 hge7
 refine Ops.call (by kernel_rfl) (d := (some 8)) (by kernel_rfl) (RBytesW_calls _ v xs A1 c2 ss (hv.keep0 (by omega) K0) F6 (by first | omega | decide) (by (try simp only at *); (try simp only [List.length_append] at *); (try simp only [List.length_cons] at *); (try simp only [List.length_nil] at *); omega)) ?_
 rintro _ w11 ⟨v10, rfl, K12, hO13⟩
 have O14 := own_base hO13 K0.size
 clear hO13
 have hL8 := tv_ge ss
 have hL9 := tv_le (s := ss) (by first | omega | decide)
 refine ⟨_, _, rfl, rfl, ?_⟩
 replace K0 := K0.t0 K12
 replace F6 := (Rd.keep0 (by omega) F6 K12)
 clear K12
 refine og 1 [(4, v10)] 5 ?_
 refine od ?_
 refine q_ret (by kernel_rfl) ?_
 refine ⟨v10, retv_tmp rfl rfl, ?_⟩
 exact ⟨_, rfl, K0, O14⟩

theorem RTo_calls (w : World) (r : Nat) (A : Option Addr) (c : Nat) (S : List AccM) (v : Value) (xs : List UInt8) (Hr : Has w r (rowL [.slice A S.length c] 43)) (hR : RdT w 3 AccM.cells (.slice A S.length c) S) (hS : Accs S) (hv : RdB w v xs) (hxl : xs.length ≤ 1000000) : Calls Tryz.prog 77 ⟨[(ptr r), v]⟩ w (fun e w' => ∃ v', e = .returned v' ∧ Keeps none_ w w' ∧ OwnB w' w.heap.size 5 v' (xs ++ bookB S)) := by
 have Hrl := Hr.lt
 have hcap := RdT.len AccM.three (by decide) hR
 unfold maxLen at hcap
 have hSl := hS.len
 have K0 : Keeps none_ w w := Keeps.refl w
 refine q_calls Tryz.func77 (by kernel_rfl) (by kernel_rfl) ?_
 refine qs ?_
 refine qg ?_
 refine og 1 [(0, (ptr r)), (1, v), (4, (Value.slice none 0 0))] 1 ?_
 refine od ?_
 refine qs ?_
 refine qg ?_
 refine og 4 [(0, (ptr r)), (1, v), (4, (Value.slice none 0 0)), (6, v), (9, (ptr r))] 4 ?_
 refine Ops.go (v := (Value.slice A S.length c)) (by kernel_rfl) (Runs.load (t := 41) (a := ⟨r, 0, none⟩) (by kernel_rfl) (Hr.loads (by kernel_rfl))) (d := (some 10)) (by kernel_rfl) rfl ?_
 refine og 2 [(0, (ptr r)), (1, v), (4, (Value.slice none 0 0)), (6, v), (12, (Value.int IntKind.u64 (IntKind.u64.wrap (((S.length : Nat) : Int)))))] 7 ?_
 have e1 : IntKind.u64.wrap (((S.length : Nat) : Int)) = ((S.length : Nat) : Int) := wrap_u64 (by omega) (by omega)
 rw [e1]
 refine Ops.call (by kernel_rfl) (d := (some 13)) (by kernel_rfl) (RUint_calls _ v xs S.length (hv.keep0 (by omega) K0) (by omega) (by (try simp only at *); (try simp only [List.length_append] at *); (try simp only [List.length_cons] at *); (try simp only [List.length_nil] at *); omega)) ?_
 rintro _ w4 ⟨v3, rfl, K5, hO6⟩
 have ob8 : ∀ i, (v3).ownBlock = some i → i ≠ r := fun i hi => by have := (World.ownsRow.lt hO6 i hi).1; have := Hr.lt; omega
 have O7 := own_base hO6 K0.size
 clear hO6
 have hL2 := uv_length_10 (n := S.length) (by omega)
 refine ⟨_, _, rfl, rfl, ?_⟩
 replace K0 := K0.t0 K5
 replace Hr := Hr.keep K5 (fun h => h)
 clear K5
 refine og 1 [(0, (ptr r)), (1, v3), (4, (Value.slice none 0 0))] 9 ?_
 refine od ?_
 refine qs ?_
 refine qs ?_
 refine qg ?_
 refine og 1 [(0, (ptr r)), (1, v3), (4, (Value.slice none 0 0)), (5, (i64 0))] 1 ?_
 refine od ?_
 refine q_block (id := 0) (by kernel_rfl) ?_
 refine q_keep (R := [(0, (ptr r)), (1, v3), (4, (Value.slice none 0 0)), (5, (i64 0))]) (by kernel_rfl) ?_
 refine q_loop (fun (gs : Value × Nat × (List UInt8)) L (wx : World) => match gs with | (v2, i, ys) => L = [(0, (ptr r)), (1, v2), (4, (Value.slice none 0 0)), (5, (i64 ((i : Nat) : Int)))] ∧ OwnB wx w.heap.size 5 v2 ys ∧ (∀ i, (v2).ownBlock = some i → i ≠ r) ∧ i ≤ S.length ∧ ys = xs ++ (uv S.length ++ (S.take i).flatMap accB) ∧ ys.length ≤ xs.length + 10 + i * 65600 ∧ Keeps none_ w wx ∧ Has wx r (rowL [(Value.slice A S.length c)] 43)) (fun (gs : Value × Nat × (List UInt8)) => match gs with | (v2, i, ys) => S.length - i) (v3, 0, xs ++ uv S.length) (by kernel_rfl) ⟨rfl, O7, ob8, Nat.zero_le _, (by simp), (by (try simp only [List.length_append]); have := uv_length_10 (n := S.length) (by omega); omega), K0, Hr⟩ ?_
 clear Hr O7 K0
 rintro ⟨v2, i, ys⟩ _ w9 ⟨rfl, hOV, obVr, hi, hE, hyL, K10, H11⟩
 have hyl : ys.length ≤ xs.length + 10 + i * 65600 := hyL
 refine qs ?_
 refine qs ?_
 refine qg ?_
 refine og 4 [(0, (ptr r)), (1, v2), (4, (Value.slice none 0 0)), (5, (i64 ((i : Nat) : Int))), (14, (i64 ((i : Nat) : Int))), (17, (ptr r))] 4 ?_
 refine Ops.go (v := (Value.slice A S.length c)) (by kernel_rfl) (Runs.load (t := 41) (a := ⟨r, 0, none⟩) (by kernel_rfl) (H11.loads (by kernel_rfl))) (d := (some 18)) (by kernel_rfl) rfl ?_
 refine og 2 [(0, (ptr r)), (1, v2), (4, (Value.slice none 0 0)), (5, (i64 ((i : Nat) : Int))), (20, (Value.bool (decide (((i : Nat) : Int) < ((S.length : Nat) : Int)))))] 7 ?_
 refine od ?_
 refine q_cond (o := .tmp 20) (b := (decide (((i : Nat) : Int) < ((S.length : Nat) : Int)))) (by kernel_rfl) rfl (fun h12 => ?_) (fun h12 => ?_)
 ·rw [h12]
  have p13 : ((i : Nat) : Int) < ((S.length : Nat) : Int) := of_decide_eq_true h12
  obtain ⟨a, ha⟩ : ∃ y, S[i]? = some y := ⟨_, List.getElem?_eq_getElem (by omega)⟩
  have hao := hS.ok a (List.mem_of_getElem? ha)
  have hal := hao.len
  have hol := hao.own
  have ha1 := hao.lo
  have ha2 := hao.hi
  have hbt := accB_take ha
  have hin := iv_length_10 (n := a.amt) (by omega)
  have htn := tv_le3 (s := a.name) (by omega)
  have hto := tv_le3 (s := a.own) (by omega)
  obtain ⟨rb14, ro15, hA16⟩ := Rd.addr (Rd.keep0 (by decide) hR K10) (by omega)
  refine q_skip (by kernel_rfl) ?_
  refine qs ?_
  refine q_block (id := 1) (by kernel_rfl) ?_
  refine qs ?_
  refine qg ?_
  refine og 4 [(0, (ptr r)), (1, v2), (4, (Value.slice none 0 0)), (5, (i64 ((i : Nat) : Int))), (20, (Value.bool true)), (23, v2), (26, (ptr r))] 4 ?_
  refine Ops.go (v := (Value.slice A S.length c)) (by kernel_rfl) (Runs.load (t := 41) (a := ⟨r, 0, none⟩) (by kernel_rfl) (H11.loads (by kernel_rfl))) (d := (some 27)) (by kernel_rfl) rfl ?_
  refine og 1 [(0, (ptr r)), (1, v2), (4, (Value.slice none 0 0)), (5, (i64 ((i : Nat) : Int))), (20, (Value.bool true)), (23, v2), (27, (Value.slice A S.length c)), (28, (i64 ((i : Nat) : Int)))] 6 ?_
  refine Ops.go (by kernel_rfl) (Runs.ixSliceE (k := IntKind.i64) (t := 41) (len := S.length) (cap := c) (s := 3) (off' := ro15 + i * 3) (i := ((i : Nat) : Int)) hA16 (by kernel_rfl) (by kernel_rfl) (by omega) (by omega) (by omega)) (d := (some 29)) (by kernel_rfl) rfl ?_
  refine og 1 [(0, (ptr r)), (1, v2), (4, (Value.slice none 0 0)), (5, (i64 ((i : Nat) : Int))), (20, (Value.bool true)), (23, v2), (30, (Value.pointer (some ⟨rb14, ro15 + i * 3, none⟩)))] 8 ?_
  refine Ops.go (v := (Value.string (str a.name))) (by kernel_rfl) (Runs.load (t := 9) (a := ⟨rb14, ro15 + i * 3, none⟩) (by kernel_rfl) (RdT.ldf (f := AccM.cells) (x := a) (o := 0) AccM.three (Rd.keep0 (by decide) hR K10) (by kernel_rfl) hA16 ha rfl)) (d := (some 31)) (by kernel_rfl) rfl ?_
  refine Ops.call (by kernel_rfl) (d := (some 32)) (by kernel_rfl) (RText_calls _ (Value.slice none 0 0) [] a.name (Rd.nil _ _) (by first | omega | decide) (by (try simp only at *); (try simp only [List.length_append] at *); (try simp only [List.length_cons] at *); (try simp only [List.length_nil] at *); omega)) ?_
  rintro _ w20 ⟨v19, rfl, K21, hO22⟩
  have ob24 : ∀ i, (v19).ownBlock = some i → i ≠ r := fun i hi => by have := (World.ownsRow.lt hO22 i hi).1; have := H11.lt; omega
  have oo25 : ∀ i, (v2).ownBlock = some i → (v19).ownBlock = some i → False := fun i hi hs => by have := (World.ownsRow.lt hO22 i hs).1; have := (World.ownsRow.lt hOV i hi).2; omega
  have oo26 : ∀ i, (v19).ownBlock = some i → (v2).ownBlock = some i → False := fun i hi hs => oo25 i hs hi
  have O23 : OwnB w20 w.heap.size _ v19 (tv a.name) := own_base hO22 K10.size
  clear hO22
  have hL17 := tv_ge a.name
  have hL18 := tv_le (s := a.name) (by first | omega | decide)
  refine ⟨_, _, rfl, rfl, ?_⟩
  replace K10 := K10.trans K21 (U := none_) (fun i h1 h2 => h2) (fun i h1 h2 => by exact h2)
  replace H11 := H11.keep K21 (fun h => h)
  replace hOV := own_keep0 hOV K21
  clear K21
  obtain ⟨v27, w28, hr29, hO30, K31, hg32⟩ := OwnB.app2 (ty := 22) tyB hOV (OwnB.rd O23) (by (try simp only [List.length_append]); (try simp only [List.length_nil]); omega) K10.size
  obtain ⟨A34, c35, hf33⟩ := RdB.form (OwnB.rd hO30)
  subst hf33
  have ob36 : ∀ i, ((Value.slice A34 ((ys ++ tv a.name).length) c35)).ownBlock = some i → i ≠ r := fun i hi => by rcases hg32 i hi with h | h; (have := obVr i h; omega); (have := H11.lt; omega)
  have oo37 : ∀ i, (v19).ownBlock = some i → ((Value.slice A34 ((ys ++ tv a.name).length) c35)).ownBlock = some i → False := fun i hi hs => by rcases hg32 i hs with h | h; (exact oo26 i hi h); (have := (World.ownsRow.lt O23 i hi).2; omega)
  have oo38 : ∀ i, ((Value.slice A34 ((ys ++ tv a.name).length) c35)).ownBlock = some i → (v19).ownBlock = some i → False := fun i hi hs => oo37 i hs hi
  refine Ops.go (v := (Value.slice A34 ((ys ++ tv a.name).length) c35)) (by kernel_rfl) (Runs.append (ts := #[22, 22]) (ty := 22) (vs := [v2, v19]) (by kernel_rfl) hr29) (d := (some 33)) (by kernel_rfl) rfl ?_
  replace K10 := K10.trans K31 (U := none_) (fun i h1 h2 => h2) (fun i h1 h2 => by have h2 : (v2).ownBlock = some i := h2; exfalso; have := (World.ownsRow.lt hOV i h2).1; omega)
  replace H11 := H11.keep K31 (by intro h; change (v2).ownBlock = some r at h; have := obVr r h; omega)
  clear hOV
  replace O23 := own_keep O23 K31 (fun i hi hs => by have hs : (v2).ownBlock = some i := hs; exact oo26 i hi hs)
  clear K31 hr29 hg32
  refine og 1 [(0, (ptr r)), (1, (Value.slice A34 ((ys ++ tv a.name).length) c35)), (4, (Value.slice none 0 0)), (5, (i64 ((i : Nat) : Int))), (20, (Value.bool true))] 12 ?_
  refine od ?_
  refine qs ?_
  refine qg ?_
  refine og 4 [(0, (ptr r)), (1, (Value.slice A34 ((ys ++ tv a.name).length) c35)), (4, (Value.slice none 0 0)), (5, (i64 ((i : Nat) : Int))), (20, (Value.bool true)), (34, (Value.slice A34 ((ys ++ tv a.name).length) c35)), (37, (ptr r))] 4 ?_
  refine Ops.go (v := (Value.slice A S.length c)) (by kernel_rfl) (Runs.load (t := 41) (a := ⟨r, 0, none⟩) (by kernel_rfl) (H11.loads (by kernel_rfl))) (d := (some 38)) (by kernel_rfl) rfl ?_
  refine og 1 [(0, (ptr r)), (1, (Value.slice A34 ((ys ++ tv a.name).length) c35)), (4, (Value.slice none 0 0)), (5, (i64 ((i : Nat) : Int))), (20, (Value.bool true)), (34, (Value.slice A34 ((ys ++ tv a.name).length) c35)), (38, (Value.slice A S.length c)), (39, (i64 ((i : Nat) : Int)))] 6 ?_
  refine Ops.go (by kernel_rfl) (Runs.ixSliceE (k := IntKind.i64) (t := 41) (len := S.length) (cap := c) (s := 3) (off' := ro15 + i * 3) (i := ((i : Nat) : Int)) hA16 (by kernel_rfl) (by kernel_rfl) (by omega) (by omega) (by omega)) (d := (some 40)) (by kernel_rfl) rfl ?_
  refine og 1 [(0, (ptr r)), (1, (Value.slice A34 ((ys ++ tv a.name).length) c35)), (4, (Value.slice none 0 0)), (5, (i64 ((i : Nat) : Int))), (20, (Value.bool true)), (34, (Value.slice A34 ((ys ++ tv a.name).length) c35)), (41, (Value.pointer (some ⟨rb14, ro15 + i * 3 + 1, none⟩)))] 8 ?_
  refine Ops.go (v := (i64 a.amt)) (by kernel_rfl) (Runs.load (t := 2) (a := ⟨rb14, ro15 + i * 3 + 1, none⟩) (by kernel_rfl) (RdT.ldf (f := AccM.cells) (x := a) (o := 1) AccM.three (Rd.keep0 (by decide) hR K10) (by kernel_rfl) hA16 ha rfl)) (d := (some 42)) (by kernel_rfl) rfl ?_
  refine Ops.call (by kernel_rfl) (d := (some 43)) (by kernel_rfl) (RInt_calls _ (Value.slice none 0 0) [] a.amt (Rd.nil _ _) (by omega) (by (try simp only at *); (try simp only [List.length_append] at *); (try simp only [List.length_cons] at *); (try simp only [List.length_nil] at *); omega)) ?_
  rintro _ w41 ⟨v40, rfl, K42, hO43⟩
  have ob45 : ∀ i, (v40).ownBlock = some i → i ≠ r := fun i hi => by have := (World.ownsRow.lt hO43 i hi).1; have := H11.lt; omega
  have oo46 : ∀ i, (v19).ownBlock = some i → (v40).ownBlock = some i → False := fun i hi hs => by have := (World.ownsRow.lt hO43 i hs).1; have := (World.ownsRow.lt O23 i hi).2; omega
  have oo47 : ∀ i, (v40).ownBlock = some i → (v19).ownBlock = some i → False := fun i hi hs => oo46 i hs hi
  have oo48 : ∀ i, ((Value.slice A34 ((ys ++ tv a.name).length) c35)).ownBlock = some i → (v40).ownBlock = some i → False := fun i hi hs => by have := (World.ownsRow.lt hO43 i hs).1; have := (World.ownsRow.lt hO30 i hi).2; omega
  have oo49 : ∀ i, (v40).ownBlock = some i → ((Value.slice A34 ((ys ++ tv a.name).length) c35)).ownBlock = some i → False := fun i hi hs => oo48 i hs hi
  have O44 : OwnB w41 w.heap.size _ v40 (iv a.amt) := own_base hO43 K10.size
  clear hO43
  have hL39 := iv_length_10 (n := a.amt) (by omega)
  refine ⟨_, _, rfl, rfl, ?_⟩
  replace K10 := K10.trans K42 (U := none_) (fun i h1 h2 => h2) (fun i h1 h2 => by exact h2)
  replace H11 := H11.keep K42 (fun h => h)
  replace O23 := own_keep0 O23 K42
  replace hO30 := own_keep0 hO30 K42
  clear K42
  obtain ⟨v50, w51, hr52, hO53, K54, hg55⟩ := OwnB.app2 (ty := 22) tyB hO30 (OwnB.rd O44) (by (try simp only [List.length_append]); (try simp only [List.length_nil]); omega) K10.size
  obtain ⟨A57, c58, hf56⟩ := RdB.form (OwnB.rd hO53)
  subst hf56
  have ob59 : ∀ i, ((Value.slice A57 ((ys ++ tv a.name ++ iv a.amt).length) c58)).ownBlock = some i → i ≠ r := fun i hi => by rcases hg55 i hi with h | h; (have := ob36 i h; omega); (have := H11.lt; omega)
  have oo60 : ∀ i, (v19).ownBlock = some i → ((Value.slice A57 ((ys ++ tv a.name ++ iv a.amt).length) c58)).ownBlock = some i → False := fun i hi hs => by rcases hg55 i hs with h | h; (exact oo37 i hi h); (have := (World.ownsRow.lt O23 i hi).2; omega)
  have oo61 : ∀ i, ((Value.slice A57 ((ys ++ tv a.name ++ iv a.amt).length) c58)).ownBlock = some i → (v19).ownBlock = some i → False := fun i hi hs => oo60 i hs hi
  have oo62 : ∀ i, (v40).ownBlock = some i → ((Value.slice A57 ((ys ++ tv a.name ++ iv a.amt).length) c58)).ownBlock = some i → False := fun i hi hs => by rcases hg55 i hs with h | h; (exact oo49 i hi h); (have := (World.ownsRow.lt O44 i hi).2; omega)
  have oo63 : ∀ i, ((Value.slice A57 ((ys ++ tv a.name ++ iv a.amt).length) c58)).ownBlock = some i → (v40).ownBlock = some i → False := fun i hi hs => oo62 i hs hi
  refine Ops.go (v := (Value.slice A57 ((ys ++ tv a.name ++ iv a.amt).length) c58)) (by kernel_rfl) (Runs.append (ts := #[22, 22]) (ty := 22) (vs := [(Value.slice A34 ((ys ++ tv a.name).length) c35), v40]) (by kernel_rfl) hr52) (d := (some 44)) (by kernel_rfl) rfl ?_
  replace K10 := K10.trans K54 (U := none_) (fun i h1 h2 => h2) (fun i h1 h2 => by have h2 : ((Value.slice A34 ((ys ++ tv a.name).length) c35)).ownBlock = some i := h2; exfalso; have := (World.ownsRow.lt hO30 i h2).1; omega)
  replace H11 := H11.keep K54 (by intro h; change ((Value.slice A34 ((ys ++ tv a.name).length) c35)).ownBlock = some r at h; have := ob36 r h; omega)
  replace O23 := own_keep O23 K54 (fun i hi hs => by have hs : ((Value.slice A34 ((ys ++ tv a.name).length) c35)).ownBlock = some i := hs; exact oo37 i hi hs)
  clear hO30
  replace O44 := own_keep O44 K54 (fun i hi hs => by have hs : ((Value.slice A34 ((ys ++ tv a.name).length) c35)).ownBlock = some i := hs; exact oo49 i hi hs)
  clear K54 hr52 hg55
  refine og 1 [(0, (ptr r)), (1, (Value.slice A57 ((ys ++ tv a.name ++ iv a.amt).length) c58)), (4, (Value.slice none 0 0)), (5, (i64 ((i : Nat) : Int))), (20, (Value.bool true))] 12 ?_
  refine od ?_
  refine qg ?_
  refine og 4 [(0, (ptr r)), (1, (Value.slice A57 ((ys ++ tv a.name ++ iv a.amt).length) c58)), (4, (Value.slice none 0 0)), (5, (i64 ((i : Nat) : Int))), (20, (Value.bool true)), (45, (Value.slice A57 ((ys ++ tv a.name ++ iv a.amt).length) c58)), (48, (ptr r))] 4 ?_
  refine Ops.go (v := (Value.slice A S.length c)) (by kernel_rfl) (Runs.load (t := 41) (a := ⟨r, 0, none⟩) (by kernel_rfl) (H11.loads (by kernel_rfl))) (d := (some 49)) (by kernel_rfl) rfl ?_
  refine og 1 [(0, (ptr r)), (1, (Value.slice A57 ((ys ++ tv a.name ++ iv a.amt).length) c58)), (4, (Value.slice none 0 0)), (5, (i64 ((i : Nat) : Int))), (20, (Value.bool true)), (45, (Value.slice A57 ((ys ++ tv a.name ++ iv a.amt).length) c58)), (49, (Value.slice A S.length c)), (50, (i64 ((i : Nat) : Int)))] 6 ?_
  refine Ops.go (by kernel_rfl) (Runs.ixSliceE (k := IntKind.i64) (t := 41) (len := S.length) (cap := c) (s := 3) (off' := ro15 + i * 3) (i := ((i : Nat) : Int)) hA16 (by kernel_rfl) (by kernel_rfl) (by omega) (by omega) (by omega)) (d := (some 51)) (by kernel_rfl) rfl ?_
  refine og 1 [(0, (ptr r)), (1, (Value.slice A57 ((ys ++ tv a.name ++ iv a.amt).length) c58)), (4, (Value.slice none 0 0)), (5, (i64 ((i : Nat) : Int))), (20, (Value.bool true)), (45, (Value.slice A57 ((ys ++ tv a.name ++ iv a.amt).length) c58)), (52, (Value.pointer (some ⟨rb14, ro15 + i * 3 + 2, none⟩)))] 8 ?_
  refine Ops.go (v := (Value.string (str a.own))) (by kernel_rfl) (Runs.load (t := 9) (a := ⟨rb14, ro15 + i * 3 + 2, none⟩) (by kernel_rfl) (RdT.ldf (f := AccM.cells) (x := a) (o := 2) AccM.three (Rd.keep0 (by decide) hR K10) (by kernel_rfl) hA16 ha rfl)) (d := (some 53)) (by kernel_rfl) rfl ?_
  refine Ops.call (by kernel_rfl) (d := (some 54)) (by kernel_rfl) (RText_calls _ (Value.slice none 0 0) [] a.own (Rd.nil _ _) (by first | omega | decide) (by (try simp only at *); (try simp only [List.length_append] at *); (try simp only [List.length_cons] at *); (try simp only [List.length_nil] at *); omega)) ?_
  rintro _ w67 ⟨v66, rfl, K68, hO69⟩
  have ob71 : ∀ i, (v66).ownBlock = some i → i ≠ r := fun i hi => by have := (World.ownsRow.lt hO69 i hi).1; have := H11.lt; omega
  have oo72 : ∀ i, (v19).ownBlock = some i → (v66).ownBlock = some i → False := fun i hi hs => by have := (World.ownsRow.lt hO69 i hs).1; have := (World.ownsRow.lt O23 i hi).2; omega
  have oo73 : ∀ i, (v66).ownBlock = some i → (v19).ownBlock = some i → False := fun i hi hs => oo72 i hs hi
  have oo74 : ∀ i, (v40).ownBlock = some i → (v66).ownBlock = some i → False := fun i hi hs => by have := (World.ownsRow.lt hO69 i hs).1; have := (World.ownsRow.lt O44 i hi).2; omega
  have oo75 : ∀ i, (v66).ownBlock = some i → (v40).ownBlock = some i → False := fun i hi hs => oo74 i hs hi
  have oo76 : ∀ i, ((Value.slice A57 ((ys ++ tv a.name ++ iv a.amt).length) c58)).ownBlock = some i → (v66).ownBlock = some i → False := fun i hi hs => by have := (World.ownsRow.lt hO69 i hs).1; have := (World.ownsRow.lt hO53 i hi).2; omega
  have oo77 : ∀ i, (v66).ownBlock = some i → ((Value.slice A57 ((ys ++ tv a.name ++ iv a.amt).length) c58)).ownBlock = some i → False := fun i hi hs => oo76 i hs hi
  have O70 : OwnB w67 w.heap.size _ v66 (tv a.own) := own_base hO69 K10.size
  clear hO69
  have hL64 := tv_ge a.own
  have hL65 := tv_le (s := a.own) (by first | omega | decide)
  refine ⟨_, _, rfl, rfl, ?_⟩
  replace K10 := K10.trans K68 (U := none_) (fun i h1 h2 => h2) (fun i h1 h2 => by exact h2)
  replace H11 := H11.keep K68 (fun h => h)
  replace O23 := own_keep0 O23 K68
  replace O44 := own_keep0 O44 K68
  replace hO53 := own_keep0 hO53 K68
  clear K68
  obtain ⟨v78, w79, hr80, hO81, K82, hg83⟩ := OwnB.app2 (ty := 22) tyB hO53 (OwnB.rd O70) (by (try simp only [List.length_append]); (try simp only [List.length_nil]); omega) K10.size
  obtain ⟨A85, c86, hf84⟩ := RdB.form (OwnB.rd hO81)
  subst hf84
  have ob87 : ∀ i, ((Value.slice A85 ((ys ++ tv a.name ++ iv a.amt ++ tv a.own).length) c86)).ownBlock = some i → i ≠ r := fun i hi => by rcases hg83 i hi with h | h; (have := ob59 i h; omega); (have := H11.lt; omega)
  have oo88 : ∀ i, (v19).ownBlock = some i → ((Value.slice A85 ((ys ++ tv a.name ++ iv a.amt ++ tv a.own).length) c86)).ownBlock = some i → False := fun i hi hs => by rcases hg83 i hs with h | h; (exact oo60 i hi h); (have := (World.ownsRow.lt O23 i hi).2; omega)
  have oo89 : ∀ i, ((Value.slice A85 ((ys ++ tv a.name ++ iv a.amt ++ tv a.own).length) c86)).ownBlock = some i → (v19).ownBlock = some i → False := fun i hi hs => oo88 i hs hi
  have oo90 : ∀ i, (v40).ownBlock = some i → ((Value.slice A85 ((ys ++ tv a.name ++ iv a.amt ++ tv a.own).length) c86)).ownBlock = some i → False := fun i hi hs => by rcases hg83 i hs with h | h; (exact oo62 i hi h); (have := (World.ownsRow.lt O44 i hi).2; omega)
  have oo91 : ∀ i, ((Value.slice A85 ((ys ++ tv a.name ++ iv a.amt ++ tv a.own).length) c86)).ownBlock = some i → (v40).ownBlock = some i → False := fun i hi hs => oo90 i hs hi
  have oo92 : ∀ i, (v66).ownBlock = some i → ((Value.slice A85 ((ys ++ tv a.name ++ iv a.amt ++ tv a.own).length) c86)).ownBlock = some i → False := fun i hi hs => by rcases hg83 i hs with h | h; (exact oo77 i hi h); (have := (World.ownsRow.lt O70 i hi).2; omega)
  have oo93 : ∀ i, ((Value.slice A85 ((ys ++ tv a.name ++ iv a.amt ++ tv a.own).length) c86)).ownBlock = some i → (v66).ownBlock = some i → False := fun i hi hs => oo92 i hs hi
  refine Ops.go (v := (Value.slice A85 ((ys ++ tv a.name ++ iv a.amt ++ tv a.own).length) c86)) (by kernel_rfl) (Runs.append (ts := #[22, 22]) (ty := 22) (vs := [(Value.slice A57 ((ys ++ tv a.name ++ iv a.amt).length) c58), v66]) (by kernel_rfl) hr80) (d := (some 55)) (by kernel_rfl) rfl ?_
  replace K10 := K10.trans K82 (U := none_) (fun i h1 h2 => h2) (fun i h1 h2 => by have h2 : ((Value.slice A57 ((ys ++ tv a.name ++ iv a.amt).length) c58)).ownBlock = some i := h2; exfalso; have := (World.ownsRow.lt hO53 i h2).1; omega)
  replace H11 := H11.keep K82 (by intro h; change ((Value.slice A57 ((ys ++ tv a.name ++ iv a.amt).length) c58)).ownBlock = some r at h; have := ob59 r h; omega)
  replace O23 := own_keep O23 K82 (fun i hi hs => by have hs : ((Value.slice A57 ((ys ++ tv a.name ++ iv a.amt).length) c58)).ownBlock = some i := hs; exact oo60 i hi hs)
  replace O44 := own_keep O44 K82 (fun i hi hs => by have hs : ((Value.slice A57 ((ys ++ tv a.name ++ iv a.amt).length) c58)).ownBlock = some i := hs; exact oo62 i hi hs)
  clear hO53
  replace O70 := own_keep O70 K82 (fun i hi hs => by have hs : ((Value.slice A57 ((ys ++ tv a.name ++ iv a.amt).length) c58)).ownBlock = some i := hs; exact oo77 i hi hs)
  clear K82 hr80 hg83
  refine og 1 [(0, (ptr r)), (1, (Value.slice A85 ((ys ++ tv a.name ++ iv a.amt ++ tv a.own).length) c86)), (4, (Value.slice none 0 0)), (5, (i64 ((i : Nat) : Int))), (20, (Value.bool true))] 12 ?_
  refine od ?_
  refine qg ?_
  refine og 2 [(0, (ptr r)), (1, (Value.slice A85 ((ys ++ tv a.name ++ iv a.amt ++ tv a.own).length) c86)), (4, (Value.slice none 0 0)), (5, (i64 ((i : Nat) : Int))), (20, (Value.bool true)), (22, (i64 (IntKind.i64.wrap (((i : Nat) : Int) + 1))))] 2 ?_
  have e94 : IntKind.i64.wrap (((i : Nat) : Int) + 1) = ((i + 1 : Nat) : Int) := by rw [wrap_i64 (by omega) (by omega)]; omega
  rw [e94]
  clear e94
  refine og 1 [(0, (ptr r)), (1, (Value.slice A85 ((ys ++ tv a.name ++ iv a.amt ++ tv a.own).length) c86)), (4, (Value.slice none 0 0)), (5, (i64 ((i + 1 : Nat) : Int))), (20, (Value.bool true))] 3 ?_
  refine Ops.keep (R := [(0, (ptr r)), (1, (Value.slice A85 ((ys ++ tv a.name ++ iv a.amt ++ tv a.own).length) c86)), (4, (Value.slice none 0 0)), (5, (i64 ((i + 1 : Nat) : Int)))]) (by kernel_rfl) ?_
  refine od ?_
  exact ⟨((Value.slice A85 ((ys ++ tv a.name ++ iv a.amt ++ tv a.own).length) c86), i + 1, ys ++ tv a.name ++ iv a.amt ++ tv a.own), ⟨rfl, hO81, ob87, (by omega), (by rw [hbt, hE]; unfold accB; simp), (by (try simp only [List.length_append]); (try simp only [List.length_nil]); omega), K10, H11⟩, (show S.length - (i + 1) < S.length - i from by omega)⟩
 ·rw [h12]
  have p95 : ¬ (((i : Nat) : Int) < ((S.length : Nat) : Int)) := of_decide_eq_false h12
  refine q_exit (id := 0) (by kernel_rfl) ?_
  refine qs ?_
  refine qg ?_
  refine og 2 [(4, v2)] 2 ?_
  refine od ?_
  refine q_ret (by kernel_rfl) ?_
  refine ⟨v2, retv_tmp rfl rfl, ?_⟩
  have e : ys = xs ++ bookB S := by rw [hE, List.take_of_length_le (by omega)]; rfl
  rw [e] at hOV
  exact ⟨_, rfl, K10, hOV⟩

theorem RBytes_calls (w : World) (r : Nat) (A : Option Addr) (c : Nat) (S : List AccM) (Hr : Has w r (rowL [.slice A S.length c] 43)) (hR : RdT w 3 AccM.cells (.slice A S.length c) S) (hS : Accs S) : Calls Tryz.prog 44 ⟨[(ptr r)]⟩ w (fun e w' => ∃ v', e = .returned v' ∧ Keeps none_ w w' ∧ OwnB w' w.heap.size 5 v' (bookB S)) := by
 have Hrl := Hr.lt
 have hcap := RdT.len AccM.three (by decide) hR
 unfold maxLen at hcap
 have K0 : Keeps none_ w w := Keeps.refl w
 refine q_calls Tryz.func44 (by kernel_rfl) (by kernel_rfl) ?_
 refine qs ?_
 refine qg ?_
 refine og 1 [(0, (ptr r)), (2, (Value.slice none 0 0))] 1 ?_
 refine od ?_
 refine qs ?_
 refine qg ?_
 refine og 1 [(2, (Value.slice none 0 0)), (3, (ptr r))] 1 ?_
 refine Ops.call (by kernel_rfl) (d := (some 4)) (by kernel_rfl) (RTo_calls _ r A c S (.slice none 0 0) [] Hr hR hS (Rd.nil _ _) (by decide)) ?_
 rintro _ w2 ⟨v1, rfl, K3, hO4⟩
 rw [List.nil_append] at hO4
 have ob6 : ∀ i, (v1).ownBlock = some i → i ≠ r := fun i hi => by have := (World.ownsRow.lt hO4 i hi).1; have := Hr.lt; omega
 have O5 := own_base hO4 K0.size
 clear hO4
 refine ⟨_, _, rfl, rfl, ?_⟩
 replace K0 := K0.t0 K3
 replace Hr := Hr.keep K3 (fun h => h)
 replace hR := (Rd.keep0 (by omega) hR K3)
 clear K3
 refine og 1 [(2, v1)] 3 ?_
 refine od ?_
 refine q_ret (by kernel_rfl) ?_
 refine ⟨v1, retv_tmp rfl rfl, ?_⟩
 exact ⟨_, rfl, K0, O5⟩
end Go.Proofs.YtooginpgclcldaaGreatDoor
