/- What the claim stands on, part 17: rules of the walk, contracts of the functions, plain laws. -/
import Derived.Test.YtnbcghbgeiocbaaDoorProg
import Derived.Test.YtnbcghbgeiocbaaDoorKHMore16
import Derived.Test.YtnbcghbgeiocbaaDoorKHMore13
import Derived.Test.YtnbcghbgeiocbaaDoorKHMore8
import Derived.Test.YtnbcghbgeiocbaaDoorKHMore6
import Derived.Test.YtnbcghbgeiocbaaDoorKHMore10
import Derived.Test.YtnbcghbgeiocbaaDoorKHMore11
set_option linter.unusedVariables false
namespace Go.Proofs.YtnbcghbgeiocbaaDoor
open Go.Q Go.RowKit
set_option maxHeartbeats 4000000 in
theorem More_calls (w : World) (OA : Option Addr) (oc : Nat) (l : List Opm) (more : Opm) (t : Bool) (EA : Option Addr) (ec : Nat) (es : List Int) (FA : Option Addr) (fc : Nat) (fs : List Int) (hL : RdT w 7 Opm.cells (.slice OA l.length oc) l) (hLo : ∀ x ∈ l, x.Ok) (hMo : more.Ok) (hE : RdT w 1 iI (Value.slice EA es.length ec) es) (hes : ∀ x ∈ es, -9223372036854775808 ≤ x ∧ x ≤ 9223372036854775807) (hF : RdT w 1 iI (Value.slice FA fs.length fc) fs) (hfs : ∀ x ∈ fs, -9223372036854775808 ≤ x ∧ x ≤ 9223372036854775807) : Calls Tryd.prog 5 ⟨[(Value.slice OA l.length oc), (agg (Opm.cells more)), (Value.bool t), (Value.slice EA es.length ec), (Value.slice FA fs.length fc)]⟩ w (fun e w' => e = .returned (.bool true) ∧ Keeps none_ w w') := by
 have hcap := RdT.len Opm.seven (by decide) hL
 have hce := (RdT.len iI_one (by decide) hE).2
 have hcf := (RdT.len iI_one (by decide) hF).2
 unfold maxLen at hce hcf
 have K0 : Keeps none_ w w := Keeps.refl w
 refine q_calls Tryd.func5 (by kernel_rfl) (by kernel_rfl) ?_
 refine qsg ?_
 refine onew (rowL (Opm.cells more) 24) (fun b => (ptr b)) 6 (fun b => rfl) (fun b1 w2 hb3 H4 K5 hs6 => ?_)
 have nb1 : w.heap.size ≤ b1 := by have := K0.size; omega
 replace K0 := K0.t0 K5
 clear K5 hs6
 refine ogd 1 [(0, .slice OA l.length oc), (2, .bool t), (3, .slice EA es.length ec), (4, .slice FA fs.length fc), (6, ptr b1), (10, .bool false)] ?_
 refine qsg ?_
 refine og 1 [(2, .bool t), (3, .slice EA es.length ec), (4, .slice FA fs.length fc), (6, ptr b1), (10, .bool false), (16, .slice OA l.length oc)] 1 ?_
 refine ocQ 17 (one_calls _ OA oc l 6 (Rd.keep0 (by decide) hL K0) hLo (by decide)) ?_
 rintro _ w12 ⟨o7, OA8, oc9, T10, rfl, K11, hO13, hR14, hT15, hTV16, hm17, hoz18⟩
 have O19 := own_base hO13 K0.size
 refine ⟨_, _, rfl, rfl, ?_⟩
 replace K0 := K0.t0 K11
 replace H4 := H4.kn K11
 have hol : o7.length = (l.take 6).length := by have := congrArg List.length hm17; simpa only [List.length_map, oneA_len] using this
 rw [List.length_take] at hol
 refine ogd 1 [(2, .bool t), (3, .slice EA es.length ec), (4, .slice FA fs.length fc), (6, ptr b1), (10, .bool false), (11, .slice OA8 o7.length oc9)] ?_
 refine qsg ?_
 refine ogo (agg (Opm.cells more)) 18 (rld 24 b1 0 H4) rfl ?_
 refine og 3 [(3, .slice EA es.length ec), (4, .slice FA fs.length fc), (10, .bool false), (11, .slice OA8 o7.length oc9), (21, (agg [(i64 more.kind), (Value.string (str more.frm)), (Value.string (str more.to)), (i64 more.amount), (Value.string (str more.key)), (i64 more.slot), (i64 more.shard), (i64 5), (i64 6), (Value.bool t), (i64 50), (i64 0), (Value.slice none 0 0)]))] 4 ?_
 refine onew (rowL [(i64 0), (Value.string ByteArray.empty), (Value.string ByteArray.empty), (i64 0), (Value.string ByteArray.empty), (i64 0), (i64 0), (i64 0), (i64 0), (Value.bool false), (i64 0), (i64 0), (Value.slice none 0 0)] 30) (fun b => (ptr b)) 12 (fun b => rfl) (fun b21 w22 hb23 H24 K25 hs26 => ?_)
 have lb21b1 : b1 < b21 := by have := H4.lt; omega
 have nb21 : w.heap.size ≤ b21 := by have := K0.size; omega
 have ob27 : ∀ i, ((Value.slice OA8 o7.length oc9)).ownBlock = some i → i < b21 := fun i hi => by have := (World.ownsRow.lt O19 i hi).2; omega
 have of28 : ∀ i, T10 i → i ≠ b21 := fun i hi => by have := RowsE.lt hR14 i hi; omega
 replace K0 := K0.t0 K25
 replace H4 := H4.kn K25
 replace O19 := own_keep0 O19 K25
 replace hR14 := RowsE.keep hR14 K25 (fun _ _ h => h)
 clear K25 hs26
 refine oput 30 b21 [(i64 more.kind), (Value.string (str more.frm)), (Value.string (str more.to)), (i64 more.amount), (Value.string (str more.key)), (i64 more.slot), (i64 more.shard), (i64 5), (i64 6), (Value.bool t), (i64 50), (i64 0), (Value.slice none 0 0)] H24 rfl (fun w29 H30 K31 => ?_)
 replace K0 := K0.trans K31 (U := none_) (fun i h1 h2 => h2) (fun i h1 h2 => by have h2 : i = b21 := h2; exfalso; omega)
 replace H4 := H4.k1 K31 (by omega)
 replace O19 := own_keep O19 K31 (fun i hi => by have := ob27 i hi; omega)
 replace hR14 := RowsE.keep hR14 K31 (fun i hi hs => by have hs : i = b21 := hs; have := of28 i hi; omega)
 refine od ?_
 refine qs ?_
 refine q_drawS 12 (by kernel_rfl) (by kernel_rfl) (by kernel_rfl) (fun w32 K33 _ _ => ?_)
 replace K0 := K0.t0 K33
 replace H4 := H4.kn K33
 replace H30 := H30.kn K33
 replace O19 := own_keep0 O19 K33
 replace hR14 := RowsE.keep hR14 K33 (fun _ _ h => h)
 have Kb34 : Keeps none_ w32 w32 := Keeps.refl w32
 refine ⟨fun wz => Keeps none_ w32 wz, [], (SH.nil Kb34), ?_⟩
 refine skQ 11 [0] [(3, .slice EA es.length ec), (4, .slice FA fs.length fc), (10, .bool false), (11, .slice OA8 o7.length oc9), (12, ptr b21), (23, .slice OA8 o7.length oc9)] ?_
 refine stQ 2 (agg [(i64 more.kind), (Value.string (str more.frm)), (Value.string (str more.to)), (i64 more.amount), (Value.string (str more.key)), (i64 more.slot), (i64 more.shard), (i64 5), (i64 6), (Value.bool t), (i64 50), (i64 0), (Value.slice none 0 0)]) 25 (fun wz hS => rld 30 b21 0 (H30.keep hS (fun h => h))) rfl ?_
 refine DrS.two (i := 1) (j := 3) (by kernel_rfl) ?_ ?_
 ·skip
  refine Dr1.call (by kernel_rfl) (d := (some 24)) (by kernel_rfl) (Lent_calls _ OA8 oc9 o7 (OwnT.rd O19) (fun y hy => ⟨hR14.1 y hy, by have := hoz18 y hy; omega⟩) (by omega)) ?_
  rintro _ w40 ⟨o35, OA36, oc37, T38, rfl, K39, hO41, hR42, hT43, hTV44, hm45⟩
  have oo50 : ∀ i, ((Value.slice OA8 o7.length oc9)).ownBlock = some i → ((Value.slice OA36 o35.length oc37)).ownBlock = some i → False := fun i hi hs => by have := (World.ownsRow.lt hO41 i hs).1; have := (World.ownsRow.lt O19 i hi).2; omega
  have O46 := own_base hO41 (K0.size)
  have oy52 : ∀ i, ((Value.slice OA36 o35.length oc37)).ownBlock = some i → w32.heap.size ≤ i := fun i hi => by have := (World.ownsRow.lt hO41 i hi).1; have := Kb34.size; omega
  have oo53 : ∀ i, ((Value.slice OA36 o35.length oc37)).ownBlock = some i → T10 i → False := fun i hs hi => by have := (World.ownsRow.lt hO41 i hs).1; have := RowsE.lt hR14 i hi; omega
  replace K0 := K0.t0 K39
  replace H4 := H4.kn K39
  replace H30 := H30.kn K39
  replace O19 := own_keep0 O19 K39
  replace hR14 := RowsE.keep hR14 K39 (fun _ _ h => h)
  have Kb54 := Kb34.trans K39 (U := none_) (fun _ _ h => h) (fun i h1 h2 => by exact h2.elim)
  refine ⟨_, _, rfl, rfl, (SH.nil Kb54), ?_⟩
  have hz47 : o35.length = o7.length := by have := congrArg List.length hm45; simpa only [List.length_map] using this
  refine soQ 3 ?_
  refine Dr1.new (o := rowL [(i64 more.kind), (Value.string (str more.frm)), (Value.string (str more.to)), (i64 more.amount), (Value.string (str more.key)), (i64 more.slot), (i64 more.shard), (i64 5), (i64 6), (Value.bool t), (i64 50), (i64 0), (Value.slice none 0 0)] 30) (V := fun b => (Value.slice (some ⟨b, 0, none⟩) 1 1)) (by kernel_rfl) (d := (some 26)) (by kernel_rfl) (fun b => rfl) (fun b55 w56 hb57 H58 K59 hs60 => ?_)
  have lb55b1 : b1 < b55 := by have := H4.lt; omega
  have lb55b21 : b21 < b55 := by have := H30.lt; omega
  have nb55 : w.heap.size ≤ b55 := by have := K0.size; omega
  have xb55 : w32.heap.size ≤ b55 := by have := Kb54.size; omega
  replace K0 := K0.t0 K59
  replace O19 := own_keep0 O19 K59
  replace hR14 := RowsE.keep hR14 K59 (fun _ _ h => h)
  replace O46 := own_keep0 O46 K59
  replace hR42 := RowsE.keep hR42 K59 (fun _ _ h => h)
  have Kb65 := Kb54.trans K59 (U := none_) (fun _ _ h => h) (fun i h1 h2 => by exact h2.elim)
  refine ⟨(SH.nil Kb65), ?_⟩
  clear K59 hs60
  refine soQ 4 ?_
  obtain ⟨v66, w67, hr68, hO69, hK70, hg71⟩ := OwnT.app (ty := 22) HC.two HC.one tyHR O46 (show RdT _ 13 HC.cells _ [(⟨⟨more, 5, 6, t, ⟨50, 0, []⟩⟩, none, 0⟩ : HC)] from Rd.lit H58 (n := 1) rfl (by decide)) (by simp only [List.length_cons, List.length_nil]; omega) (by simp only [List.length_cons, List.length_nil]; omega) (K0.size)
  obtain ⟨A73, c74, rfl⟩ := RdT.form HC.two (by decide) (OwnT.rd hO69)
  have K72 := hK70
  replace K0 := K0.trans K72 (U := none_) (fun i h1 h2 => h2) (fun i h1 h2 => by have h2 : ((Value.slice OA36 o35.length oc37)).ownBlock = some i := h2; exfalso; have := (World.ownsRow.lt O46 i h2).1; omega)
  replace O19 := own_keep O19 K72 (fun i hi hs => by have hs : ((Value.slice OA36 o35.length oc37)).ownBlock = some i := hs; exact oo50 i hi hs)
  replace hR14 := RowsE.keep hR14 K72 (fun i hi hs => by have hs : ((Value.slice OA36 o35.length oc37)).ownBlock = some i := hs; exact oo53 i hs hi)
  replace hR42 := RowsE.keep hR42 K72 (fun i hi hs => by have hs : ((Value.slice OA36 o35.length oc37)).ownBlock = some i := hs; exact hTV44 i hs hi)
  have Kb82 := Kb65.trans K72 (U := none_) (fun _ _ h => h) (fun i h1 h2 => by have h2 : ((Value.slice OA36 o35.length oc37)).ownBlock = some i := h2; exfalso; have := oy52 i h2; omega)
  refine Dr1.go (v := (Value.slice A73 ((o35 ++ [(⟨⟨more, 5, 6, t, ⟨50, 0, []⟩⟩, none, 0⟩ : HC)]).length) c74)) (by kernel_rfl) (Runs.append (ts := #[22, 22]) (ty := 22) (vs := [(Value.slice OA36 o35.length oc37), (Value.slice (some ⟨b55, 0, none⟩) 1 1)]) (by kernel_rfl) hr68) (d := (some 27)) (by kernel_rfl) rfl (SH.nil Kb82) ?_
  clear K72 hr68 hK70 hg71
  refine soQ 5 ?_
  refine Dr1.call (by kernel_rfl) (d := (some 28)) (by kernel_rfl) (given_calls _ A73 c74 (o35 ++ [(⟨⟨more, 5, 6, t, ⟨50, 0, []⟩⟩, none, 0⟩ : HC)]) (OwnT.rd hO69) (fun y hy => (List.mem_append.1 hy).elim (fun h => ⟨hR42.1 y h, by have := of_map (P := fun c => c.rep.rows.length ≤ 1000) (m := o7.map HC.c) hm45 (fun c hc => by obtain ⟨z, hz, rfl⟩ := List.mem_map.1 hc; exact hoz18 z hz) y h; omega⟩) (fun h => by rw [List.mem_singleton] at h; subst h; exact ⟨Rd.nil _ _, by show 0 * 24 ≤ _; omega⟩)) (by rw [List.length_append]; simp only [List.length_cons, List.length_nil]; omega)) ?_
  rintro _ w88 ⟨o83, OA84, oc85, T86, rfl, K87, hO89, hR90, h91, h92, hm93⟩
  replace K0 := K0.t0 K87
  replace O19 := own_keep0 O19 K87
  replace hR14 := RowsE.keep hR14 K87 (fun _ _ h => h)
  have Kb96 := Kb82.trans K87 (U := none_) (fun _ _ h => h) (fun i h1 h2 => by exact h2.elim)
  refine ⟨_, _, rfl, rfl, (SH.nil Kb96), ?_⟩
  have hx95 := OwnT.rd hO89
  have hz94 : o83.length = (o35 ++ [(⟨⟨more, 5, 6, t, ⟨50, 0, []⟩⟩, none, 0⟩ : HC)]).length := by have := congrArg List.length hm93; simpa only [List.length_map] using this
  simp only [List.length_append, List.length_cons, List.length_nil] at hz94
  refine soQ 6 ?_
  refine Dr1.call (by kernel_rfl) (d := (some 29)) (by kernel_rfl) (Linear_calls _ OA84 oc85 o83 T86 hx95 hR90 (map_all (P := (fun c : HCall => -9223372036854775808 ≤ c.op.amount ∧ c.op.amount ≤ 9223372036854775807)) hm93 (fun y hy => (List.mem_append.1 hy).elim (fun h => map_all (P := (fun c : HCall => -9223372036854775808 ≤ c.op.amount ∧ c.op.amount ≤ 9223372036854775807)) hm45 (one_amtO hLo hm17) y h) (fun h => by rw [List.mem_singleton] at h; subst h; exact hMo.amount))) (by omega)) ?_
  rintro _ w100 ⟨ok97, why98, rfl, K99, hE101⟩
  have e102 := Prod.mk.inj (hE101.trans (more_fin (x := (⟨⟨more, 5, 6, t, ⟨50, 0, []⟩⟩, none, 0⟩ : HC)) hLo (by decide) hm17 hm45 hm93 rfl (by show (5 : Int) ≤ 6; decide) hMo))
  obtain ⟨rfl, rfl⟩ := e102
  replace K0 := K0.t0 K99
  replace O19 := own_keep0 O19 K99
  replace hR14 := RowsE.keep hR14 K99 (fun _ _ h => h)
  have Kb103 := Kb96.trans K99 (U := none_) (fun _ _ h => h) (fun i h1 h2 => by exact h2.elim)
  refine ⟨_, _, rfl, rfl, (SH.nil Kb103), ?_⟩
  refine skQ 0 [7, 8, 9, 10, 11] [(3, .slice EA es.length ec), (4, .slice FA fs.length fc), (10, .bool false), (11, .slice OA8 o7.length oc9), (13, .bool true), (14, i64 0)] ?_
  refine DrS.done (by kernel_rfl) ?_
  refine qs ?_
  refine qsg ?_
  refine ogd 6 [(3, .slice EA es.length ec), (4, .slice FA fs.length fc), (10, .bool false), (11, .slice OA8 o7.length oc9), (13, .bool true), (14, i64 0), (37, .bool false)] ?_
  refine q_else (o := .tmp 37) (by kernel_rfl) rfl ?_
  refine qkQ ?_
  refine qs ?_
  refine qsg ?_
  refine ogd 1 [(3, .slice EA es.length ec), (4, .slice FA fs.length fc), (10, .bool false), (11, .slice OA8 o7.length oc9), (13, .bool true), (14, i64 0), (15, i64 0)] ?_
  refine q_block (id := 0) (by kernel_rfl) ?_
  refine q_keep (R := [(3, .slice EA es.length ec), (4, .slice FA fs.length fc), (10, .bool false), (11, .slice OA8 o7.length oc9), (13, .bool true), (14, i64 0), (15, i64 0)]) (by kernel_rfl) ?_
  refine q_loop (fun (gs : Nat × (List HC)) L (wx : World) => match gs with | (ii, o9) => L = [(3, (Value.slice EA es.length ec)), (4, (Value.slice FA fs.length fc)), (10, (Value.bool false)), (11, (Value.slice OA8 o9.length oc9)), (13, (Value.bool true)), (14, (i64 0)), (15, (i64 ((ii : Nat) : Int)))] ∧ OwnT wx w.heap.size 30 13 HC.cells ((Value.slice OA8 o9.length oc9)) o9 ∧ WideL (oneA (l.take 6)).2 (o9.map HC.c) ∧ (∀ j y, ii ≤ j → o9[j]? = some y → (oneA (l.take 6)).2[j]? = some y.c) ∧ RowsE wx HC.rv HC.rows T10 o9 ∧ (∀ j, ((Value.slice OA8 o9.length oc9)).ownBlock = some j → T10 j → False) ∧ (∀ y ∈ o9, y.c.rep.rows.length ≤ 1000) ∧ ii ≤ o9.length ∧ Keeps none_ w wx) (fun (gs : Nat × (List HC)) => match gs with | (ii, o9) => o9.length - ii) (0, o7) (by kernel_rfl) ⟨rfl, O19, (by rw [hm17]; exact WideL.refl _), (fun j y _ hy => by rw [← hm17, List.getElem?_map, hy]; rfl), hR14, hTV16, hoz18, Nat.zero_le _, K0⟩ ?_
  clear O19 hR14 hR42 hO69 hx95 hR90 K0
  rintro ⟨ii, o9⟩ _ w104 ⟨rfl, hOV, hW, hS, hRT9, hTV9, hoz9, hi, K105⟩
  have hW1 := hW.1
  rw [oneA_len, List.length_take, List.length_map] at hW1
  refine qs ?_
  refine qsg ?_
  refine ogd 4 [(3, .slice EA es.length ec), (4, .slice FA fs.length fc), (10, .bool false), (11, .slice OA8 o9.length oc9), (13, .bool true), (14, i64 0), (15, i64 ↑ii), (41, (Value.bool (decide (((ii : Nat) : Int) < ((o9.length : Nat) : Int)))))] ?_
  refine qcQ 41 (decide (((ii : Nat) : Int) < ((o9.length : Nat) : Int))) rfl (fun h106 => ?_) (fun h106 => ?_)
  ·rw [h106]
   have p107 := of_decide_eq_true h106
   obtain ⟨y, hy⟩ : ∃ y, o9[ii]? = some y := ⟨_, List.getElem?_eq_getElem (by omega)⟩
   have hy0 := hS ii y (Nat.le_refl _) hy
   obtain ⟨hyb, hye, _⟩ := (oneA_one (l.take 6)).at_ ii _ hy0
   obtain ⟨gb, pre, suf, hA, hgb, hp, HX0, hput⟩ := OwnT.mid HC.two (by decide) hy hOV
   have ngb : w.heap.size ≤ gb := hgb
   have HX : Has w104 gb (rowL (pre ++ (HC.cells y) ++ suf) 30) := HX0
   clear HX0
   have Hgl := HX.lt
   have hTg : ∀ i, T10 i → i ≠ gb := fun i hi q => hTV9 gb (by rw [hA]; rfl) (q ▸ hi)
   refine qkQ ?_
   refine qs ?_
   refine q_block (id := 1) (by kernel_rfl) ?_
   refine qs ?_
   refine qsg ?_
   refine ogd 4 [(3, .slice EA es.length ec), (4, .slice FA fs.length fc), (10, .bool false), (11, .slice OA8 o9.length oc9), (13, .bool true), (14, i64 0), (15, i64 ↑ii), (47, (Value.bool (decide (((ii : Nat) : Int) < ((es.length : Nat) : Int)))))] ?_
   refine qcQ 47 (decide (((ii : Nat) : Int) < ((es.length : Nat) : Int))) rfl (fun h108 => ?_) (fun h108 => ?_)
   ·rw [h108]
    have p109 := of_decide_eq_true h108
    obtain ⟨rb110, ro111, e1, hA112, hx113⟩ := RdT.open (Rd.keep0 (by omega) hE K105) rfl (k := ii) (by omega)
    have hre1 := hes e1 (List.mem_of_getElem? hx113)
    obtain ⟨qe11, qe12, qe13, qe14⟩ := num20 e1
    refine q_drawS 18 (by kernel_rfl) (by kernel_rfl) (by kernel_rfl) (fun w114 K115 _ _ => ?_)
    replace K105 := K105.trans K115 (U := none_) (fun i h1 h2 => h2) (fun i h1 h2 => by exact h2)
    replace HX := HX.kn K115
    replace hRT9 := RowsE.keep hRT9 K115 (fun _ _ h => h)
    have Kb116 : Keeps (fun i => i = gb) w114 w114 := (Keeps.refl w114).mono (fun _ _ h => h.elim)
    refine ⟨fun wz => Keeps (fun i => i = gb) w114 wz, [(17, fun wz => Loads Tryd.prog wz 3 ⟨gb, ii * 13 + 7, none⟩ (i64 y.c.bg))], (SH.cons (SH.nil Kb116) (.inr (HX.loads (loadC1 (by kernel_rfl) (mid1 (k := 7) (by have := hp; omega) (by kernel_rfl)))))), ?_⟩
    refine skQ 14 [0, 1, 2, 3] [(3, .slice EA es.length ec), (4, .slice FA fs.length fc), (10, .bool false), (11, .slice OA8 o9.length oc9), (13, .bool true), (14, i64 0), (15, i64 ↑ii), (48, .slice OA8 o9.length oc9), (49, i64 ↑ii), (50, .slice OA8 o9.length oc9), (51, i64 ↑ii)] ?_
    refine stQ 4 (Value.pointer (some ⟨gb, ii * 13, none⟩)) 52 (fun wz hS => Runs.ixSliceE (k := IntKind.i64) (t := 22) (len := o9.length) (cap := oc9) (s := 13) (off' := ii * 13) (i := ((ii : Nat) : Int)) hA (by kernel_rfl) (by kernel_rfl) (by omega) (by omega) (by omega)) rfl ?_
    refine skQ 12 [5] [(3, .slice EA es.length ec), (4, .slice FA fs.length fc), (10, .bool false), (11, .slice OA8 o9.length oc9), (13, .bool true), (14, i64 0), (15, i64 ↑ii), (48, .slice OA8 o9.length oc9), (49, i64 ↑ii), (53, .pointer (some ⟨gb, ii * 13 + 7, none⟩))] ?_
    refine DrS.takeH (s := 17) (.head _) (i := 6) (v := (i64 y.c.bg)) (by kernel_rfl) (by kernel_rfl) (by kernel_rfl) (fun wz hB hp => Runs.load (t := 3) (a := ⟨gb, ii * 13 + 7, none⟩) (by kernel_rfl) hp) (d := (some 54)) (by kernel_rfl) rfl ?_
    refine skQ 9 [7, 8] [(3, .slice EA es.length ec), (4, .slice FA fs.length fc), (10, .bool false), (11, .slice OA8 o9.length oc9), (13, .bool true), (14, i64 0), (15, i64 ↑ii), (48, .slice OA8 o9.length oc9), (49, i64 ↑ii), (54, i64 y.c.bg), (55, .slice EA es.length ec), (56, i64 ↑ii)] ?_
    refine stQ 9 (Value.pointer (some ⟨rb110, ro111 + ii, none⟩)) 57 (fun wz hS => Runs.ixSliceE (k := IntKind.i64) (t := 35) (len := es.length) (cap := ec) (s := 1) (off' := ro111 + ii) (i := ((ii : Nat) : Int)) hA112 (by kernel_rfl) (by kernel_rfl) (by omega) (by omega) (by omega)) rfl ?_
    refine stQ 10 (i64 e1) 58 (fun wz hS => Runs.load (t := 3) (a := ⟨rb110, ro111 + ii, none⟩) (by kernel_rfl) (RdT.ldu (f := iI) (x := e1) iI_one (Rd.keep0 (by omega) hE (K105.trans hS (U := none_) (fun _ _ h => h) (fun i h1 h2 => by have h2 : i = gb := h2; exfalso; omega))) (by kernel_rfl) hA112 hx113 rfl)) rfl ?_
    refine skQ 5 [11, 12] [(3, .slice EA es.length ec), (4, .slice FA fs.length fc), (10, .bool false), (11, .slice OA8 o9.length oc9), (13, .bool true), (14, i64 0), (15, i64 ↑ii), (48, .slice OA8 o9.length oc9), (49, i64 ↑ii), (54, i64 y.c.bg), (60, (i64 (IntKind.i64.wrap (((e1).tmod 20) + 20))))] ?_
    have e117 : IntKind.i64.wrap (((e1).tmod 20) + 20) = ((e1).tmod 20) + 20 := wrap_i64 (by omega) (by omega)
    rw [e117]
    refine skQ 3 [13, 14] [(3, .slice EA es.length ec), (4, .slice FA fs.length fc), (10, .bool false), (11, .slice OA8 o9.length oc9), (13, .bool true), (14, i64 0), (15, i64 ↑ii), (48, .slice OA8 o9.length oc9), (49, i64 ↑ii), (62, (i64 (IntKind.i64.wrap (y.c.bg - ((((e1).tmod 20) + 20).tmod 20)))))] ?_
    have e118 : IntKind.i64.wrap (y.c.bg - ((((e1).tmod 20) + 20).tmod 20)) = y.c.bg - ((((e1).tmod 20) + 20).tmod 20) := wrap_i64 (by omega) (by omega)
    rw [e118]
    refine stQ 15 (Value.pointer (some ⟨gb, ii * 13, none⟩)) 63 (fun wz hS => Runs.ixSliceE (k := IntKind.i64) (t := 22) (len := o9.length) (cap := oc9) (s := 13) (off' := ii * 13) (i := ((ii : Nat) : Int)) hA (by kernel_rfl) (by kernel_rfl) (by omega) (by omega) (by omega)) rfl ?_
    refine skQ 1 [16] [(3, .slice EA es.length ec), (4, .slice FA fs.length fc), (10, .bool false), (11, .slice OA8 o9.length oc9), (13, .bool true), (14, i64 0), (15, i64 ↑ii), (62, (i64 (y.c.bg - ((((e1).tmod 20) + 20).tmod 20)))), (64, .pointer (some ⟨gb, ii * 13 + 7, none⟩))] ?_
    refine soQ 17 ?_
    refine Dr1.put (t := 3) (b := gb) (off := ii * 13 + 7) (v := (i64 (y.c.bg - ((((e1).tmod 20) + 20).tmod 20)))) (ys := (pre ++ [(i64 y.c.op.kind), (Value.string (str y.c.op.frm)), (Value.string (str y.c.op.to)), (i64 y.c.op.amount), (Value.string (str y.c.op.key)), (i64 y.c.op.slot), (i64 y.c.op.shard), (i64 (y.c.bg - ((((e1).tmod 20) + 20).tmod 20))), (i64 y.c.en), (Value.bool y.c.told), (i64 y.c.rep.why), (i64 y.c.rep.amount), (Value.slice y.A y.c.rep.rows.length y.k)] ++ suf)) (by kernel_rfl) (by kernel_rfl) HX (storeC1 (by kernel_rfl) (by kernel_rfl) (Nat.lt_of_lt_of_le (Nat.lt_succ_self _) (mid_len (vs := [(i64 (y.c.bg - ((((e1).tmod 20) + 20).tmod 20)))]) (k := 7) (by have := hp; omega) (Nat.le_of_ble_eq_true (by kernel_rfl)))) (mid_set1 (k := 7) (by have := hp; omega) (Nat.le_of_ble_eq_true (by kernel_rfl)))) (d := none) (by kernel_rfl) rfl (fun w119 H120 K121 => ?_)
    clear HX
    replace K105 := K105.trans K121 (U := none_) (fun i h1 h2 => h2) (fun i h1 h2 => by have h2 : i = gb := h2; exfalso; omega)
    replace hRT9 := RowsE.keep hRT9 K121 (fun i hi hs => by have hs : i = gb := hs; have := hTg i hi; omega)
    have Kb122 := Kb116.trans K121 (U := (fun i => i = gb)) (fun _ _ h => h) (fun i h1 h2 => by have h2 : i = gb := h2; exact h2)
    refine ⟨(SH.cons (SH.nil Kb122) (.inl (by kernel_rfl))), ?_⟩
    refine DrS.done (by kernel_rfl) ?_
    refine qsg ?_
    refine ogd 4 [(3, .slice EA es.length ec), (4, .slice FA fs.length fc), (10, .bool false), (11, .slice OA8 o9.length oc9), (13, .bool true), (14, i64 0), (15, i64 ↑ii), (68, (Value.bool (decide (((ii : Nat) : Int) < ((fs.length : Nat) : Int)))))] ?_
    refine qcQ 68 (decide (((ii : Nat) : Int) < ((fs.length : Nat) : Int))) rfl (fun h123 => ?_) (fun h123 => ?_)
    ·rw [h123]
     have p124 := of_decide_eq_true h123
     obtain ⟨rb125, ro126, e2, hA127, hx128⟩ := RdT.open (Rd.keep0 (by omega) hF K105) rfl (k := ii) (by omega)
     have hre2 := hfs e2 (List.mem_of_getElem? hx128)
     obtain ⟨qe21, qe22, qe23, qe24⟩ := num20 e2
     refine q_drawS 18 (by kernel_rfl) (by kernel_rfl) (by kernel_rfl) (fun w129 K130 _ _ => ?_)
     replace K105 := K105.trans K130 (U := none_) (fun i h1 h2 => h2) (fun i h1 h2 => by exact h2)
     replace H120 := H120.kn K130
     replace hRT9 := RowsE.keep hRT9 K130 (fun _ _ h => h)
     have Kb131 : Keeps (fun i => i = gb) w129 w129 := (Keeps.refl w129).mono (fun _ _ h => h.elim)
     refine ⟨fun wz => Keeps (fun i => i = gb) w129 wz, [(17, fun wz => Loads Tryd.prog wz 3 ⟨gb, ii * 13 + 8, none⟩ (i64 y.c.en))], (SH.cons (SH.nil Kb131) (.inr (H120.loads (loadC1 (by kernel_rfl) (mid1 (k := 8) (by have := hp; omega) (by kernel_rfl)))))), ?_⟩
     refine skQ 14 [0, 1, 2, 3] [(3, .slice EA es.length ec), (4, .slice FA fs.length fc), (10, .bool false), (11, .slice OA8 o9.length oc9), (13, .bool true), (14, i64 0), (15, i64 ↑ii), (69, .slice OA8 o9.length oc9), (70, i64 ↑ii), (71, .slice OA8 o9.length oc9), (72, i64 ↑ii)] ?_
     refine stQ 4 (Value.pointer (some ⟨gb, ii * 13, none⟩)) 73 (fun wz hS => Runs.ixSliceE (k := IntKind.i64) (t := 22) (len := o9.length) (cap := oc9) (s := 13) (off' := ii * 13) (i := ((ii : Nat) : Int)) hA (by kernel_rfl) (by kernel_rfl) (by omega) (by omega) (by omega)) rfl ?_
     refine skQ 12 [5] [(3, .slice EA es.length ec), (4, .slice FA fs.length fc), (10, .bool false), (11, .slice OA8 o9.length oc9), (13, .bool true), (14, i64 0), (15, i64 ↑ii), (69, .slice OA8 o9.length oc9), (70, i64 ↑ii), (74, .pointer (some ⟨gb, ii * 13 + 8, none⟩))] ?_
     refine DrS.takeH (s := 17) (.head _) (i := 6) (v := (i64 y.c.en)) (by kernel_rfl) (by kernel_rfl) (by kernel_rfl) (fun wz hB hp => Runs.load (t := 3) (a := ⟨gb, ii * 13 + 8, none⟩) (by kernel_rfl) hp) (d := (some 75)) (by kernel_rfl) rfl ?_
     refine skQ 9 [7, 8] [(3, .slice EA es.length ec), (4, .slice FA fs.length fc), (10, .bool false), (11, .slice OA8 o9.length oc9), (13, .bool true), (14, i64 0), (15, i64 ↑ii), (69, .slice OA8 o9.length oc9), (70, i64 ↑ii), (75, i64 y.c.en), (76, .slice FA fs.length fc), (77, i64 ↑ii)] ?_
     refine stQ 9 (Value.pointer (some ⟨rb125, ro126 + ii, none⟩)) 78 (fun wz hS => Runs.ixSliceE (k := IntKind.i64) (t := 35) (len := fs.length) (cap := fc) (s := 1) (off' := ro126 + ii) (i := ((ii : Nat) : Int)) hA127 (by kernel_rfl) (by kernel_rfl) (by omega) (by omega) (by omega)) rfl ?_
     refine stQ 10 (i64 e2) 79 (fun wz hS => Runs.load (t := 3) (a := ⟨rb125, ro126 + ii, none⟩) (by kernel_rfl) (RdT.ldu (f := iI) (x := e2) iI_one (Rd.keep0 (by omega) hF (K105.trans hS (U := none_) (fun _ _ h => h) (fun i h1 h2 => by have h2 : i = gb := h2; exfalso; omega))) (by kernel_rfl) hA127 hx128 rfl)) rfl ?_
     refine skQ 5 [11, 12] [(3, .slice EA es.length ec), (4, .slice FA fs.length fc), (10, .bool false), (11, .slice OA8 o9.length oc9), (13, .bool true), (14, i64 0), (15, i64 ↑ii), (69, .slice OA8 o9.length oc9), (70, i64 ↑ii), (75, i64 y.c.en), (81, (i64 (IntKind.i64.wrap (((e2).tmod 20) + 20))))] ?_
     have e132 : IntKind.i64.wrap (((e2).tmod 20) + 20) = ((e2).tmod 20) + 20 := wrap_i64 (by omega) (by omega)
     rw [e132]
     refine skQ 3 [13, 14] [(3, .slice EA es.length ec), (4, .slice FA fs.length fc), (10, .bool false), (11, .slice OA8 o9.length oc9), (13, .bool true), (14, i64 0), (15, i64 ↑ii), (69, .slice OA8 o9.length oc9), (70, i64 ↑ii), (83, (i64 (IntKind.i64.wrap (y.c.en + ((((e2).tmod 20) + 20).tmod 20)))))] ?_
     have e133 : IntKind.i64.wrap (y.c.en + ((((e2).tmod 20) + 20).tmod 20)) = y.c.en + ((((e2).tmod 20) + 20).tmod 20) := wrap_i64 (by omega) (by omega)
     rw [e133]
     refine stQ 15 (Value.pointer (some ⟨gb, ii * 13, none⟩)) 84 (fun wz hS => Runs.ixSliceE (k := IntKind.i64) (t := 22) (len := o9.length) (cap := oc9) (s := 13) (off' := ii * 13) (i := ((ii : Nat) : Int)) hA (by kernel_rfl) (by kernel_rfl) (by omega) (by omega) (by omega)) rfl ?_
     refine skQ 1 [16] [(3, .slice EA es.length ec), (4, .slice FA fs.length fc), (10, .bool false), (11, .slice OA8 o9.length oc9), (13, .bool true), (14, i64 0), (15, i64 ↑ii), (83, (i64 (y.c.en + ((((e2).tmod 20) + 20).tmod 20)))), (85, .pointer (some ⟨gb, ii * 13 + 8, none⟩))] ?_
     refine soQ 17 ?_
     refine Dr1.put (t := 3) (b := gb) (off := ii * 13 + 8) (v := (i64 (y.c.en + ((((e2).tmod 20) + 20).tmod 20)))) (ys := (pre ++ [(i64 y.c.op.kind), (Value.string (str y.c.op.frm)), (Value.string (str y.c.op.to)), (i64 y.c.op.amount), (Value.string (str y.c.op.key)), (i64 y.c.op.slot), (i64 y.c.op.shard), (i64 (y.c.bg - ((((e1).tmod 20) + 20).tmod 20))), (i64 (y.c.en + ((((e2).tmod 20) + 20).tmod 20))), (Value.bool y.c.told), (i64 y.c.rep.why), (i64 y.c.rep.amount), (Value.slice y.A y.c.rep.rows.length y.k)] ++ suf)) (by kernel_rfl) (by kernel_rfl) H120 (storeC1 (by kernel_rfl) (by kernel_rfl) (Nat.lt_of_lt_of_le (Nat.lt_succ_self _) (mid_len (vs := [(i64 (y.c.en + ((((e2).tmod 20) + 20).tmod 20)))]) (k := 8) (by have := hp; omega) (Nat.le_of_ble_eq_true (by kernel_rfl)))) (mid_set1 (k := 8) (by have := hp; omega) (Nat.le_of_ble_eq_true (by kernel_rfl)))) (d := none) (by kernel_rfl) rfl (fun w134 H135 K136 => ?_)
     replace K105 := K105.trans K136 (U := none_) (fun i h1 h2 => h2) (fun i h1 h2 => by have h2 : i = gb := h2; exfalso; omega)
     replace hRT9 := RowsE.keep hRT9 K136 (fun i hi hs => by have hs : i = gb := hs; have := hTg i hi; omega)
     have Kb137 := Kb131.trans K136 (U := (fun i => i = gb)) (fun _ _ h => h) (fun i h1 h2 => by have h2 : i = gb := h2; exact h2)
     refine ⟨(SH.cons (SH.nil Kb137) (.inl (by kernel_rfl))), ?_⟩
     refine DrS.done (by kernel_rfl) ?_
     refine qg ?_
     refine og 2 [(3, .slice EA es.length ec), (4, .slice FA fs.length fc), (10, .bool false), (11, .slice OA8 o9.length oc9), (13, .bool true), (14, i64 0), (15, i64 ↑ii), (43, (i64 (IntKind.i64.wrap (((ii : Nat) : Int) + 1))))] 2 ?_
     rw [show IntKind.i64.wrap (((ii : Nat) : Int) + 1) = ((ii + 1 : Nat) : Int) from by rw [wrap_i64 (by omega) (by omega)]; omega]
     refine og 1 [(3, .slice EA es.length ec), (4, .slice FA fs.length fc), (10, .bool false), (11, .slice OA8 o9.length oc9), (13, .bool true), (14, i64 0), (15, i64 ↑(ii + 1))] 3 ?_
     rw [show Value.slice OA8 o9.length oc9 = Value.slice OA8 (o9.set ii (⟨⟨y.c.op, y.c.bg - ((((e1).tmod 20) + 20).tmod 20), y.c.en + ((((e2).tmod 20) + 20).tmod 20), y.c.told, y.c.rep⟩, y.A, y.k⟩ : HC)).length oc9 from by rw [List.length_set]]
     refine ok_ [(3, .slice EA es.length ec), (4, .slice FA fs.length fc), (10, .bool false), (11, (Value.slice OA8 ((o9.set ii (⟨⟨y.c.op, y.c.bg - ((((e1).tmod 20) + 20).tmod 20), y.c.en + ((((e2).tmod 20) + 20).tmod 20), y.c.told, y.c.rep⟩, y.A, y.k⟩ : HC)).length) oc9)), (13, .bool true), (14, i64 0), (15, i64 ↑(ii + 1))] ?_
     refine od ?_
     exact ⟨(ii + 1, (o9.set ii (⟨⟨y.c.op, y.c.bg - ((((e1).tmod 20) + 20).tmod 20), y.c.en + ((((e2).tmod 20) + 20).tmod 20), y.c.told, y.c.rep⟩, y.A, y.k⟩ : HC))), ⟨rfl, (by rw [List.length_set]; exact hput (⟨⟨y.c.op, y.c.bg - ((((e1).tmod 20) + 20).tmod 20), y.c.en + ((((e2).tmod 20) + 20).tmod 20), y.c.told, y.c.rep⟩, y.A, y.k⟩ : HC) _ H135), (wide_setO (Y := (⟨⟨y.c.op, y.c.bg - ((((e1).tmod 20) + 20).tmod 20), y.c.en + ((((e2).tmod 20) + 20).tmod 20), y.c.told, y.c.rep⟩, y.A, y.k⟩ : HC)) hW hy hy0 ⟨rfl, rfl, rfl, (by dsimp only; omega), (by dsimp only; omega)⟩), (same_setO hS), (RowsE.setY hRT9 hy rfl rfl), (fun j => by rw [List.length_set]; exact hTV9 j), (all_setO (P := fun y => y.c.rep.rows.length ≤ 1000) hoz9 (hoz9 y (List.mem_of_getElem? hy))), (by rw [List.length_set]; omega), K105⟩, (show (o9.set ii (⟨⟨y.c.op, y.c.bg - ((((e1).tmod 20) + 20).tmod 20), y.c.en + ((((e2).tmod 20) + 20).tmod 20), y.c.told, y.c.rep⟩, y.A, y.k⟩ : HC)).length - (ii + 1) < o9.length - ii from by rw [List.length_set]; omega)⟩
    ·rw [h123]
     have p139 := of_decide_eq_false h123
     refine qkQ ?_
     refine qg ?_
     refine og 2 [(3, .slice EA es.length ec), (4, .slice FA fs.length fc), (10, .bool false), (11, .slice OA8 o9.length oc9), (13, .bool true), (14, i64 0), (15, i64 ↑ii), (43, (i64 (IntKind.i64.wrap (((ii : Nat) : Int) + 1))))] 2 ?_
     rw [show IntKind.i64.wrap (((ii : Nat) : Int) + 1) = ((ii + 1 : Nat) : Int) from by rw [wrap_i64 (by omega) (by omega)]; omega]
     refine og 1 [(3, .slice EA es.length ec), (4, .slice FA fs.length fc), (10, .bool false), (11, .slice OA8 o9.length oc9), (13, .bool true), (14, i64 0), (15, i64 ↑(ii + 1))] 3 ?_
     rw [show Value.slice OA8 o9.length oc9 = Value.slice OA8 (o9.set ii (⟨⟨y.c.op, y.c.bg - ((((e1).tmod 20) + 20).tmod 20), y.c.en, y.c.told, y.c.rep⟩, y.A, y.k⟩ : HC)).length oc9 from by rw [List.length_set]]
     refine ok_ [(3, .slice EA es.length ec), (4, .slice FA fs.length fc), (10, .bool false), (11, (Value.slice OA8 ((o9.set ii (⟨⟨y.c.op, y.c.bg - ((((e1).tmod 20) + 20).tmod 20), y.c.en, y.c.told, y.c.rep⟩, y.A, y.k⟩ : HC)).length) oc9)), (13, .bool true), (14, i64 0), (15, i64 ↑(ii + 1))] ?_
     refine od ?_
     exact ⟨(ii + 1, (o9.set ii (⟨⟨y.c.op, y.c.bg - ((((e1).tmod 20) + 20).tmod 20), y.c.en, y.c.told, y.c.rep⟩, y.A, y.k⟩ : HC))), ⟨rfl, (by rw [List.length_set]; exact hput (⟨⟨y.c.op, y.c.bg - ((((e1).tmod 20) + 20).tmod 20), y.c.en, y.c.told, y.c.rep⟩, y.A, y.k⟩ : HC) _ H120), (wide_setO (Y := (⟨⟨y.c.op, y.c.bg - ((((e1).tmod 20) + 20).tmod 20), y.c.en, y.c.told, y.c.rep⟩, y.A, y.k⟩ : HC)) hW hy hy0 ⟨rfl, rfl, rfl, (by dsimp only; omega), (by dsimp only; omega)⟩), (same_setO hS), (RowsE.setY hRT9 hy rfl rfl), (fun j => by rw [List.length_set]; exact hTV9 j), (all_setO (P := fun y => y.c.rep.rows.length ≤ 1000) hoz9 (hoz9 y (List.mem_of_getElem? hy))), (by rw [List.length_set]; omega), K105⟩, (show (o9.set ii (⟨⟨y.c.op, y.c.bg - ((((e1).tmod 20) + 20).tmod 20), y.c.en, y.c.told, y.c.rep⟩, y.A, y.k⟩ : HC)).length - (ii + 1) < o9.length - ii from by rw [List.length_set]; omega)⟩
   ·rw [h108]
    have p141 := of_decide_eq_false h108
    refine qkQ ?_
    refine qsg ?_
    refine ogd 4 [(3, .slice EA es.length ec), (4, .slice FA fs.length fc), (10, .bool false), (11, .slice OA8 o9.length oc9), (13, .bool true), (14, i64 0), (15, i64 ↑ii), (68, (Value.bool (decide (((ii : Nat) : Int) < ((fs.length : Nat) : Int)))))] ?_
    refine qcQ 68 (decide (((ii : Nat) : Int) < ((fs.length : Nat) : Int))) rfl (fun h142 => ?_) (fun h142 => ?_)
    ·rw [h142]
     have p143 := of_decide_eq_true h142
     obtain ⟨rb144, ro145, e2, hA146, hx147⟩ := RdT.open (Rd.keep0 (by omega) hF K105) rfl (k := ii) (by omega)
     have hre2 := hfs e2 (List.mem_of_getElem? hx147)
     obtain ⟨qe21, qe22, qe23, qe24⟩ := num20 e2
     refine q_drawS 18 (by kernel_rfl) (by kernel_rfl) (by kernel_rfl) (fun w148 K149 _ _ => ?_)
     replace K105 := K105.trans K149 (U := none_) (fun i h1 h2 => h2) (fun i h1 h2 => by exact h2)
     replace HX := HX.kn K149
     replace hRT9 := RowsE.keep hRT9 K149 (fun _ _ h => h)
     have Kb150 : Keeps (fun i => i = gb) w148 w148 := (Keeps.refl w148).mono (fun _ _ h => h.elim)
     refine ⟨fun wz => Keeps (fun i => i = gb) w148 wz, [(17, fun wz => Loads Tryd.prog wz 3 ⟨gb, ii * 13 + 8, none⟩ (i64 y.c.en))], (SH.cons (SH.nil Kb150) (.inr (HX.loads (loadC1 (by kernel_rfl) (mid1 (k := 8) (by have := hp; omega) (by kernel_rfl)))))), ?_⟩
     refine skQ 14 [0, 1, 2, 3] [(3, .slice EA es.length ec), (4, .slice FA fs.length fc), (10, .bool false), (11, .slice OA8 o9.length oc9), (13, .bool true), (14, i64 0), (15, i64 ↑ii), (69, .slice OA8 o9.length oc9), (70, i64 ↑ii), (71, .slice OA8 o9.length oc9), (72, i64 ↑ii)] ?_
     refine stQ 4 (Value.pointer (some ⟨gb, ii * 13, none⟩)) 73 (fun wz hS => Runs.ixSliceE (k := IntKind.i64) (t := 22) (len := o9.length) (cap := oc9) (s := 13) (off' := ii * 13) (i := ((ii : Nat) : Int)) hA (by kernel_rfl) (by kernel_rfl) (by omega) (by omega) (by omega)) rfl ?_
     refine skQ 12 [5] [(3, .slice EA es.length ec), (4, .slice FA fs.length fc), (10, .bool false), (11, .slice OA8 o9.length oc9), (13, .bool true), (14, i64 0), (15, i64 ↑ii), (69, .slice OA8 o9.length oc9), (70, i64 ↑ii), (74, .pointer (some ⟨gb, ii * 13 + 8, none⟩))] ?_
     refine DrS.takeH (s := 17) (.head _) (i := 6) (v := (i64 y.c.en)) (by kernel_rfl) (by kernel_rfl) (by kernel_rfl) (fun wz hB hp => Runs.load (t := 3) (a := ⟨gb, ii * 13 + 8, none⟩) (by kernel_rfl) hp) (d := (some 75)) (by kernel_rfl) rfl ?_
     refine skQ 9 [7, 8] [(3, .slice EA es.length ec), (4, .slice FA fs.length fc), (10, .bool false), (11, .slice OA8 o9.length oc9), (13, .bool true), (14, i64 0), (15, i64 ↑ii), (69, .slice OA8 o9.length oc9), (70, i64 ↑ii), (75, i64 y.c.en), (76, .slice FA fs.length fc), (77, i64 ↑ii)] ?_
     refine stQ 9 (Value.pointer (some ⟨rb144, ro145 + ii, none⟩)) 78 (fun wz hS => Runs.ixSliceE (k := IntKind.i64) (t := 35) (len := fs.length) (cap := fc) (s := 1) (off' := ro145 + ii) (i := ((ii : Nat) : Int)) hA146 (by kernel_rfl) (by kernel_rfl) (by omega) (by omega) (by omega)) rfl ?_
     refine stQ 10 (i64 e2) 79 (fun wz hS => Runs.load (t := 3) (a := ⟨rb144, ro145 + ii, none⟩) (by kernel_rfl) (RdT.ldu (f := iI) (x := e2) iI_one (Rd.keep0 (by omega) hF (K105.trans hS (U := none_) (fun _ _ h => h) (fun i h1 h2 => by have h2 : i = gb := h2; exfalso; omega))) (by kernel_rfl) hA146 hx147 rfl)) rfl ?_
     refine skQ 5 [11, 12] [(3, .slice EA es.length ec), (4, .slice FA fs.length fc), (10, .bool false), (11, .slice OA8 o9.length oc9), (13, .bool true), (14, i64 0), (15, i64 ↑ii), (69, .slice OA8 o9.length oc9), (70, i64 ↑ii), (75, i64 y.c.en), (81, (i64 (IntKind.i64.wrap (((e2).tmod 20) + 20))))] ?_
     have e151 : IntKind.i64.wrap (((e2).tmod 20) + 20) = ((e2).tmod 20) + 20 := wrap_i64 (by omega) (by omega)
     rw [e151]
     refine skQ 3 [13, 14] [(3, .slice EA es.length ec), (4, .slice FA fs.length fc), (10, .bool false), (11, .slice OA8 o9.length oc9), (13, .bool true), (14, i64 0), (15, i64 ↑ii), (69, .slice OA8 o9.length oc9), (70, i64 ↑ii), (83, (i64 (IntKind.i64.wrap (y.c.en + ((((e2).tmod 20) + 20).tmod 20)))))] ?_
     have e152 : IntKind.i64.wrap (y.c.en + ((((e2).tmod 20) + 20).tmod 20)) = y.c.en + ((((e2).tmod 20) + 20).tmod 20) := wrap_i64 (by omega) (by omega)
     rw [e152]
     refine stQ 15 (Value.pointer (some ⟨gb, ii * 13, none⟩)) 84 (fun wz hS => Runs.ixSliceE (k := IntKind.i64) (t := 22) (len := o9.length) (cap := oc9) (s := 13) (off' := ii * 13) (i := ((ii : Nat) : Int)) hA (by kernel_rfl) (by kernel_rfl) (by omega) (by omega) (by omega)) rfl ?_
     refine skQ 1 [16] [(3, .slice EA es.length ec), (4, .slice FA fs.length fc), (10, .bool false), (11, .slice OA8 o9.length oc9), (13, .bool true), (14, i64 0), (15, i64 ↑ii), (83, (i64 (y.c.en + ((((e2).tmod 20) + 20).tmod 20)))), (85, .pointer (some ⟨gb, ii * 13 + 8, none⟩))] ?_
     refine soQ 17 ?_
     refine Dr1.put (t := 3) (b := gb) (off := ii * 13 + 8) (v := (i64 (y.c.en + ((((e2).tmod 20) + 20).tmod 20)))) (ys := (pre ++ [(i64 y.c.op.kind), (Value.string (str y.c.op.frm)), (Value.string (str y.c.op.to)), (i64 y.c.op.amount), (Value.string (str y.c.op.key)), (i64 y.c.op.slot), (i64 y.c.op.shard), (i64 y.c.bg), (i64 (y.c.en + ((((e2).tmod 20) + 20).tmod 20))), (Value.bool y.c.told), (i64 y.c.rep.why), (i64 y.c.rep.amount), (Value.slice y.A y.c.rep.rows.length y.k)] ++ suf)) (by kernel_rfl) (by kernel_rfl) HX (storeC1 (by kernel_rfl) (by kernel_rfl) (Nat.lt_of_lt_of_le (Nat.lt_succ_self _) (mid_len (vs := [(i64 (y.c.en + ((((e2).tmod 20) + 20).tmod 20)))]) (k := 8) (by have := hp; omega) (Nat.le_of_ble_eq_true (by kernel_rfl)))) (mid_set1 (k := 8) (by have := hp; omega) (Nat.le_of_ble_eq_true (by kernel_rfl)))) (d := none) (by kernel_rfl) rfl (fun w153 H154 K155 => ?_)
     clear HX
     replace K105 := K105.trans K155 (U := none_) (fun i h1 h2 => h2) (fun i h1 h2 => by have h2 : i = gb := h2; exfalso; omega)
     replace hRT9 := RowsE.keep hRT9 K155 (fun i hi hs => by have hs : i = gb := hs; have := hTg i hi; omega)
     have Kb156 := Kb150.trans K155 (U := (fun i => i = gb)) (fun _ _ h => h) (fun i h1 h2 => by have h2 : i = gb := h2; exact h2)
     refine ⟨(SH.cons (SH.nil Kb156) (.inl (by kernel_rfl))), ?_⟩
     refine DrS.done (by kernel_rfl) ?_
     refine qg ?_
     refine og 2 [(3, .slice EA es.length ec), (4, .slice FA fs.length fc), (10, .bool false), (11, .slice OA8 o9.length oc9), (13, .bool true), (14, i64 0), (15, i64 ↑ii), (43, (i64 (IntKind.i64.wrap (((ii : Nat) : Int) + 1))))] 2 ?_
     rw [show IntKind.i64.wrap (((ii : Nat) : Int) + 1) = ((ii + 1 : Nat) : Int) from by rw [wrap_i64 (by omega) (by omega)]; omega]
     refine og 1 [(3, .slice EA es.length ec), (4, .slice FA fs.length fc), (10, .bool false), (11, .slice OA8 o9.length oc9), (13, .bool true), (14, i64 0), (15, i64 ↑(ii + 1))] 3 ?_
     rw [show Value.slice OA8 o9.length oc9 = Value.slice OA8 (o9.set ii (⟨⟨y.c.op, y.c.bg, y.c.en + ((((e2).tmod 20) + 20).tmod 20), y.c.told, y.c.rep⟩, y.A, y.k⟩ : HC)).length oc9 from by rw [List.length_set]]
     refine ok_ [(3, .slice EA es.length ec), (4, .slice FA fs.length fc), (10, .bool false), (11, (Value.slice OA8 ((o9.set ii (⟨⟨y.c.op, y.c.bg, y.c.en + ((((e2).tmod 20) + 20).tmod 20), y.c.told, y.c.rep⟩, y.A, y.k⟩ : HC)).length) oc9)), (13, .bool true), (14, i64 0), (15, i64 ↑(ii + 1))] ?_
     refine od ?_
     exact ⟨(ii + 1, (o9.set ii (⟨⟨y.c.op, y.c.bg, y.c.en + ((((e2).tmod 20) + 20).tmod 20), y.c.told, y.c.rep⟩, y.A, y.k⟩ : HC))), ⟨rfl, (by rw [List.length_set]; exact hput (⟨⟨y.c.op, y.c.bg, y.c.en + ((((e2).tmod 20) + 20).tmod 20), y.c.told, y.c.rep⟩, y.A, y.k⟩ : HC) _ H154), (wide_setO (Y := (⟨⟨y.c.op, y.c.bg, y.c.en + ((((e2).tmod 20) + 20).tmod 20), y.c.told, y.c.rep⟩, y.A, y.k⟩ : HC)) hW hy hy0 ⟨rfl, rfl, rfl, (by dsimp only; omega), (by dsimp only; omega)⟩), (same_setO hS), (RowsE.setY hRT9 hy rfl rfl), (fun j => by rw [List.length_set]; exact hTV9 j), (all_setO (P := fun y => y.c.rep.rows.length ≤ 1000) hoz9 (hoz9 y (List.mem_of_getElem? hy))), (by rw [List.length_set]; omega), K105⟩, (show (o9.set ii (⟨⟨y.c.op, y.c.bg, y.c.en + ((((e2).tmod 20) + 20).tmod 20), y.c.told, y.c.rep⟩, y.A, y.k⟩ : HC)).length - (ii + 1) < o9.length - ii from by rw [List.length_set]; omega)⟩
    ·rw [h142]
     have p158 := of_decide_eq_false h142
     refine qkQ ?_
     refine qg ?_
     refine og 2 [(3, .slice EA es.length ec), (4, .slice FA fs.length fc), (10, .bool false), (11, .slice OA8 o9.length oc9), (13, .bool true), (14, i64 0), (15, i64 ↑ii), (43, (i64 (IntKind.i64.wrap (((ii : Nat) : Int) + 1))))] 2 ?_
     rw [show IntKind.i64.wrap (((ii : Nat) : Int) + 1) = ((ii + 1 : Nat) : Int) from by rw [wrap_i64 (by omega) (by omega)]; omega]
     refine og 1 [(3, .slice EA es.length ec), (4, .slice FA fs.length fc), (10, .bool false), (11, .slice OA8 o9.length oc9), (13, .bool true), (14, i64 0), (15, i64 ↑(ii + 1))] 3 ?_
     rw [show Value.slice OA8 o9.length oc9 = Value.slice OA8 (o9.set ii (⟨⟨y.c.op, y.c.bg, y.c.en, y.c.told, y.c.rep⟩, y.A, y.k⟩ : HC)).length oc9 from by rw [List.length_set]]
     refine ok_ [(3, .slice EA es.length ec), (4, .slice FA fs.length fc), (10, .bool false), (11, (Value.slice OA8 ((o9.set ii (⟨⟨y.c.op, y.c.bg, y.c.en, y.c.told, y.c.rep⟩, y.A, y.k⟩ : HC)).length) oc9)), (13, .bool true), (14, i64 0), (15, i64 ↑(ii + 1))] ?_
     refine od ?_
     exact ⟨(ii + 1, (o9.set ii (⟨⟨y.c.op, y.c.bg, y.c.en, y.c.told, y.c.rep⟩, y.A, y.k⟩ : HC))), ⟨rfl, (by rw [List.length_set]; exact hput (⟨⟨y.c.op, y.c.bg, y.c.en, y.c.told, y.c.rep⟩, y.A, y.k⟩ : HC) _ HX), (wide_setO (Y := (⟨⟨y.c.op, y.c.bg, y.c.en, y.c.told, y.c.rep⟩, y.A, y.k⟩ : HC)) hW hy hy0 ⟨rfl, rfl, rfl, (by dsimp only; omega), (by dsimp only; omega)⟩), (same_setO hS), (RowsE.setY hRT9 hy rfl rfl), (fun j => by rw [List.length_set]; exact hTV9 j), (all_setO (P := fun y => y.c.rep.rows.length ≤ 1000) hoz9 (hoz9 y (List.mem_of_getElem? hy))), (by rw [List.length_set]; omega), K105⟩, (show (o9.set ii (⟨⟨y.c.op, y.c.bg, y.c.en, y.c.told, y.c.rep⟩, y.A, y.k⟩ : HC)).length - (ii + 1) < o9.length - ii from by rw [List.length_set]; omega)⟩
  ·rw [h106]
   have p160 := of_decide_eq_false h106
   refine q_exit (id := 0) (by kernel_rfl) ?_
   refine qsg ?_
   refine og 1 [(10, .bool false), (13, .bool true), (14, i64 0), (87, .slice OA8 o9.length oc9)] 1 ?_
   refine ocQ 88 (given_calls _ OA8 oc9 o9 (OwnT.rd hOV) (fun y hy => ⟨hRT9.1 y hy, by have := hoz9 y hy; omega⟩) (by omega)) ?_
   rintro _ w166 ⟨o161, OA162, oc163, T164, rfl, K165, hO167, hR168, h169, h170, hm171⟩
   refine ⟨_, _, rfl, rfl, ?_⟩
   replace K105 := K105.trans K165 (U := none_) (fun i h1 h2 => h2) (fun i h1 h2 => by exact h2)
   have hx173 := OwnT.rd hO167
   have hz172 : o161.length = o9.length := by have := congrArg List.length hm171; simpa only [List.length_map] using this
   refine ocQ 89 (Linear_calls _ OA162 oc163 o161 T164 hx173 hR168 (map_all (P := (fun c : HCall => -9223372036854775808 ≤ c.op.amount ∧ c.op.amount ≤ 9223372036854775807)) hm171 (wide_amtO hLo hW)) (by omega)) ?_
   rintro _ w177 ⟨ok174, why175, rfl, K176, hE178⟩
   have e179 := Prod.mk.inj (hE178.trans (wide_fin hLo (by decide) hW hm171))
   obtain ⟨rfl, rfl⟩ := e179
   refine ⟨_, _, rfl, rfl, ?_⟩
   replace K105 := K105.trans K176 (U := none_) (fun i h1 h2 => h2) (fun i h1 h2 => by exact h2)
   refine ogd 5 [(10, .bool false), (13, .bool true), (14, i64 0)] ?_
   refine qsg ?_
   refine og 6 [(10, .bool false), (97, .bool true)] 6 ?_
   refine ocQ 98 (known_calls _) ?_
   rintro _ w181 ⟨rfl, K180⟩
   refine ⟨_, _, rfl, rfl, ?_⟩
   replace K105 := K105.trans K180 (U := none_) (fun i h1 h2 => h2) (fun i h1 h2 => by exact h2)
   refine ogd 2 [(10, .bool true)] ?_
   refine qtQ ?_
   refine ⟨(Value.bool true), retv_tmp rfl rfl, ?_⟩
   exact ⟨rfl, K105⟩
 ·skip
  refine Dr1.new (o := rowL [(i64 more.kind), (Value.string (str more.frm)), (Value.string (str more.to)), (i64 more.amount), (Value.string (str more.key)), (i64 more.slot), (i64 more.shard), (i64 5), (i64 6), (Value.bool t), (i64 50), (i64 0), (Value.slice none 0 0)] 30) (V := fun b => (Value.slice (some ⟨b, 0, none⟩) 1 1)) (by kernel_rfl) (d := (some 26)) (by kernel_rfl) (fun b => rfl) (fun b182 w183 hb184 H185 K186 hs187 => ?_)
  have lb182b1 : b1 < b182 := by have := H4.lt; omega
  have lb182b21 : b21 < b182 := by have := H30.lt; omega
  have nb182 : w.heap.size ≤ b182 := by have := K0.size; omega
  have xb182 : w32.heap.size ≤ b182 := by have := Kb34.size; omega
  replace K0 := K0.t0 K186
  replace O19 := own_keep0 O19 K186
  replace hR14 := RowsE.keep hR14 K186 (fun _ _ h => h)
  have Kb190 := Kb34.trans K186 (U := none_) (fun _ _ h => h) (fun i h1 h2 => by exact h2.elim)
  refine ⟨(SH.nil Kb190), ?_⟩
  clear K186 hs187
  refine soQ 1 ?_
  refine Dr1.call (by kernel_rfl) (d := (some 24)) (by kernel_rfl) (Lent_calls _ OA8 oc9 o7 (OwnT.rd O19) (fun y hy => ⟨hR14.1 y hy, by have := hoz18 y hy; omega⟩) (by omega)) ?_
  rintro _ w196 ⟨o191, OA192, oc193, T194, rfl, K195, hO197, hR198, hT199, hTV200, hm201⟩
  have oo207 : ∀ i, ((Value.slice OA8 o7.length oc9)).ownBlock = some i → ((Value.slice OA192 o191.length oc193)).ownBlock = some i → False := fun i hi hs => by have := (World.ownsRow.lt hO197 i hs).1; have := (World.ownsRow.lt O19 i hi).2; omega
  have O202 := own_base hO197 (K0.size)
  have oy209 : ∀ i, ((Value.slice OA192 o191.length oc193)).ownBlock = some i → w32.heap.size ≤ i := fun i hi => by have := (World.ownsRow.lt hO197 i hi).1; have := Kb190.size; omega
  have oo210 : ∀ i, ((Value.slice OA192 o191.length oc193)).ownBlock = some i → T10 i → False := fun i hs hi => by have := (World.ownsRow.lt hO197 i hs).1; have := RowsE.lt hR14 i hi; omega
  replace K0 := K0.t0 K195
  replace H185 := H185.kn K195
  replace O19 := own_keep0 O19 K195
  replace hR14 := RowsE.keep hR14 K195 (fun _ _ h => h)
  have Kb211 := Kb190.trans K195 (U := none_) (fun _ _ h => h) (fun i h1 h2 => by exact h2.elim)
  refine ⟨_, _, rfl, rfl, (SH.nil Kb211), ?_⟩
  have hz203 : o191.length = o7.length := by have := congrArg List.length hm201; simpa only [List.length_map] using this
  refine soQ 4 ?_
  obtain ⟨v212, w213, hr214, hO215, hK216, hg217⟩ := OwnT.app (ty := 22) HC.two HC.one tyHR O202 (show RdT _ 13 HC.cells _ [(⟨⟨more, 5, 6, t, ⟨50, 0, []⟩⟩, none, 0⟩ : HC)] from Rd.lit H185 (n := 1) rfl (by decide)) (by simp only [List.length_cons, List.length_nil]; omega) (by simp only [List.length_cons, List.length_nil]; omega) (K0.size)
  obtain ⟨A219, c220, rfl⟩ := RdT.form HC.two (by decide) (OwnT.rd hO215)
  have K218 := hK216
  replace K0 := K0.trans K218 (U := none_) (fun i h1 h2 => h2) (fun i h1 h2 => by have h2 : ((Value.slice OA192 o191.length oc193)).ownBlock = some i := h2; exfalso; have := (World.ownsRow.lt O202 i h2).1; omega)
  replace O19 := own_keep O19 K218 (fun i hi hs => by have hs : ((Value.slice OA192 o191.length oc193)).ownBlock = some i := hs; exact oo207 i hi hs)
  replace hR14 := RowsE.keep hR14 K218 (fun i hi hs => by have hs : ((Value.slice OA192 o191.length oc193)).ownBlock = some i := hs; exact oo210 i hs hi)
  replace hR198 := RowsE.keep hR198 K218 (fun i hi hs => by have hs : ((Value.slice OA192 o191.length oc193)).ownBlock = some i := hs; exact hTV200 i hs hi)
  have Kb228 := Kb211.trans K218 (U := none_) (fun _ _ h => h) (fun i h1 h2 => by have h2 : ((Value.slice OA192 o191.length oc193)).ownBlock = some i := h2; exfalso; have := oy209 i h2; omega)
  refine Dr1.go (v := (Value.slice A219 ((o191 ++ [(⟨⟨more, 5, 6, t, ⟨50, 0, []⟩⟩, none, 0⟩ : HC)]).length) c220)) (by kernel_rfl) (Runs.append (ts := #[22, 22]) (ty := 22) (vs := [(Value.slice OA192 o191.length oc193), (Value.slice (some ⟨b182, 0, none⟩) 1 1)]) (by kernel_rfl) hr214) (d := (some 27)) (by kernel_rfl) rfl (SH.nil Kb228) ?_
  clear K218 hr214 hK216 hg217
  refine soQ 5 ?_
  refine Dr1.call (by kernel_rfl) (d := (some 28)) (by kernel_rfl) (given_calls _ A219 c220 (o191 ++ [(⟨⟨more, 5, 6, t, ⟨50, 0, []⟩⟩, none, 0⟩ : HC)]) (OwnT.rd hO215) (fun y hy => (List.mem_append.1 hy).elim (fun h => ⟨hR198.1 y h, by have := of_map (P := fun c => c.rep.rows.length ≤ 1000) (m := o7.map HC.c) hm201 (fun c hc => by obtain ⟨z, hz, rfl⟩ := List.mem_map.1 hc; exact hoz18 z hz) y h; omega⟩) (fun h => by rw [List.mem_singleton] at h; subst h; exact ⟨Rd.nil _ _, by show 0 * 24 ≤ _; omega⟩)) (by rw [List.length_append]; simp only [List.length_cons, List.length_nil]; omega)) ?_
  rintro _ w234 ⟨o229, OA230, oc231, T232, rfl, K233, hO235, hR236, h237, h238, hm239⟩
  replace K0 := K0.t0 K233
  replace O19 := own_keep0 O19 K233
  replace hR14 := RowsE.keep hR14 K233 (fun _ _ h => h)
  have Kb242 := Kb228.trans K233 (U := none_) (fun _ _ h => h) (fun i h1 h2 => by exact h2.elim)
  refine ⟨_, _, rfl, rfl, (SH.nil Kb242), ?_⟩
  have hx241 := OwnT.rd hO235
  have hz240 : o229.length = (o191 ++ [(⟨⟨more, 5, 6, t, ⟨50, 0, []⟩⟩, none, 0⟩ : HC)]).length := by have := congrArg List.length hm239; simpa only [List.length_map] using this
  simp only [List.length_append, List.length_cons, List.length_nil] at hz240
  refine soQ 6 ?_
  refine Dr1.call (by kernel_rfl) (d := (some 29)) (by kernel_rfl) (Linear_calls _ OA230 oc231 o229 T232 hx241 hR236 (map_all (P := (fun c : HCall => -9223372036854775808 ≤ c.op.amount ∧ c.op.amount ≤ 9223372036854775807)) hm239 (fun y hy => (List.mem_append.1 hy).elim (fun h => map_all (P := (fun c : HCall => -9223372036854775808 ≤ c.op.amount ∧ c.op.amount ≤ 9223372036854775807)) hm201 (one_amtO hLo hm17) y h) (fun h => by rw [List.mem_singleton] at h; subst h; exact hMo.amount))) (by omega)) ?_
  rintro _ w246 ⟨ok243, why244, rfl, K245, hE247⟩
  have e248 := Prod.mk.inj (hE247.trans (more_fin (x := (⟨⟨more, 5, 6, t, ⟨50, 0, []⟩⟩, none, 0⟩ : HC)) hLo (by decide) hm17 hm201 hm239 rfl (by show (5 : Int) ≤ 6; decide) hMo))
  obtain ⟨rfl, rfl⟩ := e248
  replace K0 := K0.t0 K245
  replace O19 := own_keep0 O19 K245
  replace hR14 := RowsE.keep hR14 K245 (fun _ _ h => h)
  have Kb249 := Kb242.trans K245 (U := none_) (fun _ _ h => h) (fun i h1 h2 => by exact h2.elim)
  refine ⟨_, _, rfl, rfl, (SH.nil Kb249), ?_⟩
  refine skQ 0 [7, 8, 9, 10, 11] [(3, .slice EA es.length ec), (4, .slice FA fs.length fc), (10, .bool false), (11, .slice OA8 o7.length oc9), (13, .bool true), (14, i64 0)] ?_
  refine DrS.done (by kernel_rfl) ?_
  refine qs ?_
  refine qsg ?_
  refine ogd 6 [(3, .slice EA es.length ec), (4, .slice FA fs.length fc), (10, .bool false), (11, .slice OA8 o7.length oc9), (13, .bool true), (14, i64 0), (37, .bool false)] ?_
  refine q_else (o := .tmp 37) (by kernel_rfl) rfl ?_
  refine qkQ ?_
  refine qs ?_
  refine qsg ?_
  refine ogd 1 [(3, .slice EA es.length ec), (4, .slice FA fs.length fc), (10, .bool false), (11, .slice OA8 o7.length oc9), (13, .bool true), (14, i64 0), (15, i64 0)] ?_
  refine q_block (id := 0) (by kernel_rfl) ?_
  refine q_keep (R := [(3, .slice EA es.length ec), (4, .slice FA fs.length fc), (10, .bool false), (11, .slice OA8 o7.length oc9), (13, .bool true), (14, i64 0), (15, i64 0)]) (by kernel_rfl) ?_
  refine q_loop (fun (gs : Nat × (List HC)) L (wx : World) => match gs with | (ii, o9) => L = [(3, (Value.slice EA es.length ec)), (4, (Value.slice FA fs.length fc)), (10, (Value.bool false)), (11, (Value.slice OA8 o9.length oc9)), (13, (Value.bool true)), (14, (i64 0)), (15, (i64 ((ii : Nat) : Int)))] ∧ OwnT wx w.heap.size 30 13 HC.cells ((Value.slice OA8 o9.length oc9)) o9 ∧ WideL (oneA (l.take 6)).2 (o9.map HC.c) ∧ (∀ j y, ii ≤ j → o9[j]? = some y → (oneA (l.take 6)).2[j]? = some y.c) ∧ RowsE wx HC.rv HC.rows T10 o9 ∧ (∀ j, ((Value.slice OA8 o9.length oc9)).ownBlock = some j → T10 j → False) ∧ (∀ y ∈ o9, y.c.rep.rows.length ≤ 1000) ∧ ii ≤ o9.length ∧ Keeps none_ w wx) (fun (gs : Nat × (List HC)) => match gs with | (ii, o9) => o9.length - ii) (0, o7) (by kernel_rfl) ⟨rfl, O19, (by rw [hm17]; exact WideL.refl _), (fun j y _ hy => by rw [← hm17, List.getElem?_map, hy]; rfl), hR14, hTV16, hoz18, Nat.zero_le _, K0⟩ ?_
  clear O19 hR14 hR198 hO215 hx241 hR236 K0
  rintro ⟨ii, o9⟩ _ w250 ⟨rfl, hOV, hW, hS, hRT9, hTV9, hoz9, hi, K251⟩
  have hW1 := hW.1
  rw [oneA_len, List.length_take, List.length_map] at hW1
  refine qs ?_
  refine qsg ?_
  refine ogd 4 [(3, .slice EA es.length ec), (4, .slice FA fs.length fc), (10, .bool false), (11, .slice OA8 o9.length oc9), (13, .bool true), (14, i64 0), (15, i64 ↑ii), (41, (Value.bool (decide (((ii : Nat) : Int) < ((o9.length : Nat) : Int)))))] ?_
  refine qcQ 41 (decide (((ii : Nat) : Int) < ((o9.length : Nat) : Int))) rfl (fun h252 => ?_) (fun h252 => ?_)
  ·rw [h252]
   have p253 := of_decide_eq_true h252
   obtain ⟨y, hy⟩ : ∃ y, o9[ii]? = some y := ⟨_, List.getElem?_eq_getElem (by omega)⟩
   have hy0 := hS ii y (Nat.le_refl _) hy
   obtain ⟨hyb, hye, _⟩ := (oneA_one (l.take 6)).at_ ii _ hy0
   obtain ⟨gb, pre, suf, hA, hgb, hp, HX0, hput⟩ := OwnT.mid HC.two (by decide) hy hOV
   have ngb : w.heap.size ≤ gb := hgb
   have HX : Has w250 gb (rowL (pre ++ (HC.cells y) ++ suf) 30) := HX0
   clear HX0
   have Hgl := HX.lt
   have hTg : ∀ i, T10 i → i ≠ gb := fun i hi q => hTV9 gb (by rw [hA]; rfl) (q ▸ hi)
   refine qkQ ?_
   refine qs ?_
   refine q_block (id := 1) (by kernel_rfl) ?_
   refine qs ?_
   refine qsg ?_
   refine ogd 4 [(3, .slice EA es.length ec), (4, .slice FA fs.length fc), (10, .bool false), (11, .slice OA8 o9.length oc9), (13, .bool true), (14, i64 0), (15, i64 ↑ii), (47, (Value.bool (decide (((ii : Nat) : Int) < ((es.length : Nat) : Int)))))] ?_
   refine qcQ 47 (decide (((ii : Nat) : Int) < ((es.length : Nat) : Int))) rfl (fun h254 => ?_) (fun h254 => ?_)
   ·rw [h254]
    have p255 := of_decide_eq_true h254
    obtain ⟨rb256, ro257, e1, hA258, hx259⟩ := RdT.open (Rd.keep0 (by omega) hE K251) rfl (k := ii) (by omega)
    have hre1 := hes e1 (List.mem_of_getElem? hx259)
    obtain ⟨qe11, qe12, qe13, qe14⟩ := num20 e1
    refine q_drawS 18 (by kernel_rfl) (by kernel_rfl) (by kernel_rfl) (fun w260 K261 _ _ => ?_)
    replace K251 := K251.trans K261 (U := none_) (fun i h1 h2 => h2) (fun i h1 h2 => by exact h2)
    replace HX := HX.kn K261
    replace hRT9 := RowsE.keep hRT9 K261 (fun _ _ h => h)
    have Kb262 : Keeps (fun i => i = gb) w260 w260 := (Keeps.refl w260).mono (fun _ _ h => h.elim)
    refine ⟨fun wz => Keeps (fun i => i = gb) w260 wz, [(17, fun wz => Loads Tryd.prog wz 3 ⟨gb, ii * 13 + 7, none⟩ (i64 y.c.bg))], (SH.cons (SH.nil Kb262) (.inr (HX.loads (loadC1 (by kernel_rfl) (mid1 (k := 7) (by have := hp; omega) (by kernel_rfl)))))), ?_⟩
    refine skQ 14 [0, 1, 2, 3] [(3, .slice EA es.length ec), (4, .slice FA fs.length fc), (10, .bool false), (11, .slice OA8 o9.length oc9), (13, .bool true), (14, i64 0), (15, i64 ↑ii), (48, .slice OA8 o9.length oc9), (49, i64 ↑ii), (50, .slice OA8 o9.length oc9), (51, i64 ↑ii)] ?_
    refine stQ 4 (Value.pointer (some ⟨gb, ii * 13, none⟩)) 52 (fun wz hS => Runs.ixSliceE (k := IntKind.i64) (t := 22) (len := o9.length) (cap := oc9) (s := 13) (off' := ii * 13) (i := ((ii : Nat) : Int)) hA (by kernel_rfl) (by kernel_rfl) (by omega) (by omega) (by omega)) rfl ?_
    refine skQ 12 [5] [(3, .slice EA es.length ec), (4, .slice FA fs.length fc), (10, .bool false), (11, .slice OA8 o9.length oc9), (13, .bool true), (14, i64 0), (15, i64 ↑ii), (48, .slice OA8 o9.length oc9), (49, i64 ↑ii), (53, .pointer (some ⟨gb, ii * 13 + 7, none⟩))] ?_
    refine DrS.takeH (s := 17) (.head _) (i := 6) (v := (i64 y.c.bg)) (by kernel_rfl) (by kernel_rfl) (by kernel_rfl) (fun wz hB hp => Runs.load (t := 3) (a := ⟨gb, ii * 13 + 7, none⟩) (by kernel_rfl) hp) (d := (some 54)) (by kernel_rfl) rfl ?_
    refine skQ 9 [7, 8] [(3, .slice EA es.length ec), (4, .slice FA fs.length fc), (10, .bool false), (11, .slice OA8 o9.length oc9), (13, .bool true), (14, i64 0), (15, i64 ↑ii), (48, .slice OA8 o9.length oc9), (49, i64 ↑ii), (54, i64 y.c.bg), (55, .slice EA es.length ec), (56, i64 ↑ii)] ?_
    refine stQ 9 (Value.pointer (some ⟨rb256, ro257 + ii, none⟩)) 57 (fun wz hS => Runs.ixSliceE (k := IntKind.i64) (t := 35) (len := es.length) (cap := ec) (s := 1) (off' := ro257 + ii) (i := ((ii : Nat) : Int)) hA258 (by kernel_rfl) (by kernel_rfl) (by omega) (by omega) (by omega)) rfl ?_
    refine stQ 10 (i64 e1) 58 (fun wz hS => Runs.load (t := 3) (a := ⟨rb256, ro257 + ii, none⟩) (by kernel_rfl) (RdT.ldu (f := iI) (x := e1) iI_one (Rd.keep0 (by omega) hE (K251.trans hS (U := none_) (fun _ _ h => h) (fun i h1 h2 => by have h2 : i = gb := h2; exfalso; omega))) (by kernel_rfl) hA258 hx259 rfl)) rfl ?_
    refine skQ 5 [11, 12] [(3, .slice EA es.length ec), (4, .slice FA fs.length fc), (10, .bool false), (11, .slice OA8 o9.length oc9), (13, .bool true), (14, i64 0), (15, i64 ↑ii), (48, .slice OA8 o9.length oc9), (49, i64 ↑ii), (54, i64 y.c.bg), (60, (i64 (IntKind.i64.wrap (((e1).tmod 20) + 20))))] ?_
    have e263 : IntKind.i64.wrap (((e1).tmod 20) + 20) = ((e1).tmod 20) + 20 := wrap_i64 (by omega) (by omega)
    rw [e263]
    refine skQ 3 [13, 14] [(3, .slice EA es.length ec), (4, .slice FA fs.length fc), (10, .bool false), (11, .slice OA8 o9.length oc9), (13, .bool true), (14, i64 0), (15, i64 ↑ii), (48, .slice OA8 o9.length oc9), (49, i64 ↑ii), (62, (i64 (IntKind.i64.wrap (y.c.bg - ((((e1).tmod 20) + 20).tmod 20)))))] ?_
    have e264 : IntKind.i64.wrap (y.c.bg - ((((e1).tmod 20) + 20).tmod 20)) = y.c.bg - ((((e1).tmod 20) + 20).tmod 20) := wrap_i64 (by omega) (by omega)
    rw [e264]
    refine stQ 15 (Value.pointer (some ⟨gb, ii * 13, none⟩)) 63 (fun wz hS => Runs.ixSliceE (k := IntKind.i64) (t := 22) (len := o9.length) (cap := oc9) (s := 13) (off' := ii * 13) (i := ((ii : Nat) : Int)) hA (by kernel_rfl) (by kernel_rfl) (by omega) (by omega) (by omega)) rfl ?_
    refine skQ 1 [16] [(3, .slice EA es.length ec), (4, .slice FA fs.length fc), (10, .bool false), (11, .slice OA8 o9.length oc9), (13, .bool true), (14, i64 0), (15, i64 ↑ii), (62, (i64 (y.c.bg - ((((e1).tmod 20) + 20).tmod 20)))), (64, .pointer (some ⟨gb, ii * 13 + 7, none⟩))] ?_
    refine soQ 17 ?_
    refine Dr1.put (t := 3) (b := gb) (off := ii * 13 + 7) (v := (i64 (y.c.bg - ((((e1).tmod 20) + 20).tmod 20)))) (ys := (pre ++ [(i64 y.c.op.kind), (Value.string (str y.c.op.frm)), (Value.string (str y.c.op.to)), (i64 y.c.op.amount), (Value.string (str y.c.op.key)), (i64 y.c.op.slot), (i64 y.c.op.shard), (i64 (y.c.bg - ((((e1).tmod 20) + 20).tmod 20))), (i64 y.c.en), (Value.bool y.c.told), (i64 y.c.rep.why), (i64 y.c.rep.amount), (Value.slice y.A y.c.rep.rows.length y.k)] ++ suf)) (by kernel_rfl) (by kernel_rfl) HX (storeC1 (by kernel_rfl) (by kernel_rfl) (Nat.lt_of_lt_of_le (Nat.lt_succ_self _) (mid_len (vs := [(i64 (y.c.bg - ((((e1).tmod 20) + 20).tmod 20)))]) (k := 7) (by have := hp; omega) (Nat.le_of_ble_eq_true (by kernel_rfl)))) (mid_set1 (k := 7) (by have := hp; omega) (Nat.le_of_ble_eq_true (by kernel_rfl)))) (d := none) (by kernel_rfl) rfl (fun w265 H266 K267 => ?_)
    clear HX
    replace K251 := K251.trans K267 (U := none_) (fun i h1 h2 => h2) (fun i h1 h2 => by have h2 : i = gb := h2; exfalso; omega)
    replace hRT9 := RowsE.keep hRT9 K267 (fun i hi hs => by have hs : i = gb := hs; have := hTg i hi; omega)
    have Kb268 := Kb262.trans K267 (U := (fun i => i = gb)) (fun _ _ h => h) (fun i h1 h2 => by have h2 : i = gb := h2; exact h2)
    refine ⟨(SH.cons (SH.nil Kb268) (.inl (by kernel_rfl))), ?_⟩
    refine DrS.done (by kernel_rfl) ?_
    refine qsg ?_
    refine ogd 4 [(3, .slice EA es.length ec), (4, .slice FA fs.length fc), (10, .bool false), (11, .slice OA8 o9.length oc9), (13, .bool true), (14, i64 0), (15, i64 ↑ii), (68, (Value.bool (decide (((ii : Nat) : Int) < ((fs.length : Nat) : Int)))))] ?_
    refine qcQ 68 (decide (((ii : Nat) : Int) < ((fs.length : Nat) : Int))) rfl (fun h269 => ?_) (fun h269 => ?_)
    ·rw [h269]
     have p270 := of_decide_eq_true h269
     obtain ⟨rb271, ro272, e2, hA273, hx274⟩ := RdT.open (Rd.keep0 (by omega) hF K251) rfl (k := ii) (by omega)
     have hre2 := hfs e2 (List.mem_of_getElem? hx274)
     obtain ⟨qe21, qe22, qe23, qe24⟩ := num20 e2
     refine q_drawS 18 (by kernel_rfl) (by kernel_rfl) (by kernel_rfl) (fun w275 K276 _ _ => ?_)
     replace K251 := K251.trans K276 (U := none_) (fun i h1 h2 => h2) (fun i h1 h2 => by exact h2)
     replace H266 := H266.kn K276
     replace hRT9 := RowsE.keep hRT9 K276 (fun _ _ h => h)
     have Kb277 : Keeps (fun i => i = gb) w275 w275 := (Keeps.refl w275).mono (fun _ _ h => h.elim)
     refine ⟨fun wz => Keeps (fun i => i = gb) w275 wz, [(17, fun wz => Loads Tryd.prog wz 3 ⟨gb, ii * 13 + 8, none⟩ (i64 y.c.en))], (SH.cons (SH.nil Kb277) (.inr (H266.loads (loadC1 (by kernel_rfl) (mid1 (k := 8) (by have := hp; omega) (by kernel_rfl)))))), ?_⟩
     refine skQ 14 [0, 1, 2, 3] [(3, .slice EA es.length ec), (4, .slice FA fs.length fc), (10, .bool false), (11, .slice OA8 o9.length oc9), (13, .bool true), (14, i64 0), (15, i64 ↑ii), (69, .slice OA8 o9.length oc9), (70, i64 ↑ii), (71, .slice OA8 o9.length oc9), (72, i64 ↑ii)] ?_
     refine stQ 4 (Value.pointer (some ⟨gb, ii * 13, none⟩)) 73 (fun wz hS => Runs.ixSliceE (k := IntKind.i64) (t := 22) (len := o9.length) (cap := oc9) (s := 13) (off' := ii * 13) (i := ((ii : Nat) : Int)) hA (by kernel_rfl) (by kernel_rfl) (by omega) (by omega) (by omega)) rfl ?_
     refine skQ 12 [5] [(3, .slice EA es.length ec), (4, .slice FA fs.length fc), (10, .bool false), (11, .slice OA8 o9.length oc9), (13, .bool true), (14, i64 0), (15, i64 ↑ii), (69, .slice OA8 o9.length oc9), (70, i64 ↑ii), (74, .pointer (some ⟨gb, ii * 13 + 8, none⟩))] ?_
     refine DrS.takeH (s := 17) (.head _) (i := 6) (v := (i64 y.c.en)) (by kernel_rfl) (by kernel_rfl) (by kernel_rfl) (fun wz hB hp => Runs.load (t := 3) (a := ⟨gb, ii * 13 + 8, none⟩) (by kernel_rfl) hp) (d := (some 75)) (by kernel_rfl) rfl ?_
     refine skQ 9 [7, 8] [(3, .slice EA es.length ec), (4, .slice FA fs.length fc), (10, .bool false), (11, .slice OA8 o9.length oc9), (13, .bool true), (14, i64 0), (15, i64 ↑ii), (69, .slice OA8 o9.length oc9), (70, i64 ↑ii), (75, i64 y.c.en), (76, .slice FA fs.length fc), (77, i64 ↑ii)] ?_
     refine stQ 9 (Value.pointer (some ⟨rb271, ro272 + ii, none⟩)) 78 (fun wz hS => Runs.ixSliceE (k := IntKind.i64) (t := 35) (len := fs.length) (cap := fc) (s := 1) (off' := ro272 + ii) (i := ((ii : Nat) : Int)) hA273 (by kernel_rfl) (by kernel_rfl) (by omega) (by omega) (by omega)) rfl ?_
     refine stQ 10 (i64 e2) 79 (fun wz hS => Runs.load (t := 3) (a := ⟨rb271, ro272 + ii, none⟩) (by kernel_rfl) (RdT.ldu (f := iI) (x := e2) iI_one (Rd.keep0 (by omega) hF (K251.trans hS (U := none_) (fun _ _ h => h) (fun i h1 h2 => by have h2 : i = gb := h2; exfalso; omega))) (by kernel_rfl) hA273 hx274 rfl)) rfl ?_
     refine skQ 5 [11, 12] [(3, .slice EA es.length ec), (4, .slice FA fs.length fc), (10, .bool false), (11, .slice OA8 o9.length oc9), (13, .bool true), (14, i64 0), (15, i64 ↑ii), (69, .slice OA8 o9.length oc9), (70, i64 ↑ii), (75, i64 y.c.en), (81, (i64 (IntKind.i64.wrap (((e2).tmod 20) + 20))))] ?_
     have e278 : IntKind.i64.wrap (((e2).tmod 20) + 20) = ((e2).tmod 20) + 20 := wrap_i64 (by omega) (by omega)
     rw [e278]
     refine skQ 3 [13, 14] [(3, .slice EA es.length ec), (4, .slice FA fs.length fc), (10, .bool false), (11, .slice OA8 o9.length oc9), (13, .bool true), (14, i64 0), (15, i64 ↑ii), (69, .slice OA8 o9.length oc9), (70, i64 ↑ii), (83, (i64 (IntKind.i64.wrap (y.c.en + ((((e2).tmod 20) + 20).tmod 20)))))] ?_
     have e279 : IntKind.i64.wrap (y.c.en + ((((e2).tmod 20) + 20).tmod 20)) = y.c.en + ((((e2).tmod 20) + 20).tmod 20) := wrap_i64 (by omega) (by omega)
     rw [e279]
     refine stQ 15 (Value.pointer (some ⟨gb, ii * 13, none⟩)) 84 (fun wz hS => Runs.ixSliceE (k := IntKind.i64) (t := 22) (len := o9.length) (cap := oc9) (s := 13) (off' := ii * 13) (i := ((ii : Nat) : Int)) hA (by kernel_rfl) (by kernel_rfl) (by omega) (by omega) (by omega)) rfl ?_
     refine skQ 1 [16] [(3, .slice EA es.length ec), (4, .slice FA fs.length fc), (10, .bool false), (11, .slice OA8 o9.length oc9), (13, .bool true), (14, i64 0), (15, i64 ↑ii), (83, (i64 (y.c.en + ((((e2).tmod 20) + 20).tmod 20)))), (85, .pointer (some ⟨gb, ii * 13 + 8, none⟩))] ?_
     refine soQ 17 ?_
     refine Dr1.put (t := 3) (b := gb) (off := ii * 13 + 8) (v := (i64 (y.c.en + ((((e2).tmod 20) + 20).tmod 20)))) (ys := (pre ++ [(i64 y.c.op.kind), (Value.string (str y.c.op.frm)), (Value.string (str y.c.op.to)), (i64 y.c.op.amount), (Value.string (str y.c.op.key)), (i64 y.c.op.slot), (i64 y.c.op.shard), (i64 (y.c.bg - ((((e1).tmod 20) + 20).tmod 20))), (i64 (y.c.en + ((((e2).tmod 20) + 20).tmod 20))), (Value.bool y.c.told), (i64 y.c.rep.why), (i64 y.c.rep.amount), (Value.slice y.A y.c.rep.rows.length y.k)] ++ suf)) (by kernel_rfl) (by kernel_rfl) H266 (storeC1 (by kernel_rfl) (by kernel_rfl) (Nat.lt_of_lt_of_le (Nat.lt_succ_self _) (mid_len (vs := [(i64 (y.c.en + ((((e2).tmod 20) + 20).tmod 20)))]) (k := 8) (by have := hp; omega) (Nat.le_of_ble_eq_true (by kernel_rfl)))) (mid_set1 (k := 8) (by have := hp; omega) (Nat.le_of_ble_eq_true (by kernel_rfl)))) (d := none) (by kernel_rfl) rfl (fun w280 H281 K282 => ?_)
     replace K251 := K251.trans K282 (U := none_) (fun i h1 h2 => h2) (fun i h1 h2 => by have h2 : i = gb := h2; exfalso; omega)
     replace hRT9 := RowsE.keep hRT9 K282 (fun i hi hs => by have hs : i = gb := hs; have := hTg i hi; omega)
     have Kb283 := Kb277.trans K282 (U := (fun i => i = gb)) (fun _ _ h => h) (fun i h1 h2 => by have h2 : i = gb := h2; exact h2)
     refine ⟨(SH.cons (SH.nil Kb283) (.inl (by kernel_rfl))), ?_⟩
     refine DrS.done (by kernel_rfl) ?_
     refine qg ?_
     refine og 2 [(3, .slice EA es.length ec), (4, .slice FA fs.length fc), (10, .bool false), (11, .slice OA8 o9.length oc9), (13, .bool true), (14, i64 0), (15, i64 ↑ii), (43, (i64 (IntKind.i64.wrap (((ii : Nat) : Int) + 1))))] 2 ?_
     rw [show IntKind.i64.wrap (((ii : Nat) : Int) + 1) = ((ii + 1 : Nat) : Int) from by rw [wrap_i64 (by omega) (by omega)]; omega]
     refine og 1 [(3, .slice EA es.length ec), (4, .slice FA fs.length fc), (10, .bool false), (11, .slice OA8 o9.length oc9), (13, .bool true), (14, i64 0), (15, i64 ↑(ii + 1))] 3 ?_
     rw [show Value.slice OA8 o9.length oc9 = Value.slice OA8 (o9.set ii (⟨⟨y.c.op, y.c.bg - ((((e1).tmod 20) + 20).tmod 20), y.c.en + ((((e2).tmod 20) + 20).tmod 20), y.c.told, y.c.rep⟩, y.A, y.k⟩ : HC)).length oc9 from by rw [List.length_set]]
     refine ok_ [(3, .slice EA es.length ec), (4, .slice FA fs.length fc), (10, .bool false), (11, (Value.slice OA8 ((o9.set ii (⟨⟨y.c.op, y.c.bg - ((((e1).tmod 20) + 20).tmod 20), y.c.en + ((((e2).tmod 20) + 20).tmod 20), y.c.told, y.c.rep⟩, y.A, y.k⟩ : HC)).length) oc9)), (13, .bool true), (14, i64 0), (15, i64 ↑(ii + 1))] ?_
     refine od ?_
     exact ⟨(ii + 1, (o9.set ii (⟨⟨y.c.op, y.c.bg - ((((e1).tmod 20) + 20).tmod 20), y.c.en + ((((e2).tmod 20) + 20).tmod 20), y.c.told, y.c.rep⟩, y.A, y.k⟩ : HC))), ⟨rfl, (by rw [List.length_set]; exact hput (⟨⟨y.c.op, y.c.bg - ((((e1).tmod 20) + 20).tmod 20), y.c.en + ((((e2).tmod 20) + 20).tmod 20), y.c.told, y.c.rep⟩, y.A, y.k⟩ : HC) _ H281), (wide_setO (Y := (⟨⟨y.c.op, y.c.bg - ((((e1).tmod 20) + 20).tmod 20), y.c.en + ((((e2).tmod 20) + 20).tmod 20), y.c.told, y.c.rep⟩, y.A, y.k⟩ : HC)) hW hy hy0 ⟨rfl, rfl, rfl, (by dsimp only; omega), (by dsimp only; omega)⟩), (same_setO hS), (RowsE.setY hRT9 hy rfl rfl), (fun j => by rw [List.length_set]; exact hTV9 j), (all_setO (P := fun y => y.c.rep.rows.length ≤ 1000) hoz9 (hoz9 y (List.mem_of_getElem? hy))), (by rw [List.length_set]; omega), K251⟩, (show (o9.set ii (⟨⟨y.c.op, y.c.bg - ((((e1).tmod 20) + 20).tmod 20), y.c.en + ((((e2).tmod 20) + 20).tmod 20), y.c.told, y.c.rep⟩, y.A, y.k⟩ : HC)).length - (ii + 1) < o9.length - ii from by rw [List.length_set]; omega)⟩
    ·rw [h269]
     have p285 := of_decide_eq_false h269
     refine qkQ ?_
     refine qg ?_
     refine og 2 [(3, .slice EA es.length ec), (4, .slice FA fs.length fc), (10, .bool false), (11, .slice OA8 o9.length oc9), (13, .bool true), (14, i64 0), (15, i64 ↑ii), (43, (i64 (IntKind.i64.wrap (((ii : Nat) : Int) + 1))))] 2 ?_
     rw [show IntKind.i64.wrap (((ii : Nat) : Int) + 1) = ((ii + 1 : Nat) : Int) from by rw [wrap_i64 (by omega) (by omega)]; omega]
     refine og 1 [(3, .slice EA es.length ec), (4, .slice FA fs.length fc), (10, .bool false), (11, .slice OA8 o9.length oc9), (13, .bool true), (14, i64 0), (15, i64 ↑(ii + 1))] 3 ?_
     rw [show Value.slice OA8 o9.length oc9 = Value.slice OA8 (o9.set ii (⟨⟨y.c.op, y.c.bg - ((((e1).tmod 20) + 20).tmod 20), y.c.en, y.c.told, y.c.rep⟩, y.A, y.k⟩ : HC)).length oc9 from by rw [List.length_set]]
     refine ok_ [(3, .slice EA es.length ec), (4, .slice FA fs.length fc), (10, .bool false), (11, (Value.slice OA8 ((o9.set ii (⟨⟨y.c.op, y.c.bg - ((((e1).tmod 20) + 20).tmod 20), y.c.en, y.c.told, y.c.rep⟩, y.A, y.k⟩ : HC)).length) oc9)), (13, .bool true), (14, i64 0), (15, i64 ↑(ii + 1))] ?_
     refine od ?_
     exact ⟨(ii + 1, (o9.set ii (⟨⟨y.c.op, y.c.bg - ((((e1).tmod 20) + 20).tmod 20), y.c.en, y.c.told, y.c.rep⟩, y.A, y.k⟩ : HC))), ⟨rfl, (by rw [List.length_set]; exact hput (⟨⟨y.c.op, y.c.bg - ((((e1).tmod 20) + 20).tmod 20), y.c.en, y.c.told, y.c.rep⟩, y.A, y.k⟩ : HC) _ H266), (wide_setO (Y := (⟨⟨y.c.op, y.c.bg - ((((e1).tmod 20) + 20).tmod 20), y.c.en, y.c.told, y.c.rep⟩, y.A, y.k⟩ : HC)) hW hy hy0 ⟨rfl, rfl, rfl, (by dsimp only; omega), (by dsimp only; omega)⟩), (same_setO hS), (RowsE.setY hRT9 hy rfl rfl), (fun j => by rw [List.length_set]; exact hTV9 j), (all_setO (P := fun y => y.c.rep.rows.length ≤ 1000) hoz9 (hoz9 y (List.mem_of_getElem? hy))), (by rw [List.length_set]; omega), K251⟩, (show (o9.set ii (⟨⟨y.c.op, y.c.bg - ((((e1).tmod 20) + 20).tmod 20), y.c.en, y.c.told, y.c.rep⟩, y.A, y.k⟩ : HC)).length - (ii + 1) < o9.length - ii from by rw [List.length_set]; omega)⟩
   ·rw [h254]
    have p287 := of_decide_eq_false h254
    refine qkQ ?_
    refine qsg ?_
    refine ogd 4 [(3, .slice EA es.length ec), (4, .slice FA fs.length fc), (10, .bool false), (11, .slice OA8 o9.length oc9), (13, .bool true), (14, i64 0), (15, i64 ↑ii), (68, (Value.bool (decide (((ii : Nat) : Int) < ((fs.length : Nat) : Int)))))] ?_
    refine qcQ 68 (decide (((ii : Nat) : Int) < ((fs.length : Nat) : Int))) rfl (fun h288 => ?_) (fun h288 => ?_)
    ·rw [h288]
     have p289 := of_decide_eq_true h288
     obtain ⟨rb290, ro291, e2, hA292, hx293⟩ := RdT.open (Rd.keep0 (by omega) hF K251) rfl (k := ii) (by omega)
     have hre2 := hfs e2 (List.mem_of_getElem? hx293)
     obtain ⟨qe21, qe22, qe23, qe24⟩ := num20 e2
     refine q_drawS 18 (by kernel_rfl) (by kernel_rfl) (by kernel_rfl) (fun w294 K295 _ _ => ?_)
     replace K251 := K251.trans K295 (U := none_) (fun i h1 h2 => h2) (fun i h1 h2 => by exact h2)
     replace HX := HX.kn K295
     replace hRT9 := RowsE.keep hRT9 K295 (fun _ _ h => h)
     have Kb296 : Keeps (fun i => i = gb) w294 w294 := (Keeps.refl w294).mono (fun _ _ h => h.elim)
     refine ⟨fun wz => Keeps (fun i => i = gb) w294 wz, [(17, fun wz => Loads Tryd.prog wz 3 ⟨gb, ii * 13 + 8, none⟩ (i64 y.c.en))], (SH.cons (SH.nil Kb296) (.inr (HX.loads (loadC1 (by kernel_rfl) (mid1 (k := 8) (by have := hp; omega) (by kernel_rfl)))))), ?_⟩
     refine skQ 14 [0, 1, 2, 3] [(3, .slice EA es.length ec), (4, .slice FA fs.length fc), (10, .bool false), (11, .slice OA8 o9.length oc9), (13, .bool true), (14, i64 0), (15, i64 ↑ii), (69, .slice OA8 o9.length oc9), (70, i64 ↑ii), (71, .slice OA8 o9.length oc9), (72, i64 ↑ii)] ?_
     refine stQ 4 (Value.pointer (some ⟨gb, ii * 13, none⟩)) 73 (fun wz hS => Runs.ixSliceE (k := IntKind.i64) (t := 22) (len := o9.length) (cap := oc9) (s := 13) (off' := ii * 13) (i := ((ii : Nat) : Int)) hA (by kernel_rfl) (by kernel_rfl) (by omega) (by omega) (by omega)) rfl ?_
     refine skQ 12 [5] [(3, .slice EA es.length ec), (4, .slice FA fs.length fc), (10, .bool false), (11, .slice OA8 o9.length oc9), (13, .bool true), (14, i64 0), (15, i64 ↑ii), (69, .slice OA8 o9.length oc9), (70, i64 ↑ii), (74, .pointer (some ⟨gb, ii * 13 + 8, none⟩))] ?_
     refine DrS.takeH (s := 17) (.head _) (i := 6) (v := (i64 y.c.en)) (by kernel_rfl) (by kernel_rfl) (by kernel_rfl) (fun wz hB hp => Runs.load (t := 3) (a := ⟨gb, ii * 13 + 8, none⟩) (by kernel_rfl) hp) (d := (some 75)) (by kernel_rfl) rfl ?_
     refine skQ 9 [7, 8] [(3, .slice EA es.length ec), (4, .slice FA fs.length fc), (10, .bool false), (11, .slice OA8 o9.length oc9), (13, .bool true), (14, i64 0), (15, i64 ↑ii), (69, .slice OA8 o9.length oc9), (70, i64 ↑ii), (75, i64 y.c.en), (76, .slice FA fs.length fc), (77, i64 ↑ii)] ?_
     refine stQ 9 (Value.pointer (some ⟨rb290, ro291 + ii, none⟩)) 78 (fun wz hS => Runs.ixSliceE (k := IntKind.i64) (t := 35) (len := fs.length) (cap := fc) (s := 1) (off' := ro291 + ii) (i := ((ii : Nat) : Int)) hA292 (by kernel_rfl) (by kernel_rfl) (by omega) (by omega) (by omega)) rfl ?_
     refine stQ 10 (i64 e2) 79 (fun wz hS => Runs.load (t := 3) (a := ⟨rb290, ro291 + ii, none⟩) (by kernel_rfl) (RdT.ldu (f := iI) (x := e2) iI_one (Rd.keep0 (by omega) hF (K251.trans hS (U := none_) (fun _ _ h => h) (fun i h1 h2 => by have h2 : i = gb := h2; exfalso; omega))) (by kernel_rfl) hA292 hx293 rfl)) rfl ?_
     refine skQ 5 [11, 12] [(3, .slice EA es.length ec), (4, .slice FA fs.length fc), (10, .bool false), (11, .slice OA8 o9.length oc9), (13, .bool true), (14, i64 0), (15, i64 ↑ii), (69, .slice OA8 o9.length oc9), (70, i64 ↑ii), (75, i64 y.c.en), (81, (i64 (IntKind.i64.wrap (((e2).tmod 20) + 20))))] ?_
     have e297 : IntKind.i64.wrap (((e2).tmod 20) + 20) = ((e2).tmod 20) + 20 := wrap_i64 (by omega) (by omega)
     rw [e297]
     refine skQ 3 [13, 14] [(3, .slice EA es.length ec), (4, .slice FA fs.length fc), (10, .bool false), (11, .slice OA8 o9.length oc9), (13, .bool true), (14, i64 0), (15, i64 ↑ii), (69, .slice OA8 o9.length oc9), (70, i64 ↑ii), (83, (i64 (IntKind.i64.wrap (y.c.en + ((((e2).tmod 20) + 20).tmod 20)))))] ?_
     have e298 : IntKind.i64.wrap (y.c.en + ((((e2).tmod 20) + 20).tmod 20)) = y.c.en + ((((e2).tmod 20) + 20).tmod 20) := wrap_i64 (by omega) (by omega)
     rw [e298]
     refine stQ 15 (Value.pointer (some ⟨gb, ii * 13, none⟩)) 84 (fun wz hS => Runs.ixSliceE (k := IntKind.i64) (t := 22) (len := o9.length) (cap := oc9) (s := 13) (off' := ii * 13) (i := ((ii : Nat) : Int)) hA (by kernel_rfl) (by kernel_rfl) (by omega) (by omega) (by omega)) rfl ?_
     refine skQ 1 [16] [(3, .slice EA es.length ec), (4, .slice FA fs.length fc), (10, .bool false), (11, .slice OA8 o9.length oc9), (13, .bool true), (14, i64 0), (15, i64 ↑ii), (83, (i64 (y.c.en + ((((e2).tmod 20) + 20).tmod 20)))), (85, .pointer (some ⟨gb, ii * 13 + 8, none⟩))] ?_
     refine soQ 17 ?_
     refine Dr1.put (t := 3) (b := gb) (off := ii * 13 + 8) (v := (i64 (y.c.en + ((((e2).tmod 20) + 20).tmod 20)))) (ys := (pre ++ [(i64 y.c.op.kind), (Value.string (str y.c.op.frm)), (Value.string (str y.c.op.to)), (i64 y.c.op.amount), (Value.string (str y.c.op.key)), (i64 y.c.op.slot), (i64 y.c.op.shard), (i64 y.c.bg), (i64 (y.c.en + ((((e2).tmod 20) + 20).tmod 20))), (Value.bool y.c.told), (i64 y.c.rep.why), (i64 y.c.rep.amount), (Value.slice y.A y.c.rep.rows.length y.k)] ++ suf)) (by kernel_rfl) (by kernel_rfl) HX (storeC1 (by kernel_rfl) (by kernel_rfl) (Nat.lt_of_lt_of_le (Nat.lt_succ_self _) (mid_len (vs := [(i64 (y.c.en + ((((e2).tmod 20) + 20).tmod 20)))]) (k := 8) (by have := hp; omega) (Nat.le_of_ble_eq_true (by kernel_rfl)))) (mid_set1 (k := 8) (by have := hp; omega) (Nat.le_of_ble_eq_true (by kernel_rfl)))) (d := none) (by kernel_rfl) rfl (fun w299 H300 K301 => ?_)
     clear HX
     replace K251 := K251.trans K301 (U := none_) (fun i h1 h2 => h2) (fun i h1 h2 => by have h2 : i = gb := h2; exfalso; omega)
     replace hRT9 := RowsE.keep hRT9 K301 (fun i hi hs => by have hs : i = gb := hs; have := hTg i hi; omega)
     have Kb302 := Kb296.trans K301 (U := (fun i => i = gb)) (fun _ _ h => h) (fun i h1 h2 => by have h2 : i = gb := h2; exact h2)
     refine ⟨(SH.cons (SH.nil Kb302) (.inl (by kernel_rfl))), ?_⟩
     refine DrS.done (by kernel_rfl) ?_
     refine qg ?_
     refine og 2 [(3, .slice EA es.length ec), (4, .slice FA fs.length fc), (10, .bool false), (11, .slice OA8 o9.length oc9), (13, .bool true), (14, i64 0), (15, i64 ↑ii), (43, (i64 (IntKind.i64.wrap (((ii : Nat) : Int) + 1))))] 2 ?_
     rw [show IntKind.i64.wrap (((ii : Nat) : Int) + 1) = ((ii + 1 : Nat) : Int) from by rw [wrap_i64 (by omega) (by omega)]; omega]
     refine og 1 [(3, .slice EA es.length ec), (4, .slice FA fs.length fc), (10, .bool false), (11, .slice OA8 o9.length oc9), (13, .bool true), (14, i64 0), (15, i64 ↑(ii + 1))] 3 ?_
     rw [show Value.slice OA8 o9.length oc9 = Value.slice OA8 (o9.set ii (⟨⟨y.c.op, y.c.bg, y.c.en + ((((e2).tmod 20) + 20).tmod 20), y.c.told, y.c.rep⟩, y.A, y.k⟩ : HC)).length oc9 from by rw [List.length_set]]
     refine ok_ [(3, .slice EA es.length ec), (4, .slice FA fs.length fc), (10, .bool false), (11, (Value.slice OA8 ((o9.set ii (⟨⟨y.c.op, y.c.bg, y.c.en + ((((e2).tmod 20) + 20).tmod 20), y.c.told, y.c.rep⟩, y.A, y.k⟩ : HC)).length) oc9)), (13, .bool true), (14, i64 0), (15, i64 ↑(ii + 1))] ?_
     refine od ?_
     exact ⟨(ii + 1, (o9.set ii (⟨⟨y.c.op, y.c.bg, y.c.en + ((((e2).tmod 20) + 20).tmod 20), y.c.told, y.c.rep⟩, y.A, y.k⟩ : HC))), ⟨rfl, (by rw [List.length_set]; exact hput (⟨⟨y.c.op, y.c.bg, y.c.en + ((((e2).tmod 20) + 20).tmod 20), y.c.told, y.c.rep⟩, y.A, y.k⟩ : HC) _ H300), (wide_setO (Y := (⟨⟨y.c.op, y.c.bg, y.c.en + ((((e2).tmod 20) + 20).tmod 20), y.c.told, y.c.rep⟩, y.A, y.k⟩ : HC)) hW hy hy0 ⟨rfl, rfl, rfl, (by dsimp only; omega), (by dsimp only; omega)⟩), (same_setO hS), (RowsE.setY hRT9 hy rfl rfl), (fun j => by rw [List.length_set]; exact hTV9 j), (all_setO (P := fun y => y.c.rep.rows.length ≤ 1000) hoz9 (hoz9 y (List.mem_of_getElem? hy))), (by rw [List.length_set]; omega), K251⟩, (show (o9.set ii (⟨⟨y.c.op, y.c.bg, y.c.en + ((((e2).tmod 20) + 20).tmod 20), y.c.told, y.c.rep⟩, y.A, y.k⟩ : HC)).length - (ii + 1) < o9.length - ii from by rw [List.length_set]; omega)⟩
    ·rw [h288]
     have p304 := of_decide_eq_false h288
     refine qkQ ?_
     refine qg ?_
     refine og 2 [(3, .slice EA es.length ec), (4, .slice FA fs.length fc), (10, .bool false), (11, .slice OA8 o9.length oc9), (13, .bool true), (14, i64 0), (15, i64 ↑ii), (43, (i64 (IntKind.i64.wrap (((ii : Nat) : Int) + 1))))] 2 ?_
     rw [show IntKind.i64.wrap (((ii : Nat) : Int) + 1) = ((ii + 1 : Nat) : Int) from by rw [wrap_i64 (by omega) (by omega)]; omega]
     refine og 1 [(3, .slice EA es.length ec), (4, .slice FA fs.length fc), (10, .bool false), (11, .slice OA8 o9.length oc9), (13, .bool true), (14, i64 0), (15, i64 ↑(ii + 1))] 3 ?_
     rw [show Value.slice OA8 o9.length oc9 = Value.slice OA8 (o9.set ii (⟨⟨y.c.op, y.c.bg, y.c.en, y.c.told, y.c.rep⟩, y.A, y.k⟩ : HC)).length oc9 from by rw [List.length_set]]
     refine ok_ [(3, .slice EA es.length ec), (4, .slice FA fs.length fc), (10, .bool false), (11, (Value.slice OA8 ((o9.set ii (⟨⟨y.c.op, y.c.bg, y.c.en, y.c.told, y.c.rep⟩, y.A, y.k⟩ : HC)).length) oc9)), (13, .bool true), (14, i64 0), (15, i64 ↑(ii + 1))] ?_
     refine od ?_
     exact ⟨(ii + 1, (o9.set ii (⟨⟨y.c.op, y.c.bg, y.c.en, y.c.told, y.c.rep⟩, y.A, y.k⟩ : HC))), ⟨rfl, (by rw [List.length_set]; exact hput (⟨⟨y.c.op, y.c.bg, y.c.en, y.c.told, y.c.rep⟩, y.A, y.k⟩ : HC) _ HX), (wide_setO (Y := (⟨⟨y.c.op, y.c.bg, y.c.en, y.c.told, y.c.rep⟩, y.A, y.k⟩ : HC)) hW hy hy0 ⟨rfl, rfl, rfl, (by dsimp only; omega), (by dsimp only; omega)⟩), (same_setO hS), (RowsE.setY hRT9 hy rfl rfl), (fun j => by rw [List.length_set]; exact hTV9 j), (all_setO (P := fun y => y.c.rep.rows.length ≤ 1000) hoz9 (hoz9 y (List.mem_of_getElem? hy))), (by rw [List.length_set]; omega), K251⟩, (show (o9.set ii (⟨⟨y.c.op, y.c.bg, y.c.en, y.c.told, y.c.rep⟩, y.A, y.k⟩ : HC)).length - (ii + 1) < o9.length - ii from by rw [List.length_set]; omega)⟩
  ·rw [h252]
   have p306 := of_decide_eq_false h252
   refine q_exit (id := 0) (by kernel_rfl) ?_
   refine qsg ?_
   refine og 1 [(10, .bool false), (13, .bool true), (14, i64 0), (87, .slice OA8 o9.length oc9)] 1 ?_
   refine ocQ 88 (given_calls _ OA8 oc9 o9 (OwnT.rd hOV) (fun y hy => ⟨hRT9.1 y hy, by have := hoz9 y hy; omega⟩) (by omega)) ?_
   rintro _ w312 ⟨o307, OA308, oc309, T310, rfl, K311, hO313, hR314, h315, h316, hm317⟩
   refine ⟨_, _, rfl, rfl, ?_⟩
   replace K251 := K251.trans K311 (U := none_) (fun i h1 h2 => h2) (fun i h1 h2 => by exact h2)
   have hx319 := OwnT.rd hO313
   have hz318 : o307.length = o9.length := by have := congrArg List.length hm317; simpa only [List.length_map] using this
   refine ocQ 89 (Linear_calls _ OA308 oc309 o307 T310 hx319 hR314 (map_all (P := (fun c : HCall => -9223372036854775808 ≤ c.op.amount ∧ c.op.amount ≤ 9223372036854775807)) hm317 (wide_amtO hLo hW)) (by omega)) ?_
   rintro _ w323 ⟨ok320, why321, rfl, K322, hE324⟩
   have e325 := Prod.mk.inj (hE324.trans (wide_fin hLo (by decide) hW hm317))
   obtain ⟨rfl, rfl⟩ := e325
   refine ⟨_, _, rfl, rfl, ?_⟩
   replace K251 := K251.trans K322 (U := none_) (fun i h1 h2 => h2) (fun i h1 h2 => by exact h2)
   refine ogd 5 [(10, .bool false), (13, .bool true), (14, i64 0)] ?_
   refine qsg ?_
   refine og 6 [(10, .bool false), (97, .bool true)] 6 ?_
   refine ocQ 98 (known_calls _) ?_
   rintro _ w327 ⟨rfl, K326⟩
   refine ⟨_, _, rfl, rfl, ?_⟩
   replace K251 := K251.trans K326 (U := none_) (fun i h1 h2 => h2) (fun i h1 h2 => by exact h2)
   refine ogd 2 [(10, .bool true)] ?_
   refine qtQ ?_
   refine ⟨(Value.bool true), retv_tmp rfl rfl, ?_⟩
   exact ⟨rfl, K251⟩
end Go.Proofs.YtnbcghbgeiocbaaDoor
namespace Go.Q
open Go.ChangeShapes Go.WideShapes Go.ChangeAt Go.RowKit Go.Deep
variable {H : Type} {enc : TypeId × Value → H} {P : Program} {w : World} {spare : Nat → Bool} {held : Bool}
theorem open_ops {t e : TypeId} {fs : Array Field} {v : Value} {d : DataW H} {ps : List MemPlace} (ht : P.underlying t = some (.slice e)) (he : P.underlying e = some (.struct fs)) (hone : oneCellFields P fs = true) (hC : P.cellsOf e = fs.size) (h7 : fs.size = 7)
  (k0 : fieldOf? P fs 0 = some (.int .i64)) (k1 : fieldOf? P fs 1 = some .string) (k2 : fieldOf? P fs 2 = some .string) (k3 : fieldOf? P fs 3 = some (.int .i64)) (k4 : fieldOf? P fs 4 = some .string) (k5 : fieldOf? P fs 5 = some (.int .i64)) (k6 : fieldOf? P fs 6 = some (.int .i64))
  (hv : Value.okWide P w .any 0 t v) (h : DataW.Trod enc P w 0 spare held t v d ps) : ∃ (l : List Opm) (A : Option Addr) (c : Nat), v = .slice A l.length c ∧ RdT w 7 Opm.cells (.slice A l.length c) l ∧ ∀ x ∈ l, x.Ok := by
 obtain ⟨fuel, h⟩ := trod_fuel h (slice_form ht hv)
 obtain ⟨l, hR, hg, _, A, c, rfl⟩ := open_models Opm.cells Opm.Ok ht (sz := 7) (by rw [hC, h7]) (by decide) (slice_trod ht h) h fun m cs y hl h => dec_op he hone hC h7 k0 k1 k2 k3 k4 k5 k6 (hl.trans h7.symm) h
 exact ⟨l, A, c, rfl, hR, hg⟩
end Go.Q
