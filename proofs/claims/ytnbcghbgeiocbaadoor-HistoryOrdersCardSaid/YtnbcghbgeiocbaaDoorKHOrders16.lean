/- What the claim stands on, part 16: rules of the walk, contracts of the functions, plain laws. -/
import Derived.Test.YtnbcghbgeiocbaaDoorProg
import Derived.Test.YtnbcghbgeiocbaaDoorKHOrders15
import Derived.Test.YtnbcghbgeiocbaaDoorKHOrders6
import Derived.Test.YtnbcghbgeiocbaaDoorKHOrders8
import Derived.Test.YtnbcghbgeiocbaaDoorKHOrders13
import Derived.Test.YtnbcghbgeiocbaaDoorKHOrders11
import Derived.Laws.OwnMore
set_option linter.unusedVariables false
namespace Go.Proofs.YtnbcghbgeiocbaaDoor
open Go.Q Go.RowKit
theorem known_calls (w : World)   : Calls Tryd.prog 10 ⟨[]⟩ w (fun e w' => e = .returned (.bool true) ∧ Keeps none_ w w') := by
 have K0 : Keeps none_ w w := Keeps.refl w
 refine q_calls Tryd.func10 (by kernel_rfl) (by kernel_rfl) ?_
 refine qsg ?_
 refine odz 1 ?_
 refine qsg ?_
 refine og 1 [(0, .bool false), (12, (agg [(i64 1), (Value.string (str [97, 110, 110])), (Value.string ByteArray.empty), (i64 0), (Value.string (str [107])), (i64 0), (i64 0)]))] 1 ?_
 refine onew (rowL [(i64 0), (Value.string ByteArray.empty), (Value.string ByteArray.empty), (i64 0), (Value.string ByteArray.empty), (i64 0), (i64 0)] 24) (fun b => (ptr b)) 1 (fun b => rfl) (fun b1 w2 hb3 H4 K5 hs6 => ?_)
 have nb1 : w.heap.size ≤ b1 := by have := K0.size; omega
 replace K0 := K0.t0 K5
 clear K5 hs6
 refine oput 24 b1 [(i64 1), (Value.string (str [97, 110, 110])), (Value.string ByteArray.empty), (i64 0), (Value.string (str [107])), (i64 0), (i64 0)] H4 rfl (fun w7 H8 K9 => ?_)
 clear H4
 replace K0 := K0.t1 K9 fun _ => by omega
 clear K9
 refine od ?_
 refine qsg ?_
 refine og 1 [(0, .bool false), (1, ptr b1), (13, (agg [(i64 5), (Value.string (str [97, 110, 110])), (Value.string ByteArray.empty), (i64 0), (Value.string ByteArray.empty), (i64 0), (i64 0)]))] 1 ?_
 refine onew (rowL [(i64 0), (Value.string ByteArray.empty), (Value.string ByteArray.empty), (i64 0), (Value.string ByteArray.empty), (i64 0), (i64 0)] 24) (fun b => (ptr b)) 2 (fun b => rfl) (fun b10 w11 hb12 H13 K14 hs15 => ?_)
 have lb10b1 : b1 < b10 := by have := H8.lt; omega
 have nb10 : w.heap.size ≤ b10 := by have := K0.size; omega
 replace K0 := K0.t0 K14
 replace H8 := H8.kn K14
 clear K14 hs15
 refine oput 24 b10 [(i64 5), (Value.string (str [97, 110, 110])), (Value.string ByteArray.empty), (i64 0), (Value.string ByteArray.empty), (i64 0), (i64 0)] H13 rfl (fun w16 H17 K18 => ?_)
 replace K0 := K0.t1 K18 fun _ => by omega
 replace H8 := H8.k1 K18 (by omega)
 refine od ?_
 refine qsg ?_
 refine og 1 [(0, .bool false), (1, ptr b1), (2, ptr b10), (14, (agg [(i64 40), (i64 0), (Value.slice none 0 0)]))] 1 ?_
 refine onew (rowL [(i64 0), (i64 0), (Value.slice none 0 0)] 28) (fun b => (ptr b)) 3 (fun b => rfl) (fun b19 w20 hb21 H22 K23 hs24 => ?_)
 have lb19b1 : b1 < b19 := by have := H8.lt; omega
 have lb19b10 : b10 < b19 := by have := H17.lt; omega
 have nb19 : w.heap.size ≤ b19 := by have := K0.size; omega
 replace K0 := K0.t0 K23
 replace H8 := H8.kn K23
 replace H17 := H17.kn K23
 clear K23 hs24
 refine oput 28 b19 [(i64 40), (i64 0), (Value.slice none 0 0)] H22 rfl (fun w25 H26 K27 => ?_)
 replace K0 := K0.t1 K27 fun _ => by omega
 replace H8 := H8.k1 K27 (by omega)
 replace H17 := H17.k1 K27 (by omega)
 refine od ?_
 refine qsg ?_
 refine ogo (agg [(i64 1), (Value.string (str [97, 110, 110])), (Value.string ByteArray.empty), (i64 0), (Value.string (str [107])), (i64 0), (i64 0)]) 16 (rld 24 b1 0 H8) rfl ?_
 refine og 1 [(0, .bool false), (1, ptr b1), (2, ptr b10), (3, ptr b19), (17, (agg [(i64 1), (Value.string (str [97, 110, 110])), (Value.string ByteArray.empty), (i64 0), (Value.string (str [107])), (i64 0), (i64 0), (i64 1), (i64 2), (Value.bool true), (i64 0), (i64 0), (Value.slice none 0 0)]))] 2 ?_
 refine ogo (agg [(i64 5), (Value.string (str [97, 110, 110])), (Value.string ByteArray.empty), (i64 0), (Value.string ByteArray.empty), (i64 0), (i64 0)]) 18 (rld 24 b10 0 H17) rfl ?_
 refine og 1 [(0, .bool false), (1, ptr b1), (2, ptr b10), (3, ptr b19), (17, (agg [(i64 1), (Value.string (str [97, 110, 110])), (Value.string ByteArray.empty), (i64 0), (Value.string (str [107])), (i64 0), (i64 0), (i64 1), (i64 2), (Value.bool true), (i64 0), (i64 0), (Value.slice none 0 0)])), (19, (agg [(i64 5), (Value.string (str [97, 110, 110])), (Value.string ByteArray.empty), (i64 0), (Value.string ByteArray.empty), (i64 0), (i64 0), (i64 3), (i64 4), (Value.bool true), (i64 0), (i64 0), (Value.slice none 0 0)]))] 4 ?_
 refine onew (rowL [(i64 1), (Value.string (str [97, 110, 110])), (Value.string ByteArray.empty), (i64 0), (Value.string (str [107])), (i64 0), (i64 0), (i64 1), (i64 2), (Value.bool true), (i64 0), (i64 0), (Value.slice none 0 0), (i64 5), (Value.string (str [97, 110, 110])), (Value.string ByteArray.empty), (i64 0), (Value.string ByteArray.empty), (i64 0), (i64 0), (i64 3), (i64 4), (Value.bool true), (i64 0), (i64 0), (Value.slice none 0 0)] 43) (fun b => (Value.slice (some ⟨b, 0, none⟩) 2 2)) 20 (fun b => rfl) (fun b28 w29 hb30 H31 K32 hs33 => ?_)
 have lb28b1 : b1 < b28 := by have := H8.lt; omega
 have lb28b10 : b10 < b28 := by have := H17.lt; omega
 have lb28b19 : b19 < b28 := by have := H26.lt; omega
 have nb28 : w.heap.size ≤ b28 := by have := K0.size; omega
 replace K0 := K0.t0 K32
 replace H8 := H8.kn K32
 replace H17 := H17.kn K32
 replace H26 := H26.kn K32
 clear K32 hs33
 have hk45 : orderH (List.map HC.c [(⟨⟨(⟨1, [97, 110, 110], ([] : List UInt8), 0, [107], 0, 0⟩ : Opm), 1, 2, true, ⟨0, 0, []⟩⟩, none, 0⟩ : HC), (⟨⟨(⟨5, [97, 110, 110], ([] : List UInt8), 0, ([] : List UInt8), 0, 0⟩ : Opm), 3, 4, true, ⟨0, 0, []⟩⟩, none, 0⟩ : HC)]) = ([0, 1], true, 0) := by kernel_rfl
 refine ocQ 21 (Order_calls _ (some ⟨b28, 0, none⟩) 2 [(⟨⟨(⟨1, [97, 110, 110], ([] : List UInt8), 0, [107], 0, 0⟩ : Opm), 1, 2, true, ⟨0, 0, []⟩⟩, none, 0⟩ : HC), (⟨⟨(⟨5, [97, 110, 110], ([] : List UInt8), 0, ([] : List UInt8), 0, 0⟩ : Opm), 3, 4, true, ⟨0, 0, []⟩⟩, none, 0⟩ : HC)] none_ (show RdT _ 13 HC.cells _ _ from Rd.lit H31 (n := 2) rfl (by decide)) (rowsE_nil (fun x hx => by rcases List.mem_cons.1 hx with rfl | hx; (exact ⟨rfl, rfl, rfl⟩); (rcases List.mem_cons.1 hx with rfl | hx; (exact ⟨rfl, rfl, rfl⟩); (cases hx)))) (fun x hx => by rcases List.mem_cons.1 hx with rfl | hx; (decide); (rcases List.mem_cons.1 hx with rfl | hx; (decide); (cases hx))) (by decide)) ?_
 rintro _ w42 ⟨o36, A37, c38, ok39, why40, rfl, K41, hR43, hE44⟩
 obtain ⟨rfl, e46⟩ := Prod.mk.inj (hE44.trans hk45)
 obtain ⟨rfl, rfl⟩ := Prod.mk.inj e46
 refine ⟨_, _, rfl, rfl, ?_⟩
 replace K0 := K0.t0 K41
 replace H8 := H8.kn K41
 replace H17 := H17.kn K41
 replace H26 := H26.kn K41
 replace H31 := H31.kn K41
 refine ogd 7 [(0, .bool false), (1, ptr b1), (2, ptr b10), (3, ptr b19), (4, (Value.slice A37 (([0, 1] : List Nat).length) c38)), (5, .bool true), (6, i64 0)] ?_
 refine qsg ?_
 refine ogo (agg [(i64 5), (Value.string (str [97, 110, 110])), (Value.string ByteArray.empty), (i64 0), (Value.string ByteArray.empty), (i64 0), (i64 0)]) 26 (rld 24 b10 0 H17) rfl ?_
 refine ogo (agg [(i64 40), (i64 0), (Value.slice none 0 0)]) 27 (rld 28 b19 0 H26) rfl ?_
 refine og 1 [(0, .bool false), (1, ptr b1), (2, ptr b10), (3, ptr b19), (4, (Value.slice A37 (([0, 1] : List Nat).length) c38)), (5, .bool true), (6, i64 0), (28, (agg [(i64 5), (Value.string (str [97, 110, 110])), (Value.string ByteArray.empty), (i64 0), (Value.string ByteArray.empty), (i64 0), (i64 0), (i64 1), (i64 4), (Value.bool true), (i64 40), (i64 0), (Value.slice none 0 0)]))] 3 ?_
 refine ogo (agg [(i64 1), (Value.string (str [97, 110, 110])), (Value.string ByteArray.empty), (i64 0), (Value.string (str [107])), (i64 0), (i64 0)]) 29 (rld 24 b1 0 H8) rfl ?_
 refine og 1 [(0, .bool false), (1, ptr b1), (2, ptr b10), (3, ptr b19), (4, (Value.slice A37 (([0, 1] : List Nat).length) c38)), (5, .bool true), (6, i64 0), (28, (agg [(i64 5), (Value.string (str [97, 110, 110])), (Value.string ByteArray.empty), (i64 0), (Value.string ByteArray.empty), (i64 0), (i64 0), (i64 1), (i64 4), (Value.bool true), (i64 40), (i64 0), (Value.slice none 0 0)])), (30, (agg [(i64 1), (Value.string (str [97, 110, 110])), (Value.string ByteArray.empty), (i64 0), (Value.string (str [107])), (i64 0), (i64 0), (i64 2), (i64 3), (Value.bool true), (i64 0), (i64 0), (Value.slice none 0 0)]))] 5 ?_
 refine onew (rowL [(i64 5), (Value.string (str [97, 110, 110])), (Value.string ByteArray.empty), (i64 0), (Value.string ByteArray.empty), (i64 0), (i64 0), (i64 1), (i64 4), (Value.bool true), (i64 40), (i64 0), (Value.slice none 0 0), (i64 1), (Value.string (str [97, 110, 110])), (Value.string ByteArray.empty), (i64 0), (Value.string (str [107])), (i64 0), (i64 0), (i64 2), (i64 3), (Value.bool true), (i64 0), (i64 0), (Value.slice none 0 0)] 43) (fun b => (Value.slice (some ⟨b, 0, none⟩) 2 2)) 31 (fun b => rfl) (fun b47 w48 hb49 H50 K51 hs52 => ?_)
 have lb47b1 : b1 < b47 := by have := H8.lt; omega
 have lb47b10 : b10 < b47 := by have := H17.lt; omega
 have lb47b19 : b19 < b47 := by have := H26.lt; omega
 have lb47b28 : b28 < b47 := by have := H31.lt; omega
 have nb47 : w.heap.size ≤ b47 := by have := K0.size; omega
 replace K0 := K0.t0 K51
 replace H8 := H8.kn K51
 replace H17 := H17.kn K51
 replace H26 := H26.kn K51
 replace H31 := H31.kn K51
 replace hR43 := (Rd.keep0 (by omega) hR43 K51)
 clear K51 hs52
 have hk64 : orderH (List.map HC.c [(⟨⟨(⟨5, [97, 110, 110], ([] : List UInt8), 0, ([] : List UInt8), 0, 0⟩ : Opm), 1, 4, true, ⟨40, 0, []⟩⟩, none, 0⟩ : HC), (⟨⟨(⟨1, [97, 110, 110], ([] : List UInt8), 0, [107], 0, 0⟩ : Opm), 2, 3, true, ⟨0, 0, []⟩⟩, none, 0⟩ : HC)]) = ([0, 1], true, 0) := by kernel_rfl
 refine ocQ 32 (Order_calls _ (some ⟨b47, 0, none⟩) 2 [(⟨⟨(⟨5, [97, 110, 110], ([] : List UInt8), 0, ([] : List UInt8), 0, 0⟩ : Opm), 1, 4, true, ⟨40, 0, []⟩⟩, none, 0⟩ : HC), (⟨⟨(⟨1, [97, 110, 110], ([] : List UInt8), 0, [107], 0, 0⟩ : Opm), 2, 3, true, ⟨0, 0, []⟩⟩, none, 0⟩ : HC)] none_ (show RdT _ 13 HC.cells _ _ from Rd.lit H50 (n := 2) rfl (by decide)) (rowsE_nil (fun x hx => by rcases List.mem_cons.1 hx with rfl | hx; (exact ⟨rfl, rfl, rfl⟩); (rcases List.mem_cons.1 hx with rfl | hx; (exact ⟨rfl, rfl, rfl⟩); (cases hx)))) (fun x hx => by rcases List.mem_cons.1 hx with rfl | hx; (decide); (rcases List.mem_cons.1 hx with rfl | hx; (decide); (cases hx))) (by decide)) ?_
 rintro _ w61 ⟨o55, A56, c57, ok58, why59, rfl, K60, hR62, hE63⟩
 obtain ⟨rfl, e65⟩ := Prod.mk.inj (hE63.trans hk64)
 obtain ⟨rfl, rfl⟩ := Prod.mk.inj e65
 refine ⟨_, _, rfl, rfl, ?_⟩
 replace K0 := K0.t0 K60
 replace H8 := H8.kn K60
 replace H17 := H17.kn K60
 replace H26 := H26.kn K60
 replace H31 := H31.kn K60
 replace H50 := H50.kn K60
 replace hR43 := (Rd.keep0 (by omega) hR43 K60)
 refine ogd 7 [(0, .bool false), (1, ptr b1), (2, ptr b10), (3, ptr b19), (4, (Value.slice A37 (([0, 1] : List Nat).length) c38)), (5, .bool true), (6, i64 0), (7, (Value.slice A56 (([0, 1] : List Nat).length) c57)), (8, .bool true), (9, i64 0)] ?_
 refine qsg ?_
 refine ogo (agg [(i64 1), (Value.string (str [97, 110, 110])), (Value.string ByteArray.empty), (i64 0), (Value.string (str [107])), (i64 0), (i64 0)]) 37 (rld 24 b1 0 H8) rfl ?_
 refine og 1 [(0, .bool false), (2, ptr b10), (3, ptr b19), (4, (Value.slice A37 (([0, 1] : List Nat).length) c38)), (5, .bool true), (6, i64 0), (7, (Value.slice A56 (([0, 1] : List Nat).length) c57)), (8, .bool true), (9, i64 0), (38, (agg [(i64 1), (Value.string (str [97, 110, 110])), (Value.string ByteArray.empty), (i64 0), (Value.string (str [107])), (i64 0), (i64 0), (i64 1), (i64 2), (Value.bool true), (i64 0), (i64 0), (Value.slice none 0 0)]))] 2 ?_
 refine ogo (agg [(i64 5), (Value.string (str [97, 110, 110])), (Value.string ByteArray.empty), (i64 0), (Value.string ByteArray.empty), (i64 0), (i64 0)]) 39 (rld 24 b10 0 H17) rfl ?_
 refine ogo (agg [(i64 40), (i64 0), (Value.slice none 0 0)]) 40 (rld 28 b19 0 H26) rfl ?_
 refine og 1 [(0, .bool false), (4, (Value.slice A37 (([0, 1] : List Nat).length) c38)), (5, .bool true), (6, i64 0), (7, (Value.slice A56 (([0, 1] : List Nat).length) c57)), (8, .bool true), (9, i64 0), (38, (agg [(i64 1), (Value.string (str [97, 110, 110])), (Value.string ByteArray.empty), (i64 0), (Value.string (str [107])), (i64 0), (i64 0), (i64 1), (i64 2), (Value.bool true), (i64 0), (i64 0), (Value.slice none 0 0)])), (41, (agg [(i64 5), (Value.string (str [97, 110, 110])), (Value.string ByteArray.empty), (i64 0), (Value.string ByteArray.empty), (i64 0), (i64 0), (i64 3), (i64 4), (Value.bool true), (i64 40), (i64 0), (Value.slice none 0 0)]))] 5 ?_
 refine onew (rowL [(i64 1), (Value.string (str [97, 110, 110])), (Value.string ByteArray.empty), (i64 0), (Value.string (str [107])), (i64 0), (i64 0), (i64 1), (i64 2), (Value.bool true), (i64 0), (i64 0), (Value.slice none 0 0), (i64 5), (Value.string (str [97, 110, 110])), (Value.string ByteArray.empty), (i64 0), (Value.string ByteArray.empty), (i64 0), (i64 0), (i64 3), (i64 4), (Value.bool true), (i64 40), (i64 0), (Value.slice none 0 0)] 43) (fun b => (Value.slice (some ⟨b, 0, none⟩) 2 2)) 42 (fun b => rfl) (fun b66 w67 hb68 H69 K70 hs71 => ?_)
 have lb66b1 : b1 < b66 := by have := H8.lt; omega
 have lb66b10 : b10 < b66 := by have := H17.lt; omega
 have lb66b19 : b19 < b66 := by have := H26.lt; omega
 have lb66b28 : b28 < b66 := by have := H31.lt; omega
 have lb66b47 : b47 < b66 := by have := H50.lt; omega
 have nb66 : w.heap.size ≤ b66 := by have := K0.size; omega
 replace K0 := K0.t0 K70
 replace H8 := H8.kn K70
 replace H17 := H17.kn K70
 replace H26 := H26.kn K70
 replace H31 := H31.kn K70
 replace H50 := H50.kn K70
 replace hR43 := (Rd.keep0 (by omega) hR43 K70)
 replace hR62 := (Rd.keep0 (by omega) hR62 K70)
 clear K70 hs71
 have hk79 : orderH (List.map HC.c [(⟨⟨(⟨1, [97, 110, 110], ([] : List UInt8), 0, [107], 0, 0⟩ : Opm), 1, 2, true, ⟨0, 0, []⟩⟩, none, 0⟩ : HC), (⟨⟨(⟨5, [97, 110, 110], ([] : List UInt8), 0, ([] : List UInt8), 0, 0⟩ : Opm), 3, 4, true, ⟨40, 0, []⟩⟩, none, 0⟩ : HC)]) = ([], false, 0) := by kernel_rfl
 refine ocQ 43 (Linear_calls _ (some ⟨b66, 0, none⟩) 2 [(⟨⟨(⟨1, [97, 110, 110], ([] : List UInt8), 0, [107], 0, 0⟩ : Opm), 1, 2, true, ⟨0, 0, []⟩⟩, none, 0⟩ : HC), (⟨⟨(⟨5, [97, 110, 110], ([] : List UInt8), 0, ([] : List UInt8), 0, 0⟩ : Opm), 3, 4, true, ⟨40, 0, []⟩⟩, none, 0⟩ : HC)] none_ (show RdT _ 13 HC.cells _ _ from Rd.lit H69 (n := 2) rfl (by decide)) (rowsE_nil (fun x hx => by rcases List.mem_cons.1 hx with rfl | hx; (exact ⟨rfl, rfl, rfl⟩); (rcases List.mem_cons.1 hx with rfl | hx; (exact ⟨rfl, rfl, rfl⟩); (cases hx)))) (fun x hx => by rcases List.mem_cons.1 hx with rfl | hx; (decide); (rcases List.mem_cons.1 hx with rfl | hx; (decide); (cases hx))) (by decide)) ?_
 rintro _ w77 ⟨ok74, why75, rfl, K76, hE78⟩
 obtain ⟨rfl, rfl⟩ := Prod.mk.inj (hE78.trans (congrArg Prod.snd hk79))
 refine ⟨_, _, rfl, rfl, ?_⟩
 replace K0 := K0.t0 K76
 replace H8 := H8.kn K76
 replace H17 := H17.kn K76
 replace H26 := H26.kn K76
 replace H31 := H31.kn K76
 replace H50 := H50.kn K76
 replace H69 := H69.kn K76
 replace hR43 := (Rd.keep0 (by omega) hR43 K76)
 replace hR62 := (Rd.keep0 (by omega) hR62 K76)
 refine odz 5 ?_
 refine qsg ?_
 refine og 7 [(0, .bool false), (7, (Value.slice A56 (([0, 1] : List Nat).length) c57)), (8, .bool true), (9, i64 0), (10, .bool false), (11, i64 0), (51, .bool true), (52, (Value.slice A37 (([0, 1] : List Nat).length) c38))] 7 ?_
 refine onew (rowL [(i64 0), (i64 1)] 3) (fun b => (Value.slice (some ⟨b, 0, none⟩) 2 2)) 53 (fun b => rfl) (fun b80 w81 hb82 H83 K84 hs85 => ?_)
 have lb80b1 : b1 < b80 := by have := H8.lt; omega
 have lb80b10 : b10 < b80 := by have := H17.lt; omega
 have lb80b19 : b19 < b80 := by have := H26.lt; omega
 have lb80b28 : b28 < b80 := by have := H31.lt; omega
 have lb80b47 : b47 < b80 := by have := H50.lt; omega
 have lb80b66 : b66 < b80 := by have := H69.lt; omega
 have nb80 : w.heap.size ≤ b80 := by have := K0.size; omega
 replace K0 := K0.t0 K84
 replace H8 := H8.kn K84
 replace H17 := H17.kn K84
 replace H26 := H26.kn K84
 replace H31 := H31.kn K84
 replace H50 := H50.kn K84
 replace H69 := H69.kn K84
 replace hR43 := (Rd.keep0 (by omega) hR43 K84)
 replace hR62 := (Rd.keep0 (by omega) hR62 K84)
 clear K84 hs85
 refine ocQ 54 (sameN_calls _ A37 c38 ([0, 1] : List Nat) (some ⟨b80, 0, none⟩) 2 [0, 1] hR43 (show RdT _ 1 iN _ [0, 1] from Rd.lit H83 (n := 2) rfl (by decide))) ?_
 rintro _ w89 ⟨t86, rfl, ht87, K88⟩
 refine ⟨_, _, rfl, rfl, ?_⟩
 replace K0 := K0.t0 K88
 replace H8 := H8.kn K88
 replace H17 := H17.kn K88
 replace H26 := H26.kn K88
 replace H31 := H31.kn K88
 replace H50 := H50.kn K88
 replace H69 := H69.kn K88
 replace H83 := H83.kn K88
 replace hR62 := (Rd.keep0 (by omega) hR62 K88)
 refine og 2 [(0, .bool false), (7, (Value.slice A56 (([0, 1] : List Nat).length) c57)), (8, .bool true), (9, i64 0), (10, .bool false), (11, i64 0), (56, .bool t86)] 11 ?_
 have h90 : t86 = true := ht87.2 rfl
 rw [h90]
 refine og 8 [(0, .bool false), (10, .bool false), (11, i64 0), (63, .bool true), (64, (Value.slice A56 (([0, 1] : List Nat).length) c57))] 19 ?_
 refine onew (rowL [(i64 0), (i64 1)] 3) (fun b => (Value.slice (some ⟨b, 0, none⟩) 2 2)) 65 (fun b => rfl) (fun b91 w92 hb93 H94 K95 hs96 => ?_)
 have lb91b1 : b1 < b91 := by have := H8.lt; omega
 have lb91b10 : b10 < b91 := by have := H17.lt; omega
 have lb91b19 : b19 < b91 := by have := H26.lt; omega
 have lb91b28 : b28 < b91 := by have := H31.lt; omega
 have lb91b47 : b47 < b91 := by have := H50.lt; omega
 have lb91b66 : b66 < b91 := by have := H69.lt; omega
 have lb91b80 : b80 < b91 := by have := H83.lt; omega
 have nb91 : w.heap.size ≤ b91 := by have := K0.size; omega
 replace K0 := K0.t0 K95
 replace hR62 := (Rd.keep0 (by omega) hR62 K95)
 clear K95 hs96
 refine ocQ 66 (sameN_calls _ A56 c57 ([0, 1] : List Nat) (some ⟨b91, 0, none⟩) 2 [0, 1] hR62 (show RdT _ 1 iN _ [0, 1] from Rd.lit H94 (n := 2) rfl (by decide))) ?_
 rintro _ w100 ⟨t97, rfl, ht98, K99⟩
 refine ⟨_, _, rfl, rfl, ?_⟩
 replace K0 := K0.t0 K99
 refine og 2 [(0, .bool false), (10, .bool false), (11, i64 0), (68, .bool t97)] 23 ?_
 have h101 : t97 = true := ht98.2 rfl
 rw [h101]
 refine ogd 8 [(0, .bool true)] ?_
 refine qtQ ?_
 refine ⟨(Value.bool true), retv_tmp rfl rfl, ?_⟩
 exact ⟨rfl, K0⟩
theorem hard_calls (w : World) (LA : Option Addr) (lc : Nat) (l : List HC) (hL : RdT w 13 HC.cells (Value.slice LA l.length lc) l) : Calls Tryd.prog 9 ⟨[(Value.slice LA l.length lc)]⟩ w (fun e w' => ∃ t, e = .returned (.bool t) ∧ (t = false → l.length ≤ 40) ∧ Keeps none_ w w') := by
 have hcap := (RdT.len HC.two (by decide) hL).2
 unfold maxLen at hcap
 have K0 : Keeps none_ w w := Keeps.refl w
 refine q_calls Tryd.func9 (by kernel_rfl) (by kernel_rfl) ?_
 refine qsg ?_
 refine odz 1 ?_
 refine qsg ?_
 refine odz 1 ?_
 refine qs ?_
 refine qsg ?_
 refine ogd 1 [(0, .slice LA l.length lc), (2, .bool false), (3, i64 0), (4, i64 0)] ?_
 refine q_block (id := 0) (by kernel_rfl) ?_
 refine q_keep (R := [(0, .slice LA l.length lc), (2, .bool false), (3, i64 0), (4, i64 0)]) (by kernel_rfl) ?_
 refine q_loop (fun (gs : Nat × Nat) L (wx : World) => match gs with | (ii, n) => L = [(0, (Value.slice LA l.length lc)), (2, (Value.bool false)), (3, (i64 ((n : Nat) : Int))), (4, (i64 ((ii : Nat) : Int)))] ∧ n ≤ ii ∧ ii ≤ l.length ∧ Keeps none_ w wx) (fun (gs : Nat × Nat) => match gs with | (ii, n) => l.length - ii) (0, 0) (by kernel_rfl) ⟨rfl, Nat.zero_le _, Nat.zero_le _, K0⟩ ?_
 clear K0
 rintro ⟨ii, n⟩ _ w1 ⟨rfl, hn, hi, K2⟩
 refine qs ?_
 refine qsg ?_
 refine ogd 4 [(0, .slice LA l.length lc), (2, .bool false), (3, i64 ↑n), (4, i64 ↑ii), (8, (Value.bool (decide (((ii : Nat) : Int) < ((l.length : Nat) : Int)))))] ?_
 refine qcQ 8 (decide (((ii : Nat) : Int) < ((l.length : Nat) : Int))) rfl (fun h3 => ?_) (fun h3 => ?_)
 ·rw [h3]
  have p4 := of_decide_eq_true h3
  refine qkQ ?_
  refine qs ?_
  refine q_block (id := 1) (by kernel_rfl) ?_
  refine qsg ?_
  refine og 2 [(0, .slice LA l.length lc), (2, .bool false), (3, i64 ↑n), (4, i64 ↑ii), (11, .slice LA l.length lc), (12, i64 ↑ii)] 2 ?_
  obtain ⟨x, hx⟩ : ∃ x, l[ii]? = some x := ⟨_, List.getElem?_eq_getElem (by omega)⟩
  obtain ⟨rb5, ro6, hA7⟩ := Rd.addr (Rd.keep0 (by decide) hL K2) (by omega)
  refine Ops.go (by kernel_rfl) (Runs.ixSliceE (k := IntKind.i64) (t := 22) (len := l.length) (cap := lc) (s := 13) (off' := ro6 + ii * 13) (i := ((ii : Nat) : Int)) hA7 (by kernel_rfl) (by kernel_rfl) (by omega) (by omega) (by omega)) (d := (some 13)) (by kernel_rfl) rfl ?_
  refine og 1 [(0, .slice LA l.length lc), (2, .bool false), (3, i64 ↑n), (4, i64 ↑ii), (14, .pointer (some ⟨rb5, ro6 + ii * 13 + 9, none⟩))] 4 ?_
  refine ogo (Value.bool x.c.told) 15 (Runs.load (t := 4) (a := ⟨rb5, ro6 + ii * 13 + 9, none⟩) (by kernel_rfl) (RdT.ldf (f := HC.cells) (x := x) (o := 9) HC.two (Rd.keep0 (by decide) hL K2) (by kernel_rfl) hA7 hx rfl)) rfl ?_
  refine og 2 [(0, .slice LA l.length lc), (2, .bool false), (3, i64 ↑n), (4, i64 ↑ii), (17, .bool (!x.c.told))] 7 ?_
  refine Ops.split (!x.c.told) (fun h8 => ?_) (fun h8 => ?_)
  ·rw [h8]
   have p9 := bnot_true h8
   refine ogd 8 [(0, .slice LA l.length lc), (2, .bool false), (3, i64 ↑n), (4, i64 ↑ii), (25, .bool true)] ?_
   refine q_then (o := .tmp 25) (by kernel_rfl) rfl ?_
   refine qg ?_
   refine oid 3 (fun z => [(0, .slice LA l.length lc), (2, .bool false), (3, i64 z), (4, i64 ↑ii)]) n ?_
   refine qg ?_
   refine oid 3 (fun z => [(0, .slice LA l.length lc), (2, .bool false), (3, i64 ↑(n + 1)), (4, i64 z)]) ii ?_
   exact ⟨(ii + 1, n + 1), ⟨rfl, (by omega), (by omega), K2⟩, (show l.length - (ii + 1) < l.length - ii from by omega)⟩
  ·rw [h8]
   have p12 := bnot_false h8
   refine og 2 [(0, .slice LA l.length lc), (2, .bool false), (3, i64 ↑n), (4, i64 ↑ii), (17, .bool false), (18, .slice LA l.length lc), (19, i64 ↑ii)] 9 ?_
   refine Ops.go (by kernel_rfl) (Runs.ixSliceE (k := IntKind.i64) (t := 22) (len := l.length) (cap := lc) (s := 13) (off' := ro6 + ii * 13) (i := ((ii : Nat) : Int)) hA7 (by kernel_rfl) (by kernel_rfl) (by omega) (by omega) (by omega)) (d := (some 20)) (by kernel_rfl) rfl ?_
   refine og 2 [(0, .slice LA l.length lc), (2, .bool false), (3, i64 ↑n), (4, i64 ↑ii), (17, .bool false), (22, .pointer (some ⟨rb5, ro6 + ii * 13 + 10, none⟩))] 12 ?_
   refine ogo (i64 x.c.rep.why) 23 (Runs.load (t := 25) (a := ⟨rb5, ro6 + ii * 13 + 10, none⟩) (by kernel_rfl) (RdT.ldf (f := HC.cells) (x := x) (o := 10) HC.two (Rd.keep0 (by decide) hL K2) (by kernel_rfl) hA7 hx rfl)) rfl ?_
   refine ogd 2 [(0, .slice LA l.length lc), (2, .bool false), (3, i64 ↑n), (4, i64 ↑ii), (25, .bool (x.c.rep.why != 50))] ?_
   refine qcQ 25 (x.c.rep.why != 50) rfl (fun h13 => ?_) (fun h13 => ?_)
   ·rw [h13]
    have p14 := of_bne_t h13
    refine qg ?_
    refine oid 3 (fun z => [(0, .slice LA l.length lc), (2, .bool false), (3, i64 z), (4, i64 ↑ii)]) n ?_
    refine qg ?_
    refine oid 3 (fun z => [(0, .slice LA l.length lc), (2, .bool false), (3, i64 ↑(n + 1)), (4, i64 z)]) ii ?_
    exact ⟨(ii + 1, n + 1), ⟨rfl, (by omega), (by omega), K2⟩, (show l.length - (ii + 1) < l.length - ii from by omega)⟩
   ·rw [h13]
    have p17 := of_bne_f h13
    refine qkQ ?_
    refine qg ?_
    refine oid 3 (fun z => [(0, .slice LA l.length lc), (2, .bool false), (3, i64 ↑n), (4, i64 z)]) ii ?_
    exact ⟨(ii + 1, n), ⟨rfl, (by omega), (by omega), K2⟩, (show l.length - (ii + 1) < l.length - ii from by omega)⟩
 ·rw [h3]
  have p19 := of_decide_eq_false h3
  refine q_exit (id := 0) (by kernel_rfl) ?_
  refine qsg ?_
  refine og 4 [(0, .slice LA l.length lc), (2, .bool false), (3, i64 ↑n), (31, (Value.bool (decide (((l.length : Nat) : Int) > 40))))] 4 ?_
  refine Ops.split (decide (((l.length : Nat) : Int) > 40)) (fun h20 => ?_) (fun h20 => ?_)
  ·rw [h20]
   have p21 := of_decide_eq_true h20
   refine ogd 13 [(2, .bool true)] ?_
   refine qtQ ?_
   refine ⟨(Value.bool true), retv_tmp rfl rfl, ?_⟩
   exact ⟨_, rfl, fun h => (by cases h), K2⟩
  ·rw [h20]
   have p22 := of_decide_eq_false h20
   refine og 3 [(0, .slice LA l.length lc), (2, .bool false), (3, i64 ↑n), (31, .bool false), (34, (Value.bool (decide (((n : Nat) : Int) > 6))))] 7 ?_
   refine Ops.split (decide (((n : Nat) : Int) > 6)) (fun h23 => ?_) (fun h23 => ?_)
   ·rw [h23]
    have p24 := of_decide_eq_true h23
    refine og 4 [(0, .slice LA l.length lc), (2, .bool false), (31, .bool false), (38, (Value.bool (decide (((n : Nat) : Int) ≤ 8))))] 11 ?_
    refine Ops.split (decide (((n : Nat) : Int) ≤ 8)) (fun h25 => ?_) (fun h25 => ?_)
    ·rw [h25]
     have p26 := of_decide_eq_true h25
     refine ogd 6 [(2, (Value.bool (decide (((l.length : Nat) : Int) > 12))))] ?_
     refine qtQ ?_
     refine ⟨(Value.bool (decide (((l.length : Nat) : Int) > 12))), retv_tmp rfl rfl, ?_⟩
     exact ⟨_, rfl, fun h => (by have h := h; simp at h; omega), K2⟩
    ·rw [h25]
     have p27 := of_decide_eq_false h25
     refine ogd 6 [(2, .bool false)] ?_
     refine qtQ ?_
     refine ⟨(Value.bool false), retv_tmp rfl rfl, ?_⟩
     exact ⟨_, rfl, fun h => (by omega), K2⟩
   ·rw [h23]
    have p28 := of_decide_eq_false h23
    refine ogd 10 [(2, .bool false)] ?_
    refine qtQ ?_
    refine ⟨(Value.bool false), retv_tmp rfl rfl, ?_⟩
    exact ⟨_, rfl, fun h => (by omega), K2⟩
end Go.Proofs.YtnbcghbgeiocbaaDoor
namespace Go.Q
open Go.RowKit
inductive Lin : List HCall → LS_ → Prop
 | done {U : List HCall} {s : LS_} : (∀ c ∈ U, c.told = false) → Lin U s
 | step {U A B : List HCall} {c : HCall} {s s' : LS_} : U = A ++ c :: B → (∀ d ∈ A ++ B, aheadH d c = false) → stepH c s = some s' → Lin (A ++ B) s' → Lin U s
theorem perm_split {α : Type} {A B A' B' : List α} {c : α} (h : (A ++ c :: B).Perm (A' ++ c :: B')) : (A ++ B).Perm (A' ++ B') :=
 ((List.perm_middle.symm.trans h).trans List.perm_middle).cons_inv
theorem Lin.perm {U V : List HCall} {s : LS_} (h : Lin U s) (hp : U.Perm V) : Lin V s := by
 induction h generalizing V with
 | done h => exact .done fun c hc => h c (hp.mem_iff.2 hc)
 | @step U A B c s s' e ha hs hl ih =>
  subst e
  obtain ⟨A', B', rfl⟩ := List.append_of_mem (hp.mem_iff.1 (List.mem_append_right _ (List.mem_cons_self ..)))
  have hq := perm_split hp
  exact .step rfl (fun d hd => ha d (hq.mem_iff.2 hd)) hs (ih hq)
theorem Lin.map {f : HCall → HCall} (ht : ∀ c, (f c).told = c.told) (hs : ∀ c s, stepH (f c) s = stepH c s) {U : List HCall} {s : LS_} (h : Lin U s) (hU : ∀ c ∈ U, ∀ d ∈ U, aheadH d c = false → aheadH (f d) (f c) = false) : Lin (U.map f) s := by
 induction h with
 | done h => exact .done fun c hc => by obtain ⟨x, hx, rfl⟩ := List.mem_map.1 hc; rw [ht]; exact h x hx
 | @step U A B c s s' e ha hst hl ih =>
  subst e
  have hin : ∀ d ∈ A ++ B, d ∈ A ++ c :: B := fun d hd => by
   rcases List.mem_append.1 hd with h | h
   ·exact List.mem_append_left _ h
   ·exact List.mem_append_right _ (List.mem_cons_of_mem _ h)
  refine .step (A := A.map f) (B := B.map f) (c := f c) (by rw [List.map_append, List.map_cons]) (fun d hd => ?_) (by rw [hs]; exact hst) (by rw [← List.map_append]; exact ih fun c hc d hd => hU c (hin c hc) d (hin d hd))
  rw [← List.map_append] at hd
  obtain ⟨x, hx, rfl⟩ := List.mem_map.1 hd
  exact hU c (List.mem_append_right _ (List.mem_cons_self ..)) x (hin x hx) (ha x hx)
def undH (X : List (HCall × Nat)) (d : Nat) : List HCall := (X.zipIdx.filter fun p => !d.testBit p.2).map fun p => p.1.1
def linH (l : List HCall) : Prop := Lin (l.filter countsH) ([], [])
def goodH (l : List HCall) : Prop := ¬ 8 < (l.filter countsH).length ∧ (l.filter countsH).any (fun c => c.told && decide (c.en < c.bg)) = false
def scaleH (k : Int) (c : HCall) : HCall := ⟨c.op, c.bg * k, c.en * k, c.told, c.rep⟩
end Go.Q
namespace Go.Q
open Go.ChangeShapes Go.WideShapes Go.ChangeAt Go.RowKit Go.Deep Go.Op
section
variable {H : Type} {enc : TypeId × Value → H} {P : Program} {w : World} {base : Nat} {spare : Nat → Bool} {held : Bool}
def HC.Rng (x : HC) : Prop := (-9223372036854775808 ≤ x.c.op.amount ∧ x.c.op.amount ≤ 9223372036854775807) ∧ (-9223372036854775808 ≤ x.c.bg ∧ x.c.bg ≤ 9223372036854775807) ∧ (-9223372036854775808 ≤ x.c.en ∧ x.c.en ≤ 9223372036854775807)
theorem dec_call {e ti tb to tr r t0 t1 t2 : TypeId} {fs os ps rs : Array Field} {m : Nat} {cs : List Value} {y : DataW H × List MemPlace} (he : P.underlying e = some (.struct fs))
  (k0 : fieldAt? P fs 0 = some (0, 7, to)) (k1 : fieldAt? P fs 1 = some (7, 1, ti)) (k2 : fieldAt? P fs 2 = some (8, 1, ti)) (k3 : fieldAt? P fs 3 = some (9, 1, tb)) (k4 : fieldAt? P fs 4 = some (10, 3, tr))
  (u1 : P.underlying ti = some (.int .i64)) (u3 : P.underlying tb = some .bool)
  (ho : P.underlying to = some (.struct os)) (oone : oneCellFields P os = true) (oC : P.cellsOf to = os.size) (o7 : os.size = 7)
  (o0 : fieldOf? P os 0 = some (.int .i64)) (o1 : fieldOf? P os 1 = some .string) (o2 : fieldOf? P os 2 = some .string) (o3 : fieldOf? P os 3 = some (.int .i64)) (o4 : fieldOf? P os 4 = some .string) (o5 : fieldOf? P os 5 = some (.int .i64)) (o6 : fieldOf? P os 6 = some (.int .i64))
  (hp : P.underlying tr = some (.struct ps)) (p0 : fieldAt? P ps 0 = some (0, 1, t0)) (p1 : fieldAt? P ps 1 = some (1, 1, t1)) (p2 : fieldAt? P ps 2 = some (2, 1, t2)) (v0 : P.underlying t0 = some (.int .i64)) (v1 : P.underlying t1 = some (.int .i64)) (v2 : P.underlying t2 = some (.slice r))
  (hr : P.underlying r = some (.struct rs)) (hrone : oneCellFields P rs = true) (hrC : P.cellsOf r = rs.size) (hr2 : rs.size = 2) (hrb : P.bytesOf r = 24)
  (j0 : fieldOf? P rs 0 = some .string) (j1 : fieldOf? P rs 1 = some (.int .i64)) (hl : cs.length = 13) (hz : ∀ k ∈ y.1.weights P e, k ≤ reachBytes) (htr : DataW.trod enc P w base spare held m e cs = some y) :
  ∃ x : HC, (x.In w ∧ x.Rng) ∧ cs = x.cells := by
 match cs, hl with
 | [c0, c1, c2, c3, c4, c5, c6, c7, c8, c9, c10, c11, c12], _ =>
  obtain ⟨m0, z0, s0, _⟩ := trod_field he htr k0
  obtain ⟨m1, z1, s1, _⟩ := trod_field he htr k1
  obtain ⟨m2, z2, s2, _⟩ := trod_field he htr k2
  obtain ⟨m3, z3, s3, _⟩ := trod_field he htr k3
  obtain ⟨m4, z4, s4, w4⟩ := trod_field he htr k4
  obtain ⟨n1, e1, _, w1⟩ := DataW.trod_int u1 s1
  obtain ⟨n2, e2, _, w2⟩ := DataW.trod_int u1 s2
  obtain ⟨b3, e3, _⟩ := DataW.trod_bool u3 s3
  obtain ⟨o, hok, eo⟩ := dec_op ho oone oC o7 o0 o1 o2 o3 o4 o5 o6 (by rw [o7]; rfl) s0
  obtain ⟨p, A, c, hpk, ep, hpR, hpz⟩ := dec_reply hp p0 p1 p2 v0 v1 v2 hr hrone hrC hr2 hrb j0 j1 rfl (fun k hk => hz k (w4 k hk)) s4
  simp only [List.drop_succ_cons, List.drop_zero, List.take_succ_cons, List.take_zero, List.cons.injEq, and_true] at e1 e2 e3 eo ep
  have eo2 : [c0, c1, c2, c3, c4, c5, c6] = o.cells := eo
  have ep2 : [c10, c11, c12] = [i64 p.why, i64 p.amount, .slice A p.rows.length c] := by simpa using ep
  unfold Opm.cells at eo2
  simp only [List.cons.injEq, and_true] at eo2 ep2
  obtain ⟨rfl, rfl, rfl, rfl, rfl, rfl, rfl⟩ := eo2
  obtain ⟨rfl, rfl, rfl⟩ := ep2
  subst e1; subst e2; subst e3
  exact ⟨⟨⟨o, n1, n2, b3, p⟩, A, c⟩, ⟨⟨hpR, hpz⟩, hok.amount, wf_i64 w1, wf_i64 w2⟩, rfl⟩
theorem open_calls {s e ti tb to tr r t0 t1 t2 : TypeId} {fs os ps rs : Array Field} {v : Value} {d : DataW H} {pl : List MemPlace} (hs : P.underlying s = some (.slice e)) (he : P.underlying e = some (.struct fs)) (hC : P.cellsOf e = 13)
  (k0 : fieldAt? P fs 0 = some (0, 7, to)) (k1 : fieldAt? P fs 1 = some (7, 1, ti)) (k2 : fieldAt? P fs 2 = some (8, 1, ti)) (k3 : fieldAt? P fs 3 = some (9, 1, tb)) (k4 : fieldAt? P fs 4 = some (10, 3, tr))
  (u1 : P.underlying ti = some (.int .i64)) (u3 : P.underlying tb = some .bool)
  (ho : P.underlying to = some (.struct os)) (oone : oneCellFields P os = true) (oC : P.cellsOf to = os.size) (o7 : os.size = 7)
  (o0 : fieldOf? P os 0 = some (.int .i64)) (o1 : fieldOf? P os 1 = some .string) (o2 : fieldOf? P os 2 = some .string) (o3 : fieldOf? P os 3 = some (.int .i64)) (o4 : fieldOf? P os 4 = some .string) (o5 : fieldOf? P os 5 = some (.int .i64)) (o6 : fieldOf? P os 6 = some (.int .i64))
  (hp : P.underlying tr = some (.struct ps)) (p0 : fieldAt? P ps 0 = some (0, 1, t0)) (p1 : fieldAt? P ps 1 = some (1, 1, t1)) (p2 : fieldAt? P ps 2 = some (2, 1, t2)) (v0 : P.underlying t0 = some (.int .i64)) (v1 : P.underlying t1 = some (.int .i64)) (v2 : P.underlying t2 = some (.slice r))
  (hr : P.underlying r = some (.struct rs)) (hrone : oneCellFields P rs = true) (hrC : P.cellsOf r = rs.size) (hr2 : rs.size = 2) (hrb : P.bytesOf r = 24)
  (j0 : fieldOf? P rs 0 = some .string) (j1 : fieldOf? P rs 1 = some (.int .i64))
  (hv : Value.okWide P w .any 0 s v) (hz : ∀ k ∈ d.weights P s, k ≤ reachBytes) (h : DataW.Trod enc P w base spare held s v d pl) :
  ∃ (l : List HC) (A : Option Addr) (c : Nat), v = .slice A l.length c ∧ RdT w 13 HC.cells (.slice A l.length c) l ∧ ∀ x ∈ l, x.In w ∧ x.Rng := by
 obtain ⟨fuel, h⟩ := trod_fuel h (slice_form hs hv)
 obtain ⟨css, hR, hc, _, A, c, hA⟩ := open_rows_w (sz := 13) (fun cs z => (∀ k ∈ z.weights P e, k ≤ reachBytes) → ∃ x : HC, (x.In w ∧ x.Rng) ∧ cs = x.cells) hs hC (by decide) h fun m cs y hl htr hz =>
  dec_call he k0 k1 k2 k3 k4 u1 u3 ho oone oC o7 o0 o1 o2 o3 o4 o5 o6 hp p0 p1 p2 v0 v1 v2 hr hrone hrC hr2 hrb j0 j1 hl hz htr
 obtain ⟨l, hb, hl2, hg⟩ := flat_models (f := HC.cells) (Good := fun x => x.In w ∧ x.Rng) (css := css) fun cs hcs => by
  obtain ⟨z, h1, h2⟩ := hc cs hcs
  exact h1 fun k hk => hz k (h2 k hk)
 rw [← hl2] at hA
 subst hA
 exact ⟨l, A, c, rfl, by unfold RdT; rw [← hb]; exact hR, hg⟩
theorem open_call {e ti tb to tr r t0 t1 t2 : TypeId} {fs os ps rs : Array Field} {v : Value} {d : DataW H} {pl : List MemPlace} (he : P.underlying e = some (.struct fs)) (hC : P.cellsOf e = 13)
  (k0 : fieldAt? P fs 0 = some (0, 7, to)) (k1 : fieldAt? P fs 1 = some (7, 1, ti)) (k2 : fieldAt? P fs 2 = some (8, 1, ti)) (k3 : fieldAt? P fs 3 = some (9, 1, tb)) (k4 : fieldAt? P fs 4 = some (10, 3, tr))
  (u1 : P.underlying ti = some (.int .i64)) (u3 : P.underlying tb = some .bool)
  (ho : P.underlying to = some (.struct os)) (oone : oneCellFields P os = true) (oC : P.cellsOf to = os.size) (o7 : os.size = 7)
  (o0 : fieldOf? P os 0 = some (.int .i64)) (o1 : fieldOf? P os 1 = some .string) (o2 : fieldOf? P os 2 = some .string) (o3 : fieldOf? P os 3 = some (.int .i64)) (o4 : fieldOf? P os 4 = some .string) (o5 : fieldOf? P os 5 = some (.int .i64)) (o6 : fieldOf? P os 6 = some (.int .i64))
  (hp : P.underlying tr = some (.struct ps)) (p0 : fieldAt? P ps 0 = some (0, 1, t0)) (p1 : fieldAt? P ps 1 = some (1, 1, t1)) (p2 : fieldAt? P ps 2 = some (2, 1, t2)) (v0 : P.underlying t0 = some (.int .i64)) (v1 : P.underlying t1 = some (.int .i64)) (v2 : P.underlying t2 = some (.slice r))
  (hr : P.underlying r = some (.struct rs)) (hrone : oneCellFields P rs = true) (hrC : P.cellsOf r = rs.size) (hr2 : rs.size = 2) (hrb : P.bytesOf r = 24)
  (j0 : fieldOf? P rs 0 = some .string) (j1 : fieldOf? P rs 1 = some (.int .i64))
  (hv : Value.okWide P w .any 0 e v) (hz : ∀ k ∈ d.weights P e, k ≤ reachBytes) (h : DataW.Trod enc P w base spare held e v d pl) :
  ∃ x : HC, v = agg x.cells ∧ x.In w ∧ x.Rng := by
 obtain ⟨cs0, rfl, hs⟩ := okWide_struct he hv
 obtain ⟨m, h⟩ := h
 have hl : cs0.toList.length = 13 := by rw [Array.length_toList, hs, hC]
 have h : DataW.trod enc P w base spare held m e cs0.toList = some (d, pl) := h
 obtain ⟨x, hx, e⟩ := dec_call he k0 k1 k2 k3 k4 u1 u3 ho oone oC o7 o0 o1 o2 o3 o4 o5 o6 hp p0 p1 p2 v0 v1 v2 hr hrone hrC hr2 hrb j0 j1 hl hz h
 exact ⟨x, by unfold agg; rw [← e], hx⟩
end
section
def rotI (t : Int) (n : Nat) : Nat := (t.tmod ((n : Nat) : Int) + ((n : Nat) : Int)).toNat % n
def rotL (t : Int) (l : List HC) : List HC := l.drop (rotI t l.length) ++ l.take (rotI t l.length)
theorem map_all {P : HCall → Prop} {o q : List HC} (h : o.map HC.c = q.map HC.c) (hq : ∀ x ∈ q, P x.c) : ∀ x ∈ o, P x.c := by
 intro x hx
 have : x.c ∈ q.map HC.c := by rw [← h]; exact List.mem_map_of_mem hx
 obtain ⟨y, hy, e⟩ := List.mem_map.1 this
 rw [← e]; exact hq y hy
theorem HC.In.keep {w w' : World} {x : HC} (h : x.In w) (K : Keeps none_ w w') : x.In w' := ⟨Rd.keep0 (by decide) h.rows K, h.rlen⟩
end
end Go.Q
namespace Go.Q
open Go.RowKit
theorem oneK_len (S : List RowM) (K : List KeptM) (o : Opm) : (doK S K o).length ≤ K.length + 1 := by
 unfold doK
 split
 ·rw [List.length_append]; exact Nat.le_refl _
 ·omega
theorem oneR_rows (S : List RowM) (K : List KeptM) (o : Opm) : (doR S K o).rows.length ≤ S.length := by
 unfold doR
 repeat' split
 all_goals first | exact Nat.zero_le _ | exact Nat.le_refl _
def oneStep (x : LS_ × List HCall) (o : Opm) : LS_ × List HCall := ((doS x.1.1 x.1.2 o, doK x.1.1 x.1.2 o), x.2 ++ [⟨o, ((2 * x.2.length : Nat) : Int), ((2 * x.2.length + 1 : Nat) : Int), true, doR x.1.1 x.1.2 o⟩])
def oneA (l : List Opm) : LS_ × List HCall := l.foldl oneStep (([], []), [])
def SeqL : List HCall → LS_ → LS_ → Prop
 | [], s, s' => s = s'
 | c :: l, s, s' => ∃ s1, stepH c s = some s1 ∧ SeqL l s1 s'
theorem SeqL.snoc : ∀ {l : List HCall} {s s' : LS_} {c : HCall} {s2 : LS_}, SeqL l s s' → stepH c s' = some s2 → SeqL (l ++ [c]) s s2
 | [], _, _, c, s2, h, hc => by cases h; exact ⟨s2, hc, rfl⟩
 | x :: l, s, s', c, s2, ⟨s1, h1, h2⟩, hc => ⟨s1, h1, h2.snoc hc⟩
theorem wrongE_50 (o : Opm) : wrongE o ≠ 50 := by
 unfold wrongE
 repeat' split
 all_goals decide
theorem actE_50 (S : List RowM) (o : Opm) : actE S o ≠ 50 := by
 unfold actE
 repeat' split
 all_goals decide
theorem doR_50 {S : List RowM} {K : List KeptM} (hK : ∀ k ∈ K, k.why ≠ 50) (o : Opm) : (doR S K o).why ≠ 50 := by
 unfold doR
 split
 ·exact wrongE_50 o
 ·split
  ·show (0 : Int) ≠ 50; decide
  ·split
   ·show (0 : Int) ≠ 50; decide
   ·split
    ·split
     ·show (40 : Int) ≠ 50; decide
     ·show (0 : Int) ≠ 50; decide
    ·split
     ·rename_i k hk
      split
      ·show (45 : Int) ≠ 50; decide
      ·exact hK k (findK_some hk).1
     ·exact actE_50 S (plainE o)
theorem doK_50 {S : List RowM} {K : List KeptM} (hK : ∀ k ∈ K, k.why ≠ 50) (o : Opm) : ∀ k ∈ doK S K o, k.why ≠ 50 := by
 intro k hk
 unfold doK at hk
 split at hk
 ·rcases List.mem_append.1 hk with hk | hk
  ·exact hK k hk
  ·rw [List.mem_singleton.1 hk]; exact actE_50 S (plainE o)
 ·exact hK k hk
theorem stepH_self (c : HCall) (s : LS_) (h : c.rep = doR s.1 s.2 c.op) : stepH c s = some (doS s.1 s.2 c.op, doK s.1 s.2 c.op) := by
 unfold stepH
 rw [if_neg (by rw [h]; simp)]
structure OneH (s : LS_) (h : List HCall) : Prop where
 seq : SeqL h ([], []) s
 at_ : ∀ i c, h[i]? = some c → c.bg = ((2 * i : Nat) : Int) ∧ c.en = ((2 * i + 1 : Nat) : Int) ∧ c.told = true ∧ c.rep.why ≠ 50
 why : ∀ k ∈ s.2, k.why ≠ 50
theorem OneH.step {s : LS_} {h : List HCall} (H : OneH s h) (o : Opm) : OneH (oneStep (s, h) o).1 (oneStep (s, h) o).2 where
 seq := H.seq.snoc (stepH_self _ _ rfl)
 at_ i c hc := by
  have hc : (h ++ [(⟨o, ((2 * h.length : Nat) : Int), ((2 * h.length + 1 : Nat) : Int), true, doR s.1 s.2 o⟩ : HCall)])[i]? = some c := hc
  rw [List.getElem?_append] at hc
  split at hc
  ·exact H.at_ i c hc
  ·rename_i hi
   have hi2 : i - h.length = 0 := by
    have := (List.getElem?_eq_some_iff.1 hc).1
    simp only [List.length_cons, List.length_nil] at this; omega
   rw [hi2] at hc
   simp only [List.getElem?_cons_zero, Option.some.injEq] at hc
   subst hc
   have hi3 : i = h.length := by omega
   subst hi3
   exact ⟨rfl, rfl, rfl, doR_50 H.why o⟩
 why := doK_50 H.why o
def Wide (a b : HCall) : Prop := b.op = a.op ∧ b.told = a.told ∧ b.rep = a.rep ∧ b.bg ≤ a.bg ∧ a.en ≤ b.en
theorem Wide.refl (a : HCall) : Wide a a := ⟨rfl, rfl, rfl, Int.le_refl _, Int.le_refl _⟩
theorem Wide.step {a b : HCall} (h : Wide a b) (s : LS_) : stepH b s = stepH a s := by unfold stepH; rw [h.1, h.2.1, h.2.2.1]
theorem Wide.ahead {a b c d : HCall} (h : Wide a b) (k : Wide c d) (q : aheadH a c = false) : aheadH b d = false := by
 unfold aheadH at q ⊢
 rw [h.2.1]
 cases ht : a.told with
 | false => rfl
 | true =>
  rw [ht] at q
  have := of_decide_eq_false (show decide (a.en < c.bg) = false from q)
  show decide (b.en < d.bg) = false
  have h1 := h.2.2.2.2; have h2 := k.2.2.2.1
  exact decide_eq_false (by omega)
def WideL (a b : List HCall) : Prop := a.length = b.length ∧ ∀ (i : Nat) (x y : HCall), a[i]? = some x → b[i]? = some y → Wide x y
theorem WideL.refl (a : List HCall) : WideL a a := ⟨rfl, fun i x y h k => by rw [h] at k; cases k; exact Wide.refl x⟩
theorem WideL.set {a b : List HCall} (h : WideL a b) {i : Nat} {x z : HCall} (hx : a[i]? = some x) (hz : Wide x z) : WideL a (b.set i z) := by
 refine ⟨by rw [List.length_set]; exact h.1, fun j u v hu hv => ?_⟩
 rw [List.getElem?_set] at hv
 split at hv
 ·rename_i hij
  subst hij
  split at hv
  ·cases hv; rw [hx] at hu; cases hu; exact hz
  ·cases hv
 ·exact h.2 j u v hu hv
theorem WideL.cons {x y : HCall} {a b : List HCall} (h : WideL (x :: a) (y :: b)) : Wide x y ∧ WideL a b := ⟨h.2 0 x y rfl rfl, by have := h.1; simp only [List.length_cons] at this; omega, fun i u v hu hv => h.2 (i + 1) u v hu hv⟩
theorem OneH.pair {s : LS_} {h : List HCall} (H : OneH s h) : h.Pairwise (fun a b => aheadH b a = false) := by
 rw [List.pairwise_iff_getElem]
 intro i j hi hj hij
 have h1 := H.at_ i h[i] (List.getElem?_eq_getElem hi)
 have h2 := H.at_ j h[j] (List.getElem?_eq_getElem hj)
 unfold aheadH
 rw [h2.2.1, h1.1, decide_eq_false (by omega), Bool.and_false]
theorem OneH.wide {s : LS_} {h b : List HCall} (H : OneH s h) (hw : WideL h b) : ∀ c ∈ b, countsH c = true ∧ c.bg ≤ c.en := by
 intro c hc
 obtain ⟨i, hi⟩ := List.mem_iff_getElem?.1 hc
 have hl := (List.getElem?_eq_some_iff.1 hi).1
 have e := hw.1
 have hx := List.getElem?_eq_getElem (show i < h.length by omega)
 have w := hw.2 i _ c hx hi
 have h1 := H.at_ i _ hx
 refine ⟨?_, ?_⟩
 ·rw [counts_told (by rw [w.2.1]; exact h1.2.2.1), w.2.2.1]
  exact bne_iff_ne.2 h1.2.2.2
 ·have h3 := w.2.2.2.1; have h4 := w.2.2.2.2; have h5 := h1.1; have h6 := h1.2.1
  omega
theorem Lin.more {U : List HCall} {s : LS_} (h : Lin U s) {x : HCall} (hx : x.told = false) : Lin (U ++ [x]) s := by
 induction h with
 | done h => exact .done fun c hc => by rcases List.mem_append.1 hc with hc | hc; exact h c hc; rw [List.mem_singleton.1 hc]; exact hx
 | @step U A B c s s' e ha hst hl ih =>
  subst e
  refine .step (A := A) (B := B ++ [x]) (c := c) (by rw [List.append_assoc, List.cons_append]) (fun d hd => ?_) hst (by rw [← List.append_assoc]; exact ih)
  rw [← List.append_assoc] at hd
  rcases List.mem_append.1 hd with hd | hd
  ·exact ha d hd
  ·rw [List.mem_singleton.1 hd]; exact ahead_not hx
theorem of_map {P : HCall → Prop} {o : List HC} {m : List HCall} (h : o.map HC.c = m) (hm : ∀ c ∈ m, P c) : ∀ x ∈ o, P x.c := fun x hx => hm _ (by rw [← h]; exact List.mem_map_of_mem hx)
end Go.Q
namespace Go.Q
open Go.RowKit
def bB (b : Bool) : List Value := [.bool b]
theorem bB_one (b : Bool) : (bB b).length = 1 := rfl
def mkS? (L : Loc) (o : Oper) : Option (TypeId × Value × Value) :=
 match o.op with
 | .makeSlice t x y => some (t, ev L x, ev L y)
 | _ => none
theorem Runs.make {P : Program} {L : Loc} {o : Oper} {w w' : World} {v : Value} {t : TypeId} {x y : Value} (h : mkS? L o = some (t, x, y)) (hr : (Instr.makeSlice t x y).run P w = .ok v w') : Runs P L o w v w' := by
 unfold mkS? at h
 cases ho : o.op with
 | makeSlice t' x' y' =>
  rw [ho] at h
  simp only [Option.some.injEq, Prod.mk.injEq] at h
  obtain ⟨rfl, hx, hy⟩ := h
  unfold Runs execOp
  simp only [ho, hx, hy, Sem.run_bind, hr, Result.andThen_ok, Sem.run_pure]
 | _ => rw [ho] at h; cases h
def bools (l : List Bool) : List Value := l.flatMap bB
theorem bools_map (l : List Bool) : bools l = l.map Value.bool := by
 unfold bools
 induction l with
 | nil => rfl
 | cons b l ih => rw [List.flatMap_cons, ih]; rfl
theorem bools_len (l : List Bool) : (bools l).length = l.length := by rw [bools_map, List.length_map]
theorem bools_set (l : List Bool) (k : Nat) (b : Bool) : (bools l).set k (.bool b) = bools (l.set k b) := by rw [bools_map, bools_map, List.map_set]
theorem bools_rd {w : World} {b : Nat} {l : List Bool} {E : TypeId} (h : Has w b (rowL (bools l) E)) (hm : l.length ≤ maxLen) : RdT w 1 bB (.slice (some ⟨b, 0, none⟩) l.length l.length) l := Rd.lit h (by show (bools l).length = _; rw [bools_len, Nat.mul_one]) hm
theorem run_makeH {P : Program} {t e : TypeId} (w : World) (ht : P.underlying t = some (.slice e)) (hi : (P.info? e).map (fun i => (i.zero, i.size, i.bytes)) = some (some (Value.bool false), 1, 1)) {n : Nat} (hn : n ≤ 1000000) :
  ∃ w', (Instr.makeSlice t (i64 ((n : Nat) : Int)) (i64 ((n : Nat) : Int))).run P w = .ok (.slice (some ⟨w.heap.size, 0, none⟩) n n) w' ∧ Has w' w.heap.size (rowL (bools (List.replicate n false)) e) ∧ Keeps none_ w w' := by
 obtain ⟨i, h1, h2, h3, h4⟩ := info_parts hi
 have hr := run_makeSlice (P := P) w t e i (.bool false) ht h1 h2 .i64 .i64 ((n : Nat) : Int) ((n : Nat) : Int) (by omega) (Int.le_refl _) (by rw [h3]; omega) (by rw [h4]; omega) (by omega)
 have e1 : (Obj.cells (madeCells (Value.bool false).cells (((n : Nat) : Int).toNat * i.size)) e) = rowL (bools (List.replicate n false)) e := by
  rw [h3, Nat.mul_one, show (Value.bool false).cells = #[Value.bool false] from rfl, bools_map, List.map_replicate]
  unfold rowL
  congr 1
  rw [← Array.toList_inj, toList_madeCells_one]
  simp
 rw [e1] at hr
 exact ⟨_, by simpa using hr, Has.new w _, Keeps.alloc w _⟩
theorem RdT.ldq {α : Type} {f : α → List Value} {P : Program} {t : TypeId} {w : World} {sz n c k b off : Nat} {A : Option Addr} {l : List α} {x : α} {pre vs rest : List Value} {o : Nat} (hf : ∀ x, (f x).length = sz) (h : RdT w sz f (.slice A n c) l) (ht : isAgg? P t = some true) (hs : size? P t = some vs.length) (hA : A = some ⟨b, off, none⟩) (hx : l[k]? = some x) (hp : f x = pre ++ (vs ++ rest)) (ho : pre.length = o) :
  Loads P w t ⟨b, off + k * sz + o, none⟩ (agg vs) := by
 subst ho
 rw [Nat.add_assoc]
 exact Rd.ldN h ht hs hA fun j u hu => by
  rw [Nat.add_assoc]
  exact flat_at hf hx (pre.length + j) u (by
   rw [hp, List.getElem?_append_right (by omega), show pre.length + j - pre.length = j from by omega, List.getElem?_append_left (List.getElem?_eq_some_iff.1 hu).1]
   exact hu)
end Go.Q
namespace Go.Q
open Go.RowKit
def undR (n : Nat) (ds : List Bool) : Nat := (List.range n).countP fun i => !ds.getD i false
def updR (n : Nat) (ds : List Bool) (i : Nat) : List Bool := (List.range n).map fun j => ds.getD j false || decide (j = i)
theorem updR_len (n : Nat) (ds : List Bool) (i : Nat) : (updR n ds i).length = n := by unfold updR; rw [List.length_map, List.length_range]
theorem updR_at {n : Nat} {ds : List Bool} {i j : Nat} (hj : j < n) : (updR n ds i).getD j false = (ds.getD j false || decide (j = i)) := by
 unfold updR
 rw [List.getD_eq_getElem?_getD, List.getElem?_map, List.getElem?_range hj]
 rfl
theorem und_upd {n : Nat} {ds : List Bool} {i : Nat} (hi : i < n) (h : ds.getD i false = false) : undR n ds = undR n (updR n ds i) + 1 := by
 unfold undR
 have : ∀ m, m ≤ n → (List.range m).countP (fun j => !ds.getD j false) = (List.range m).countP (fun j => !(updR n ds i).getD j false) + (if i < m then 1 else 0) := by
  intro m
  induction m with
  | zero => intro _; simp
  | succ m ih =>
   intro hm
   rw [List.range_succ, List.countP_append, List.countP_append, ih (by omega), List.countP_singleton, List.countP_singleton, updR_at (by omega)]
   by_cases e : m = i
   ·subst e
    rw [h, decide_eq_true rfl, if_neg (Nat.lt_irrefl _), if_pos (Nat.lt_succ_self _)]
    rfl
   ·rw [decide_eq_false e, Bool.or_false]
    by_cases q : i < m
    ·rw [if_pos q, if_pos (show i < m + 1 by omega)]; omega
    ·rw [if_neg q, if_neg (show ¬ i < m + 1 by omega), Nat.add_zero, Nat.add_zero]
 rw [this n (Nat.le_refl _), if_pos hi]
def tryV (l : List HCall) (ds : List Bool) (left : Int) (s : LS_) (o : List Nat) : Option (List Nat) := tryR l (undR l.length ds) ds left s o
def waitV (l : List HCall) (ds : List Bool) (i : Nat) (c : HCall) : Bool := (List.range l.length).any fun j => match l[j]? with | some d => !ds.getD j false && decide (j ≠ i) && countsH d && aheadH d c | none => false
def nextV (l : List HCall) (ds : List Bool) (left : Int) (s : LS_) (o : List Nat) (i : Nat) : Option (List Nat) := match l[i]? with
 | none => none
 | some c => if ds.getD i false || !countsH c then none
  else if waitV l ds i c then none
  else match stepH c s with
   | none => none
   | some s' => tryV l (updR l.length ds i) (if c.told then left - 1 else left) s' (o ++ [i])
theorem findSome_none {α β : Type} {f : α → Option β} {l : List α} (h : ∀ a ∈ l, f a = none) : l.findSome? f = none := by
 induction l with
 | nil => rfl
 | cons a l ih => rw [List.findSome?_cons, h a (List.mem_cons_self ..)]; exact ih fun b hb => h b (List.mem_cons_of_mem _ hb)
theorem tryV_step (l : List HCall) (ds : List Bool) (left : Int) (s : LS_) (o : List Nat) : tryV l ds left s o = if left = 0 then some o else (List.range l.length).findSome? (nextV l ds left s o) := by
 unfold tryV
 cases hu : undR l.length ds with
 | zero =>
  show (if left = 0 then some o else none) = _
  congr 1
  refine (findSome_none fun i hi => ?_).symm
  have hi := List.mem_range.1 hi
  have hd : ds.getD i false = true := by
   unfold undR at hu
   rw [List.countP_eq_zero] at hu
   have := hu i (List.mem_range.2 hi)
   simpa using this
  unfold nextV
  rw [List.getElem?_eq_getElem hi]
  show (if (ds.getD i false || _) = true then none else _) = none
  rw [hd]; rfl
 | succ k =>
  show (if left = 0 then some o else (List.range l.length).findSome? fun i => _) = _
  congr 1
  refine findSome_congr fun i hi => ?_
  have hi := List.mem_range.1 hi
  unfold nextV
  rw [List.getElem?_eq_getElem hi]
  dsimp only
  split
  ·rfl
  ·rename_i hq
   have hd : ds.getD i false = false := by
    cases q : ds.getD i false with
    | false => rfl
    | true => rw [q] at hq; exact absurd rfl hq
   have hk : undR l.length (updR l.length ds i) = k := by have := und_upd hi hd; omega
   show (if _ then none else _) = (if waitV l ds i l[i] = true then none else _)
   unfold waitV tryV
   rw [hk]
   rfl
theorem und_rep (n : Nat) : undR n (List.replicate n false) = n := by
 unfold undR
 rw [List.countP_eq_length.2, List.length_range]
 intro i hi
 rw [List.getD_eq_getElem?_getD, List.getElem?_replicate]
 have := List.mem_range.1 hi
 rw [if_pos this]; rfl
theorem rounds_none {F : Nat → Option (List Nat)} {i : Nat} (h : ∀ j, j < i → F j = none) (hi : F i = none) : ∀ j, j < i + 1 → F j = none := fun j hj => by
 rcases Nat.lt_succ_iff_lt_or_eq.1 hj with q | rfl
 ·exact h j q
 ·exact hi
theorem rounds_end {n : Nat} {F : Nat → Option (List Nat)} {i : Nat} (hi : n ≤ i) (h : ∀ j, j < i → F j = none) : (List.range n).findSome? F = none := findSome_none fun j hj => h j (by have := List.mem_range.1 hj; omega)
theorem rounds_some {n : Nat} {F : Nat → Option (List Nat)} {i : Nat} (hi : i < n) (h : ∀ j, j < i → F j = none) {o : List Nat} (ho : F i = some o) : (List.range n).findSome? F = some o := by
 have e : List.range n = List.range i ++ (i :: (List.range (n - i - 1)).map (fun j => i + (1 + j))) := by
  have : n = i + (1 + (n - i - 1)) := by omega
  conv => lhs; rw [this, List.range_add, List.range_add, List.map_append]
  simp
 rw [e, List.findSome?_append, findSome_none (fun j hj => h j (List.mem_range.1 hj)), List.findSome?_cons, ho]
 rfl
end Go.Q
namespace Go.Q
open Go.RowKit
section
variable {M : List HCall} {ds : List Bool} {left : Int} {s s' : LS_} {o : List Nat} {i : Nat} {c : HCall}
theorem nextV_skip (hx : M[i]? = some c) (h : (ds.getD i false || !countsH c) = true) : nextV M ds left s o i = none := by
 unfold nextV
 rw [hx]
 show (if (ds.getD i false || !countsH c) = true then none else _) = none
 rw [if_pos h]
theorem nextV_on (hx : M[i]? = some c) (h0 : ds.getD i false = false) (h1 : countsH c = true) : nextV M ds left s o i = if waitV M ds i c = true then none else match stepH c s with
   | none => none
   | some s' => tryV M (updR M.length ds i) (if c.told = true then left - 1 else left) s' (o ++ [i]) := by
 unfold nextV
 rw [hx]
 show (if (ds.getD i false || !countsH c) = true then none else _) = _
 rw [h0, h1, if_neg (by decide)]
 try rfl
theorem nextV_wait (hx : M[i]? = some c) (h0 : ds.getD i false = false) (h1 : countsH c = true) (hw : waitV M ds i c = true) : nextV M ds left s o i = none := by rw [nextV_on hx h0 h1, if_pos hw]
theorem nextV_bad (hx : M[i]? = some c) (h0 : ds.getD i false = false) (h1 : countsH c = true) (hw : waitV M ds i c = false) (hs : stepH c s = none) : nextV M ds left s o i = none := by
 rw [nextV_on hx h0 h1, hw, if_neg (by decide), hs]
theorem nextV_go (hx : M[i]? = some c) (h0 : ds.getD i false = false) (h1 : countsH c = true) (hw : waitV M ds i c = false) (hs : stepH c s = some s') : nextV M ds left s o i = tryV M (updR M.length ds i) (if c.told = true then left - 1 else left) s' (o ++ [i]) := by
 rw [nextV_on hx h0 h1, hw, if_neg (by decide), hs]
def askV (M : List HCall) (ds : List Bool) (i : Nat) (c : HCall) (j : Nat) : Bool := match M[j]? with | some d => !ds.getD j false && decide (j ≠ i) && countsH d && aheadH d c | none => false
theorem waitV_eq : waitV M ds i c = (List.range M.length).any (askV M ds i c) := rfl
theorem ask_step (j : Nat) : (List.range (j + 1)).any (askV M ds i c) = ((List.range j).any (askV M ds i c) || askV M ds i c j) := by
 rw [List.range_succ, List.any_append, List.any_cons, List.any_nil, Bool.or_false]
theorem ask_at {j : Nat} {u : HCall} (hu : M[j]? = some u) : askV M ds i c j = (!ds.getD j false && decide (j ≠ i) && countsH u && aheadH u c) := by unfold askV; rw [hu]
theorem getD_at {l : List Bool} {j : Nat} {b : Bool} (h : l[j]? = some b) : l.getD j false = b := by rw [List.getD_eq_getElem?_getD, h]; rfl
end
def fillR (n : Nat) (ds : List Bool) (i j : Nat) : List Bool := (List.range n).map fun q => if q < j then (ds.getD q false || decide (q = i)) else false
theorem fillR_zero (n : Nat) (ds : List Bool) (i : Nat) : fillR n ds i 0 = List.replicate n false := by
 unfold fillR
 apply List.ext_getElem?
 intro q
 rw [List.getElem?_map, List.getElem?_replicate]
 by_cases h : q < n
 ·rw [List.getElem?_range h, if_pos h]; show some (if q < 0 then _ else false) = _; rw [if_neg (Nat.not_lt_zero _)]
 ·rw [if_neg h, List.getElem?_eq_none (by rw [List.length_range]; omega)]; rfl
theorem fillR_len (n : Nat) (ds : List Bool) (i j : Nat) : (fillR n ds i j).length = n := by unfold fillR; rw [List.length_map, List.length_range]
theorem fillR_set {n : Nat} {ds : List Bool} {i j : Nat} (hj : j < n) {b : Bool} (hb : (ds.getD j false || decide (j = i)) = b) : (fillR n ds i j).set j b = fillR n ds i (j + 1) := by
 apply List.ext_getElem?
 intro q
 rw [List.getElem?_set, fillR_len]
 by_cases e : j = q
 ·subst e
  rw [if_pos rfl, if_pos hj]
  unfold fillR
  rw [List.getElem?_map, List.getElem?_range hj]
  show some b = some (if j < j + 1 then _ else false)
  rw [if_pos (Nat.lt_succ_self _), hb]
 ·rw [if_neg e]
  unfold fillR
  rw [List.getElem?_map, List.getElem?_map]
  by_cases h : q < n
  ·rw [List.getElem?_range h]
   show some (if q < j then _ else false) = some (if q < j + 1 then _ else false)
   by_cases h2 : q < j
   ·rw [if_pos h2, if_pos (show q < j + 1 by omega)]
   ·rw [if_neg h2, if_neg (show ¬ q < j + 1 by omega)]
  ·rw [List.getElem?_eq_none (by rw [List.length_range]; omega)]; rfl
theorem fillR_all (n : Nat) (ds : List Bool) (i : Nat) : fillR n ds i n = updR n ds i := by
 unfold fillR updR
 refine List.map_congr_left fun q hq => ?_
 rw [if_pos (List.mem_range.1 hq)]
theorem ans_some {T : Option (List Nat)} {o : List Nat} (h : (o, true) = (match T with | some x => (x, true) | none => ([], false))) : T = some o := by
 cases T with
 | none => cases h
 | some x => cases h; rfl
theorem ans_none {T : Option (List Nat)} {o : List Nat} (h : (o, false) = (match T with | some x => (x, true) | none => ([], false))) : T = none := by
 cases T with
 | none => rfl
 | some x => cases h
end Go.Q
namespace Go.Proofs.YtnbcghbgeiocbaaDoor
open Go.Q Go.RowKit
theorem tyIR : ElemTy Tryd.prog 35 3 1 8 := elemTy (by kernel_rfl)
def TryS (u : Nat) : Prop := ∀ (w : World) (LA : Option Addr) (lc : Nat) (l : List HC) (G : Nat → Prop) (DA : Option Addr) (dc : Nat) (ds : List Bool) (left : Int) (r : Nat) (A : Option Addr) (c : Nat) (S : List RowM) (B : Option Addr) (d : Nat) (K : List KeptM) (OA : Option Addr) (oc : Nat) (o : List Nat), RdT w 13 HC.cells (Value.slice LA l.length lc) l → RowsE w HC.rv HC.rows G l → (∀ x ∈ l, -9223372036854775808 ≤ x.c.op.amount ∧ x.c.op.amount ≤ 9223372036854775807) → l.length ≤ 40 → RdT w 1 bB (Value.slice DA l.length dc) ds → ds.length = l.length → Has w r (rowL [(Value.slice A S.length c), (Value.slice B K.length d)] 55) → RdT w 2 RowM.cells (Value.slice A S.length c) S → RdT w 10 kref (Value.slice B K.length d) K → Ledg S K → K.length + undR l.length ds ≤ 100 → RdT w 1 iN (Value.slice OA o.length oc) o → o.length + undR l.length ds ≤ 100 → (-1000 + ((undR l.length ds : Nat) : Int) ≤ left ∧ left ≤ 1000) → undR l.length ds = u → Calls Tryd.prog 36 ⟨[(Value.slice LA l.length lc), (Value.slice DA l.length dc), (i64 left), (ptr r), (Value.slice OA o.length oc)]⟩ w (fun e w' => ∃ (A' : Option Addr) (c' : Nat) (o' : List Nat) (ok : Bool), e = .returned (.tuple #[.slice A' o'.length c', .bool ok]) ∧ Keeps none_ w w' ∧ RdT w' 1 iN (.slice A' o'.length c') o' ∧ (o', ok) = (match tryV (l.map HC.c) ds left (S, K) o with | some x => (x, true) | none => ([], false)))
set_option maxHeartbeats 4000000 in
theorem Try_walk (w : World) (LA : Option Addr) (lc : Nat) (l : List HC) (G : Nat → Prop) (DA : Option Addr) (dc : Nat) (ds : List Bool) (left : Int) (r : Nat) (A : Option Addr) (c : Nat) (S : List RowM) (B : Option Addr) (d : Nat) (K : List KeptM) (OA : Option Addr) (oc : Nat) (o : List Nat) (hL : RdT w 13 HC.cells (Value.slice LA l.length lc) l) (hG : RowsE w HC.rv HC.rows G l) (ho : (∀ x ∈ l, -9223372036854775808 ≤ x.c.op.amount ∧ x.c.op.amount ≤ 9223372036854775807)) (hl : l.length ≤ 40) (hD : RdT w 1 bB (Value.slice DA l.length dc) ds) (hdl : ds.length = l.length) (Hr : Has w r (rowL [(Value.slice A S.length c), (Value.slice B K.length d)] 55)) (hR : RdT w 2 RowM.cells (Value.slice A S.length c) S) (hQ : RdT w 10 kref (Value.slice B K.length d) K) (hLg : Ledg S K) (hKu : K.length + undR l.length ds ≤ 100) (hO : RdT w 1 iN (Value.slice OA o.length oc) o) (hou : o.length + undR l.length ds ≤ 100) (hlf : (-1000 + ((undR l.length ds : Nat) : Int) ≤ left ∧ left ≤ 1000)) (IH : ∀ u, u < undR l.length ds → TryS u) : Calls Tryd.prog 36 ⟨[(Value.slice LA l.length lc), (Value.slice DA l.length dc), (i64 left), (ptr r), (Value.slice OA o.length oc)]⟩ w (fun e w' => ∃ (A' : Option Addr) (c' : Nat) (o' : List Nat) (ok : Bool), e = .returned (.tuple #[.slice A' o'.length c', .bool ok]) ∧ Keeps none_ w w' ∧ RdT w' 1 iN (.slice A' o'.length c') o' ∧ (o', ok) = (match tryV (l.map HC.c) ds left (S, K) o with | some x => (x, true) | none => ([], false))) := by
 have Hrl := Hr.lt
 have hSle := hLg.le
 have hcapO := (RdT.len iN_one (by decide) hO).2
 unfold maxLen at hcapO
 have K0 : Keeps none_ w w := Keeps.refl w
 refine q_calls Tryd.func36 (by kernel_rfl) (by kernel_rfl) ?_
 refine qsg ?_
 refine odz 2 ?_
 refine qs ?_
 refine qsg ?_
 refine ogd 2 [(0, .slice LA l.length lc), (1, .slice DA l.length dc), (2, i64 left), (3, ptr r), (4, .slice OA o.length oc), (10, .slice none 0 0), (11, .bool false), (24, .bool (left == 0))] ?_
 refine qcQ 24 (left == 0) rfl (fun h1 => ?_) (fun h1 => ?_)
 ·rw [h1]
  have p2 := of_beq_t h1
  refine qsg ?_
  refine ogd 3 [(0, .slice LA l.length lc), (1, .slice DA l.length dc), (2, i64 left), (3, ptr r), (4, .slice OA o.length oc), (10, .slice OA o.length oc), (11, .bool true)] ?_
  refine qtQ ?_
  refine ⟨(Value.tuple #[(Value.slice OA o.length oc), (Value.bool true)]), retv_tmp2 rfl rfl rfl, ?_⟩
  exact ⟨OA, oc, o, true, rfl, K0, (Rd.keep0 (by decide) hO K0), by rw [tryV_step, if_pos (by omega)]⟩
 ·rw [h1]
  have p3 := of_beq_f h1
  refine qkQ ?_
  refine qs ?_
  refine qsg ?_
  refine ogd 1 [(0, .slice LA l.length lc), (1, .slice DA l.length dc), (2, i64 left), (3, ptr r), (4, .slice OA o.length oc), (10, .slice none 0 0), (11, .bool false), (12, i64 0)] ?_
  refine q_block (id := 0) (by kernel_rfl) ?_
  refine q_keep (R := [(0, .slice LA l.length lc), (1, .slice DA l.length dc), (2, i64 left), (3, ptr r), (4, .slice OA o.length oc), (12, i64 0)]) (by kernel_rfl) ?_
  refine q_loop (fun (ii : Nat) L (wx : World) => L = [(0, (Value.slice LA l.length lc)), (1, (Value.slice DA l.length dc)), (2, (i64 left)), (3, (ptr r)), (4, (Value.slice OA o.length oc)), (12, (i64 ((ii : Nat) : Int)))] ∧ (∀ j, j < ii → nextV (l.map HC.c) ds left (S, K) o j = none) ∧ ii ≤ l.length ∧ Keeps none_ w wx ∧ Has wx r (rowL [(Value.slice A S.length c), (Value.slice B K.length d)] 55)) (fun (ii : Nat) => l.length - ii) 0 (by kernel_rfl) ⟨rfl, (fun j hj => absurd hj (Nat.not_lt_zero _)), Nat.zero_le _, K0, Hr⟩ ?_
  clear Hr K0
  rintro ii _ w4 ⟨rfl, hno, hi, K5, H6⟩
  refine qs ?_
  refine qsg ?_
  refine ogd 4 [(0, .slice LA l.length lc), (1, .slice DA l.length dc), (2, i64 left), (3, ptr r), (4, .slice OA o.length oc), (12, i64 ↑ii), (29, (Value.bool (decide (((ii : Nat) : Int) < ((l.length : Nat) : Int)))))] ?_
  refine qcQ 29 (decide (((ii : Nat) : Int) < ((l.length : Nat) : Int))) rfl (fun h7 => ?_) (fun h7 => ?_)
  ·rw [h7]
   have p8 := of_decide_eq_true h7
   obtain ⟨x, hx⟩ : ∃ x, l[ii]? = some x := ⟨_, List.getElem?_eq_getElem (by omega)⟩
   have hxm : (l.map HC.c)[ii]? = some x.c := by rw [List.getElem?_map, hx]; rfl
   have hxa := ho x (List.mem_of_getElem? hx)
   have hkl9 := oneK_len S K x.c.op
   have hrl9 := oneR_rows S K x.c.op
   have hxr : RdR w x.rv x.rows := hG.1 x (List.mem_of_getElem? hx)
   refine qkQ ?_
   refine qs ?_
   refine q_block (id := 1) (by kernel_rfl) ?_
   refine qs ?_
   refine qsg ?_
   refine og 2 [(0, .slice LA l.length lc), (1, .slice DA l.length dc), (2, i64 left), (3, ptr r), (4, .slice OA o.length oc), (12, i64 ↑ii), (32, .slice DA l.length dc), (33, i64 ↑ii)] 2 ?_
   obtain ⟨dd, hdd⟩ : ∃ z, ds[ii]? = some z := ⟨_, List.getElem?_eq_getElem (by omega)⟩
   have hgdd := getD_at hdd
   obtain ⟨rb9, ro10, hA11⟩ := Rd.addr (Rd.keep0 (by decide) hD K5) (by omega)
   refine Ops.go (by kernel_rfl) (Runs.ixSliceE (k := IntKind.i64) (t := 92) (len := l.length) (cap := dc) (s := 1) (off' := ro10 + ii) (i := ((ii : Nat) : Int)) hA11 (by kernel_rfl) (by kernel_rfl) (by omega) (by omega) (by omega)) (d := (some 34)) (by kernel_rfl) rfl ?_
   refine ogo (Value.bool dd) 35 (Runs.load (t := 4) (a := ⟨rb9, ro10 + ii, none⟩) (by kernel_rfl) (RdT.ldu (f := bB) (x := dd) bB_one (Rd.keep0 (by decide) hD K5) (by kernel_rfl) hA11 hdd rfl)) rfl ?_
   refine og 1 [(0, .slice LA l.length lc), (1, .slice DA l.length dc), (2, i64 left), (3, ptr r), (4, .slice OA o.length oc), (12, i64 ↑ii), (36, .bool dd)] 5 ?_
   refine Ops.split dd (fun h12 => ?_) (fun h12 => ?_)
   ·rw [h12]
    have p13 : dd = true := h12
    refine ogd 7 [(0, .slice LA l.length lc), (1, .slice DA l.length dc), (2, i64 left), (3, ptr r), (4, .slice OA o.length oc), (12, i64 ↑ii), (43, .bool true)] ?_
    refine q_then (o := .tmp 43) (by kernel_rfl) rfl ?_
    refine q_exit (id := 1) (by kernel_rfl) ?_
    refine qg ?_
    refine oid 3 (fun z => [(0, .slice LA l.length lc), (1, .slice DA l.length dc), (2, i64 left), (3, ptr r), (4, .slice OA o.length oc), (12, i64 z)]) ii ?_
    exact ⟨ii + 1, ⟨rfl, (rounds_none hno (nextV_skip hxm (by rw [hgdd, h12]; rfl))), (by omega), K5, H6⟩, (show l.length - (ii + 1) < l.length - ii from by omega)⟩
   ·rw [h12]
    have p15 : dd = false := h12
    have h0 : ds.getD ii false = false := hgdd.trans h12
    have hund := und_upd (n := l.length) (i := ii) (by omega) h0
    refine og 2 [(0, .slice LA l.length lc), (1, .slice DA l.length dc), (2, i64 left), (3, ptr r), (4, .slice OA o.length oc), (12, i64 ↑ii), (36, .bool false), (37, .slice LA l.length lc), (38, i64 ↑ii)] 7 ?_
    obtain ⟨rb16, ro17, hA18⟩ := Rd.addr (Rd.keep0 (by decide) hL K5) (by omega)
    refine Ops.go (by kernel_rfl) (Runs.ixSliceE (k := IntKind.i64) (t := 22) (len := l.length) (cap := lc) (s := 13) (off' := ro17 + ii * 13) (i := ((ii : Nat) : Int)) hA18 (by kernel_rfl) (by kernel_rfl) (by omega) (by omega) (by omega)) (d := (some 39)) (by kernel_rfl) rfl ?_
    refine ogo (agg (HC.cells x)) 40 (Runs.load (t := 30) (a := ⟨rb16, ro17 + ii * 13, none⟩) (by kernel_rfl) (RdT.ld (f := HC.cells) (x := x) HC.two (Rd.keep0 (by decide) hL K5) (by kernel_rfl) (by kernel_rfl) hA18 hx)) rfl ?_
    refine ocQ 41 (countsR_calls _ x) ?_
    rintro _ w19 ⟨rfl, K20⟩
    refine ⟨_, _, rfl, rfl, ?_⟩
    replace K5 := K5.tn K20
    replace H6 := H6.kn K20
    refine ogd 2 [(0, .slice LA l.length lc), (1, .slice DA l.length dc), (2, i64 left), (3, ptr r), (4, .slice OA o.length oc), (12, i64 ↑ii), (43, (Value.bool (!(countsH x.c))))] ?_
    refine qcQ 43 (!(countsH x.c)) rfl (fun h21 => ?_) (fun h21 => ?_)
    ·rw [h21]
     have p22 := bnot_true h21
     refine q_exit (id := 1) (by kernel_rfl) ?_
     refine qg ?_
     refine oid 3 (fun z => [(0, .slice LA l.length lc), (1, .slice DA l.length dc), (2, i64 left), (3, ptr r), (4, .slice OA o.length oc), (12, i64 z)]) ii ?_
     exact ⟨ii + 1, ⟨rfl, (rounds_none hno (nextV_skip hxm (by rw [h0, (bnot_true h21)]; rfl))), (by omega), K5, H6⟩, (show l.length - (ii + 1) < l.length - ii from by omega)⟩
    ·rw [h21]
     have p24 := bnot_false h21
     have h1 : countsH x.c = true := (bnot_false h21)
     refine qkQ ?_
     refine qsg ?_
     refine odz 1 ?_
     refine qs ?_
     refine qsg ?_
     refine ogd 1 [(0, .slice LA l.length lc), (1, .slice DA l.length dc), (2, i64 left), (3, ptr r), (4, .slice OA o.length oc), (12, i64 ↑ii), (13, .bool true), (14, i64 0)] ?_
     refine q_block (id := 2) (by kernel_rfl) ?_
     refine q_keep (R := [(0, .slice LA l.length lc), (1, .slice DA l.length dc), (2, i64 left), (3, ptr r), (4, .slice OA o.length oc), (12, i64 ↑ii), (13, .bool true), (14, i64 0)]) (by kernel_rfl) ?_
     refine q_loop (fun (gs : Nat × Bool) L (wx : World) => match gs with | (jj, ready) => L = [(0, (Value.slice LA l.length lc)), (1, (Value.slice DA l.length dc)), (2, (i64 left)), (3, (ptr r)), (4, (Value.slice OA o.length oc)), (12, (i64 ((ii : Nat) : Int))), (13, (Value.bool ready)), (14, (i64 ((jj : Nat) : Int)))] ∧ (ready = !((List.range jj).any (askV (l.map HC.c) ds ii x.c))) ∧ jj ≤ l.length ∧ Keeps none_ w wx ∧ Has wx r (rowL [(Value.slice A S.length c), (Value.slice B K.length d)] 55)) (fun (gs : Nat × Bool) => match gs with | (jj, ready) => l.length - jj) (0, true) (by kernel_rfl) ⟨rfl, rfl, Nat.zero_le _, K5, H6⟩ ?_
     clear H6 K5
     rintro ⟨jj, ready⟩ _ w25 ⟨rfl, hrd, hj, K26, H27⟩
     refine qs ?_
     refine qsg ?_
     refine ogd 4 [(0, .slice LA l.length lc), (1, .slice DA l.length dc), (2, i64 left), (3, ptr r), (4, .slice OA o.length oc), (12, i64 ↑ii), (13, .bool ready), (14, i64 ↑jj), (47, (Value.bool (decide (((jj : Nat) : Int) < ((l.length : Nat) : Int)))))] ?_
     refine qcQ 47 (decide (((jj : Nat) : Int) < ((l.length : Nat) : Int))) rfl (fun h28 => ?_) (fun h28 => ?_)
     ·rw [h28]
      have p29 := of_decide_eq_true h28
      obtain ⟨u, hu⟩ : ∃ x, l[jj]? = some x := ⟨_, List.getElem?_eq_getElem (by omega)⟩
      have hum : (l.map HC.c)[jj]? = some u.c := by rw [List.getElem?_map, hu]; rfl
      refine qkQ ?_
      refine qs ?_
      refine q_block (id := 3) (by kernel_rfl) ?_
      refine qs ?_
      refine q_drawS 28 (by kernel_rfl) (by kernel_rfl) (by kernel_rfl) (fun w30 K31 _ _ => ?_)
      replace K26 := K26.tn K31
      replace H27 := H27.kn K31
      have Kb32 : Keeps none_ w30 w30 := Keeps.refl w30
      have zr := H27.lt
      refine ⟨fun wz => Keeps none_ w30 wz, [], (SH.nil Kb32), ?_⟩
      obtain ⟨dj, hdj⟩ : ∃ z, ds[jj]? = some z := ⟨_, List.getElem?_eq_getElem (by omega)⟩
      have hgdj := getD_at hdj
      obtain ⟨rb33, ro34, hA35⟩ := Rd.addr (Rd.keep0 (by decide) hD K26) (by omega)
      refine skQ 26 [0, 1] [(0, .slice LA l.length lc), (1, .slice DA l.length dc), (2, i64 left), (3, ptr r), (4, .slice OA o.length oc), (12, i64 ↑ii), (13, .bool ready), (14, i64 ↑jj), (50, .slice DA l.length dc), (51, i64 ↑jj)] ?_
      refine stQ 2 (Value.pointer (some ⟨rb33, ro34 + jj, none⟩)) 52 (fun wz hS => Runs.ixSliceE (k := IntKind.i64) (t := 92) (len := l.length) (cap := dc) (s := 1) (off' := ro34 + jj) (i := ((jj : Nat) : Int)) hA35 (by kernel_rfl) (by kernel_rfl) (by omega) (by omega) (by omega)) rfl ?_
      refine stQ 3 (Value.bool dj) 53 (fun wz hS => Runs.load (t := 4) (a := ⟨rb33, ro34 + jj, none⟩) (by kernel_rfl) (RdT.ldu (f := bB) (x := dj) bB_one (Rd.keep0 (by decide) hD (K26.trans hS (fun _ _ h => h) (fun _ _ h => h))) (by kernel_rfl) hA35 hdj rfl)) rfl ?_
      refine skQ 22 [4, 5] [(0, .slice LA l.length lc), (1, .slice DA l.length dc), (2, i64 left), (3, ptr r), (4, .slice OA o.length oc), (12, i64 ↑ii), (13, .bool ready), (14, i64 ↑jj), (55, .bool (!dj))] ?_
      refine DrS.split (!dj) (fun h36 => ?_) (fun h36 => ?_)
      ·rw [h36]
       have p37 := bnot_true h36
       try rw [p37]
       refine skQ 17 [6, 7, 8, 9, 10] [(0, .slice LA l.length lc), (1, .slice DA l.length dc), (2, i64 left), (3, ptr r), (4, .slice OA o.length oc), (12, i64 ↑ii), (13, .bool ready), (14, i64 ↑jj), (60, (Value.bool (((jj : Nat) : Int) != ((ii : Nat) : Int))))] ?_
       refine DrS.split (((jj : Nat) : Int) != ((ii : Nat) : Int)) (fun h38 => ?_) (fun h38 => ?_)
       ·rw [h38]
        have p39 := of_bne_t h38
        obtain ⟨rb40, ro41, hA42⟩ := Rd.addr (Rd.keep0 (by decide) hL K26) (by omega)
        refine skQ 15 [11, 12] [(0, .slice LA l.length lc), (1, .slice DA l.length dc), (2, i64 left), (3, ptr r), (4, .slice OA o.length oc), (12, i64 ↑ii), (13, .bool ready), (14, i64 ↑jj), (60, .bool true), (61, .slice LA l.length lc), (62, i64 ↑jj)] ?_
        refine stQ 13 (Value.pointer (some ⟨rb40, ro41 + jj * 13, none⟩)) 63 (fun wz hS => Runs.ixSliceE (k := IntKind.i64) (t := 22) (len := l.length) (cap := lc) (s := 13) (off' := ro41 + jj * 13) (i := ((jj : Nat) : Int)) hA42 (by kernel_rfl) (by kernel_rfl) (by omega) (by omega) (by omega)) rfl ?_
        refine stQ 14 (agg (HC.cells u)) 64 (fun wz hS => Runs.load (t := 30) (a := ⟨rb40, ro41 + jj * 13, none⟩) (by kernel_rfl) (RdT.ld (f := HC.cells) (x := u) HC.two (Rd.keep0 (by decide) hL (K26.trans hS (fun _ _ h => h) (fun _ _ h => h))) (by kernel_rfl) (by kernel_rfl) hA42 hu)) rfl ?_
        refine soQ 15 ?_
        refine Dr1.call (by kernel_rfl) (d := (some 65)) (by kernel_rfl) (countsR_calls _ u) ?_
        rintro _ w43 ⟨rfl, K44⟩
        have Kb45 := Kb32.tn K44
        refine ⟨_, _, rfl, rfl, (SH.nil Kb45), ?_⟩
        refine skQ 10 [16, 17] [(0, .slice LA l.length lc), (1, .slice DA l.length dc), (2, i64 left), (3, ptr r), (4, .slice OA o.length oc), (12, i64 ↑ii), (13, .bool ready), (14, i64 ↑jj), (67, .bool (countsH u.c))] ?_
        refine DrS.split (countsH u.c) (fun h46 => ?_) (fun h46 => ?_)
        ·rw [h46]
         have p47 : (countsH u.c) = true := h46
         have hcu : countsH u.c = true := h46
         refine skQ 8 [18, 19] [(0, .slice LA l.length lc), (1, .slice DA l.length dc), (2, i64 left), (3, ptr r), (4, .slice OA o.length oc), (12, i64 ↑ii), (13, .bool ready), (14, i64 ↑jj), (67, .bool true), (68, .slice LA l.length lc), (69, i64 ↑jj)] ?_
         refine stQ 20 (Value.pointer (some ⟨rb40, ro41 + jj * 13, none⟩)) 70 (fun wz hS => Runs.ixSliceE (k := IntKind.i64) (t := 22) (len := l.length) (cap := lc) (s := 13) (off' := ro41 + jj * 13) (i := ((jj : Nat) : Int)) hA42 (by kernel_rfl) (by kernel_rfl) (by omega) (by omega) (by omega)) rfl ?_
         refine stQ 21 (agg (HC.cells u)) 71 (fun wz hS => Runs.load (t := 30) (a := ⟨rb40, ro41 + jj * 13, none⟩) (by kernel_rfl) (RdT.ld (f := HC.cells) (x := u) HC.two (Rd.keep0 (by decide) hL (K26.trans hS (fun _ _ h => h) (fun _ _ h => h))) (by kernel_rfl) (by kernel_rfl) hA42 hu)) rfl ?_
         obtain ⟨rb48, ro49, hA50⟩ := Rd.addr (Rd.keep0 (by decide) hL K26) (by omega)
         refine skQ 4 [22, 23] [(0, .slice LA l.length lc), (1, .slice DA l.length dc), (2, i64 left), (3, ptr r), (4, .slice OA o.length oc), (12, i64 ↑ii), (13, .bool ready), (14, i64 ↑jj), (67, .bool true), (71, (agg (HC.cells u))), (72, .slice LA l.length lc), (73, i64 ↑ii)] ?_
         refine stQ 24 (Value.pointer (some ⟨rb48, ro49 + ii * 13, none⟩)) 74 (fun wz hS => Runs.ixSliceE (k := IntKind.i64) (t := 22) (len := l.length) (cap := lc) (s := 13) (off' := ro49 + ii * 13) (i := ((ii : Nat) : Int)) hA50 (by kernel_rfl) (by kernel_rfl) (by omega) (by omega) (by omega)) rfl ?_
         refine stQ 25 (agg (HC.cells x)) 75 (fun wz hS => Runs.load (t := 30) (a := ⟨rb48, ro49 + ii * 13, none⟩) (by kernel_rfl) (RdT.ld (f := HC.cells) (x := x) HC.two (Rd.keep0 (by decide) hL (K26.trans hS (fun _ _ h => h) (fun _ _ h => h))) (by kernel_rfl) (by kernel_rfl) hA50 hx)) rfl ?_
         refine soQ 26 ?_
         refine Dr1.call (by kernel_rfl) (d := (some 76)) (by kernel_rfl) (AheadR_calls _ u x) ?_
         rintro _ w51 ⟨rfl, K52⟩
         have Kb53 := Kb45.tn K52
         refine ⟨_, _, rfl, rfl, (SH.nil Kb53), ?_⟩
         refine skQ 0 [27] [(0, .slice LA l.length lc), (1, .slice DA l.length dc), (2, i64 left), (3, ptr r), (4, .slice OA o.length oc), (12, i64 ↑ii), (13, .bool ready), (14, i64 ↑jj), (77, .bool (aheadH u.c x.c))] ?_
         refine DrS.done (by kernel_rfl) ?_
         replace K26 := K26.tn Kb53
         replace H27 := H27.kn Kb53
         refine qcQ 77 (aheadH u.c x.c) rfl (fun h54 => ?_) (fun h54 => ?_)
         ·rw [h54]
          have p55 : (aheadH u.c x.c) = true := h54
          have hau : aheadH u.c x.c = true := h54
          refine qg ?_
          refine ogd 1 [(0, .slice LA l.length lc), (1, .slice DA l.length dc), (2, i64 left), (3, ptr r), (4, .slice OA o.length oc), (12, i64 ↑ii), (13, .bool false), (14, i64 ↑jj)] ?_
          refine qg ?_
          refine oid 3 (fun z => [(0, .slice LA l.length lc), (1, .slice DA l.length dc), (2, i64 left), (3, ptr r), (4, .slice OA o.length oc), (12, i64 ↑ii), (13, .bool false), (14, i64 z)]) jj ?_
          exact ⟨(jj + 1, false), ⟨rfl, (by rw [ask_step, show askV (l.map HC.c) ds ii x.c jj = true from by rw [ask_at hum, hgdj, (bnot_true h36), decide_eq_true (show jj ≠ ii by omega), hcu, hau]; rfl, Bool.or_true]; rfl), (by omega), K26, H27⟩, (show l.length - (jj + 1) < l.length - jj from by omega)⟩
         ·rw [h54]
          have p57 : (aheadH u.c x.c) = false := h54
          have hau : aheadH u.c x.c = false := h54
          refine qkQ ?_
          refine qg ?_
          refine oid 3 (fun z => [(0, .slice LA l.length lc), (1, .slice DA l.length dc), (2, i64 left), (3, ptr r), (4, .slice OA o.length oc), (12, i64 ↑ii), (13, .bool ready), (14, i64 z)]) jj ?_
          exact ⟨(jj + 1, ready), ⟨rfl, (by rw [ask_step, show askV (l.map HC.c) ds ii x.c jj = false from by rw [ask_at hum, hau, Bool.and_false], Bool.or_false]; exact hrd), (by omega), K26, H27⟩, (show l.length - (jj + 1) < l.length - jj from by omega)⟩
        ·rw [h46]
         have p59 : (countsH u.c) = false := h46
         have hcu : countsH u.c = false := h46
         refine skQ 0 [18, 19, 20, 21, 22, 23, 24, 25, 26, 27] [(0, .slice LA l.length lc), (1, .slice DA l.length dc), (2, i64 left), (3, ptr r), (4, .slice OA o.length oc), (12, i64 ↑ii), (13, .bool ready), (14, i64 ↑jj), (77, .bool false)] ?_
         refine DrS.done (by kernel_rfl) ?_
         replace K26 := K26.tn Kb45
         replace H27 := H27.kn Kb45
         refine q_else (o := .tmp 77) (by kernel_rfl) rfl ?_
         refine qkQ ?_
         refine qg ?_
         refine oid 3 (fun z => [(0, .slice LA l.length lc), (1, .slice DA l.length dc), (2, i64 left), (3, ptr r), (4, .slice OA o.length oc), (12, i64 ↑ii), (13, .bool ready), (14, i64 z)]) jj ?_
         exact ⟨(jj + 1, ready), ⟨rfl, (by rw [ask_step, show askV (l.map HC.c) ds ii x.c jj = false from by rw [ask_at hum, hcu, Bool.and_false]; rfl, Bool.or_false]; exact hrd), (by omega), K26, H27⟩, (show l.length - (jj + 1) < l.length - jj from by omega)⟩
       ·rw [h38]
        have p61 := of_bne_f h38
        refine skQ 0 [11, 12, 13, 14, 15, 16, 17, 18, 19, 20, 21, 22, 23, 24, 25, 26, 27] [(0, .slice LA l.length lc), (1, .slice DA l.length dc), (2, i64 left), (3, ptr r), (4, .slice OA o.length oc), (12, i64 ↑ii), (13, .bool ready), (14, i64 ↑jj), (77, .bool false)] ?_
        refine DrS.done (by kernel_rfl) ?_
        replace K26 := K26.tn Kb32
        replace H27 := H27.kn Kb32
        refine q_else (o := .tmp 77) (by kernel_rfl) rfl ?_
        refine qkQ ?_
        refine qg ?_
        refine oid 3 (fun z => [(0, .slice LA l.length lc), (1, .slice DA l.length dc), (2, i64 left), (3, ptr r), (4, .slice OA o.length oc), (12, i64 ↑ii), (13, .bool ready), (14, i64 z)]) jj ?_
        exact ⟨(jj + 1, ready), ⟨rfl, (by rw [ask_step, show askV (l.map HC.c) ds ii x.c jj = false from by rw [ask_at hum, decide_eq_false (show ¬ jj ≠ ii by omega), Bool.and_false]; rfl, Bool.or_false]; exact hrd), (by omega), K26, H27⟩, (show l.length - (jj + 1) < l.length - jj from by omega)⟩
      ·rw [h36]
       have p63 := bnot_false h36
       try rw [p63]
       refine skQ 0 [6, 7, 8, 9, 10, 11, 12, 13, 14, 15, 16, 17, 18, 19, 20, 21, 22, 23, 24, 25, 26, 27] [(0, .slice LA l.length lc), (1, .slice DA l.length dc), (2, i64 left), (3, ptr r), (4, .slice OA o.length oc), (12, i64 ↑ii), (13, .bool ready), (14, i64 ↑jj), (77, .bool false)] ?_
       refine DrS.done (by kernel_rfl) ?_
       replace K26 := K26.tn Kb32
       replace H27 := H27.kn Kb32
       refine q_else (o := .tmp 77) (by kernel_rfl) rfl ?_
       refine qkQ ?_
       refine qg ?_
       refine oid 3 (fun z => [(0, .slice LA l.length lc), (1, .slice DA l.length dc), (2, i64 left), (3, ptr r), (4, .slice OA o.length oc), (12, i64 ↑ii), (13, .bool ready), (14, i64 z)]) jj ?_
       exact ⟨(jj + 1, ready), ⟨rfl, (by rw [ask_step, show askV (l.map HC.c) ds ii x.c jj = false from by rw [ask_at hum, hgdj, (bnot_false h36)]; rfl, Bool.or_false]; exact hrd), (by omega), K26, H27⟩, (show l.length - (jj + 1) < l.length - jj from by omega)⟩
     ·rw [h28]
      have p65 := of_decide_eq_false h28
      refine q_exit (id := 2) (by kernel_rfl) ?_
      refine qs ?_
      refine qsg ?_
      refine ogd 2 [(0, .slice LA l.length lc), (1, .slice DA l.length dc), (2, i64 left), (3, ptr r), (4, .slice OA o.length oc), (12, i64 ↑ii), (13, .bool ready), (14, i64 ↑jj), (79, .bool (!ready))] ?_
      refine qcQ 79 (!ready) rfl (fun h66 => ?_) (fun h66 => ?_)
      ·rw [h66]
       have p67 := bnot_true h66
       try rw [p67]
       have hwt : waitV (l.map HC.c) ds ii x.c = true := by have h := hrd; rw [(bnot_true h66), show jj = (l.map HC.c).length from by rw [List.length_map]; omega] at h; cases hA : waitV (l.map HC.c) ds ii x.c with | true => rfl | false => rw [waitV_eq] at hA; rw [hA] at h; cases h
       refine q_exit (id := 1) (by kernel_rfl) ?_
       refine qg ?_
       refine oid 3 (fun z => [(0, .slice LA l.length lc), (1, .slice DA l.length dc), (2, i64 left), (3, ptr r), (4, .slice OA o.length oc), (12, i64 z)]) ii ?_
       exact ⟨ii + 1, ⟨rfl, (rounds_none hno (nextV_wait hxm h0 h1 hwt)), (by omega), K26, H27⟩, (show l.length - (ii + 1) < l.length - ii from by omega)⟩
      ·rw [h66]
       have p69 := bnot_false h66
       try rw [p69]
       have hwt : waitV (l.map HC.c) ds ii x.c = false := by have h := hrd; rw [(bnot_false h66), show jj = (l.map HC.c).length from by rw [List.length_map]; omega] at h; cases hA : waitV (l.map HC.c) ds ii x.c with | false => rfl | true => rw [waitV_eq] at hA; rw [hA] at h; cases h
       refine qkQ ?_
       refine qsg ?_
       refine og 1 [(0, .slice LA l.length lc), (1, .slice DA l.length dc), (2, i64 left), (3, ptr r), (4, .slice OA o.length oc), (12, i64 ↑ii), (13, .bool true), (14, i64 ↑jj), (80, ptr r)] 1 ?_
       refine ocQ 81 (RCopy_calls _ r A c S B d K H27 (Rd.keep0 (by decide) hR K26) (Rd.keep0 (by decide) hQ K26) (by omega) (by omega)) ?_
       rintro _ w83 ⟨r70, A71, c72, B73, d74, rfl, K75, H76, hO77, hP78, hb79, hn80, hn81, hn82⟩
       have ob86 : ∀ i, Ow (.slice A71 S.length c72) i → i ≠ r := fun i hi => by have := (World.ownsRow.lt hO77 i hi).1; have := H27.lt; omega
       have ob87 : ∀ i, Ow (.slice B73 K.length d74) i → i ≠ r := fun i hi => by have := (World.ownsRow.lt hP78 i hi).1; have := H27.lt; omega
       have lr70r : r < r70 := by have := H27.lt; omega
       have nr70 : w.heap.size ≤ r70 := by have := K26.size; omega
       have O84 := own_base hO77 K26.size
       have P85 := own_base hP78 K26.size
       refine ⟨_, _, rfl, rfl, ?_⟩
       replace K26 := K26.tn K75
       replace H27 := H27.kn K75
       refine odz 1 ?_
       refine qsg ?_
       refine og 3 [(0, .slice LA l.length lc), (1, .slice DA l.length dc), (2, i64 left), (3, ptr r), (4, .slice OA o.length oc), (12, i64 ↑ii), (13, .bool true), (14, i64 ↑jj), (15, ptr r70), (82, ptr r70), (83, .slice LA l.length lc), (84, i64 ↑ii)] 3 ?_
       obtain ⟨rb88, ro89, hA90⟩ := Rd.addr (Rd.keep0 (by decide) hL K26) (by omega)
       refine Ops.go (by kernel_rfl) (Runs.ixSliceE (k := IntKind.i64) (t := 22) (len := l.length) (cap := lc) (s := 13) (off' := ro89 + ii * 13) (i := ((ii : Nat) : Int)) hA90 (by kernel_rfl) (by kernel_rfl) (by omega) (by omega) (by omega)) (d := (some 85)) (by kernel_rfl) rfl ?_
       refine og 1 [(0, .slice LA l.length lc), (1, .slice DA l.length dc), (2, i64 left), (3, ptr r), (4, .slice OA o.length oc), (12, i64 ↑ii), (13, .bool true), (14, i64 ↑jj), (15, ptr r70), (82, ptr r70), (86, .pointer (some ⟨rb88, ro89 + ii * 13, none⟩))] 5 ?_
       refine ogo (agg (Opm.cells x.c.op)) 87 (Runs.load (t := 24) (a := ⟨rb88, ro89 + ii * 13, none⟩) (by kernel_rfl) (RdT.ldp (f := HC.cells) (x := x) (vs := (Opm.cells x.c.op)) HC.two (Rd.keep0 (by decide) hL K26) (by kernel_rfl) (by kernel_rfl) hA90 hx rfl)) rfl ?_
       refine ocQ 88 (RDo_calls _ w.heap.size r70 A71 c72 S B73 d74 K x.c.op H76 O84 P85 hn80 hn81 hn82 hLg.led (K26.size) hLg (by omega) (by first | omega | decide) (by first | omega | decide)) ?_
       rintro _ w107 ⟨A91, c92, B93, d94, A95, c96, rfl, K97, H98, hO99, hP100, hO101, hg102, hg103, oo104, oo105, oo106⟩
       have ob108 : ∀ i, Ow (.slice A91 ((doS S K x.c.op).length) c92) i → i ≠ r := fun i hi => by rcases hg102 i hi with h | h; (have := ob86 i h; omega); (have := H27.lt; omega)
       have ob109 : ∀ i, Ow (.slice A91 ((doS S K x.c.op).length) c92) i → i ≠ r70 := fun i hi => by rcases hg102 i hi with h | h; (have := hn80 i h; omega); (have := H76.lt; omega)
       have ob112 : ∀ i, Ow (.slice B93 ((doK S K x.c.op).length) d94) i → i ≠ r := fun i hi => by rcases hg103 i hi with h | h; (have := ob87 i h; omega); (have := H27.lt; omega)
       have ob113 : ∀ i, Ow (.slice B93 ((doK S K x.c.op).length) d94) i → i ≠ r70 := fun i hi => by rcases hg103 i hi with h | h; (have := hn81 i h; omega); (have := H76.lt; omega)
       have O122 := own_base hO101 K26.size
       refine ⟨_, _, rfl, rfl, ?_⟩
       replace K26 := K26.trans K97 (U := none_) (fun i h1 h2 => h2) (fun i h1 h2 => by have h2 : i = r70 ∨ Ow (.slice A71 S.length c72) i ∨ Ow (.slice B73 K.length d74) i := h2; rcases h2 with h2 | h2 | h2; (exfalso; omega); (exfalso; have := (World.ownsRow.lt O84 i h2).1; omega); (exfalso; have := (World.ownsRow.lt P85 i h2).1; omega))
       replace H27 := H27.keep K97 (by intro h; change r = r70 ∨ Ow (.slice A71 S.length c72) r ∨ Ow (.slice B73 K.length d74) r at h; rcases h with h | h | h; (omega); (have := ob86 r h; omega); (have := ob87 r h; omega))
       clear P85
       refine onew (rowL [(i64 0), (i64 0), (Value.slice none 0 0)] 28) (fun b => (ptr b)) 16 (fun b => rfl) (fun b123 w124 hb125 H126 K127 hs128 => ?_)
       have lb123r : r < b123 := by have := H27.lt; omega
       have lb123r70 : r70 < b123 := by have := H98.lt; omega
       have nb123 : w.heap.size ≤ b123 := by have := K26.size; omega
       have ob129 : ∀ i, Ow (.slice A91 ((doS S K x.c.op).length) c92) i → i < b123 := fun i hi => by have := (World.ownsRow.lt hO99 i hi).2; omega
       have ob130 : ∀ i, Ow (.slice B93 ((doK S K x.c.op).length) d94) i → i < b123 := fun i hi => by have := (World.ownsRow.lt hP100 i hi).2; omega
       have ob131 : ∀ i, Ow (.slice A95 ((doR S K x.c.op).rows.length) c96) i → i < b123 := fun i hi => by have := (World.ownsRow.lt O122 i hi).2; omega
       replace K26 := K26.tn K127
       replace H27 := H27.kn K127
       replace H98 := H98.kn K127
       replace hO99 := own_keep0 hO99 K127
       replace hP100 := own_keep0 hP100 K127
       replace O122 := own_keep0 O122 K127
       clear K127 hs128
       refine oput 28 b123 [(i64 ((doR S K x.c.op).why)), (i64 ((doR S K x.c.op).amount)), (Value.slice A95 ((doR S K x.c.op).rows.length) c96)] H126 rfl (fun w132 H133 K134 => ?_)
       replace K26 := K26.t1 K134 fun _ => by omega
       replace H27 := H27.k1 K134 (by omega)
       replace H98 := H98.k1 K134 (by omega)
       replace hO99 := own_keep hO99 K134 (fun i hi => by have := ob129 i hi; omega)
       replace hP100 := own_keep hP100 K134 (fun i hi => by have := ob130 i hi; omega)
       replace O122 := own_keep O122 K134 (fun i hi => by have := ob131 i hi; omega)
       refine od ?_
       refine qs ?_
       refine qs ?_
       refine q_mono (Q := fun e2 L2 wm => e2 = .normal ∧ ∃ t135 : Bool, L2 = [(0, (Value.slice LA l.length lc)), (1, (Value.slice DA l.length dc)), (2, (i64 left)), (3, (ptr r)), (4, (Value.slice OA o.length oc)), (12, (i64 ((ii : Nat) : Int))), (13, (Value.bool true)), (14, (i64 ((jj : Nat) : Int))), (15, (ptr r70)), (103, (Value.bool t135))] ∧ Keeps none_ w132 wm ∧ (t135 = false → stepH x.c (S, K) = some (doS S K x.c.op, doK S K x.c.op)) ∧ (t135 = true → stepH x.c (S, K) = none)) ?_ ?_
       ·skip
        have hmid140 : Keeps none_ w132 w132 := Keeps.refl _
        refine q_drawS 15 (by kernel_rfl) (by kernel_rfl) (by kernel_rfl) (fun w141 K142 _ _ => ?_)
        replace K26 := K26.tn K142
        replace H27 := H27.kn K142
        replace H98 := H98.kn K142
        replace H133 := H133.kn K142
        replace O122 := own_keep0 O122 K142
        replace hmid140 := hmid140.trans K142 (fun _ _ h => h) (fun _ _ h => h)
        have Kb143 : Keeps none_ w141 w141 := Keeps.refl w141
        have zr := H27.lt
        have zr70 := H98.lt
        have zb123 := H133.lt
        refine ⟨fun wz => Keeps none_ w141 wz, [], (SH.nil Kb143), ?_⟩
        refine skQ 13 [0, 1] [(0, .slice LA l.length lc), (1, .slice DA l.length dc), (2, i64 left), (3, ptr r), (4, .slice OA o.length oc), (12, i64 ↑ii), (13, .bool true), (14, i64 ↑jj), (15, ptr r70), (16, ptr b123), (89, .slice LA l.length lc), (90, i64 ↑ii)] ?_
        refine stQ 2 (Value.pointer (some ⟨rb88, ro89 + ii * 13, none⟩)) 91 (fun wz hS => Runs.ixSliceE (k := IntKind.i64) (t := 22) (len := l.length) (cap := lc) (s := 13) (off' := ro89 + ii * 13) (i := ((ii : Nat) : Int)) hA90 (by kernel_rfl) (by kernel_rfl) (by omega) (by omega) (by omega)) rfl ?_
        refine skQ 11 [3] [(0, .slice LA l.length lc), (1, .slice DA l.length dc), (2, i64 left), (3, ptr r), (4, .slice OA o.length oc), (12, i64 ↑ii), (13, .bool true), (14, i64 ↑jj), (15, ptr r70), (16, ptr b123), (92, .pointer (some ⟨rb88, ro89 + ii * 13 + 9, none⟩))] ?_
        refine stQ 4 (Value.bool x.c.told) 93 (fun wz hS => Runs.load (t := 4) (a := ⟨rb88, ro89 + ii * 13 + 9, none⟩) (by kernel_rfl) (RdT.ldf (f := HC.cells) (x := x) (o := 9) HC.two (Rd.keep0 (by decide) hL (K26.trans hS (fun _ _ h => h) (fun _ _ h => h))) (by kernel_rfl) hA90 hx rfl)) rfl ?_
        refine skQ 9 [5] [(0, .slice LA l.length lc), (1, .slice DA l.length dc), (2, i64 left), (3, ptr r), (4, .slice OA o.length oc), (12, i64 ↑ii), (13, .bool true), (14, i64 ↑jj), (15, ptr r70), (16, ptr b123), (94, .bool x.c.told)] ?_
        refine DrS.split x.c.told (fun h144 => ?_) (fun h144 => ?_)
        ·rw [h144]
         have p145 : x.c.told = true := h144
         refine stQ 6 (agg [(i64 ((doR S K x.c.op).why)), (i64 ((doR S K x.c.op).amount)), (Value.slice A95 ((doR S K x.c.op).rows.length) c96)]) 95 (fun wz hS => rld 28 b123 0 (H133.keep hS (fun h => h))) rfl ?_
         refine skQ 6 [7, 8] [(0, .slice LA l.length lc), (1, .slice DA l.length dc), (2, i64 left), (3, ptr r), (4, .slice OA o.length oc), (12, i64 ↑ii), (13, .bool true), (14, i64 ↑jj), (15, ptr r70), (94, .bool true), (95, (agg [(i64 ((doR S K x.c.op).why)), (i64 ((doR S K x.c.op).amount)), (Value.slice A95 ((doR S K x.c.op).rows.length) c96)])), (96, .slice LA l.length lc), (97, i64 ↑ii)] ?_
         refine stQ 9 (Value.pointer (some ⟨rb88, ro89 + ii * 13, none⟩)) 98 (fun wz hS => Runs.ixSliceE (k := IntKind.i64) (t := 22) (len := l.length) (cap := lc) (s := 13) (off' := ro89 + ii * 13) (i := ((ii : Nat) : Int)) hA90 (by kernel_rfl) (by kernel_rfl) (by omega) (by omega) (by omega)) rfl ?_
         refine skQ 4 [10] [(0, .slice LA l.length lc), (1, .slice DA l.length dc), (2, i64 left), (3, ptr r), (4, .slice OA o.length oc), (12, i64 ↑ii), (13, .bool true), (14, i64 ↑jj), (15, ptr r70), (94, .bool true), (95, (agg [(i64 ((doR S K x.c.op).why)), (i64 ((doR S K x.c.op).amount)), (Value.slice A95 ((doR S K x.c.op).rows.length) c96)])), (99, .pointer (some ⟨rb88, ro89 + ii * 13 + 10, none⟩))] ?_
         refine stQ 11 (agg [(i64 x.c.rep.why), (i64 x.c.rep.amount), (Value.slice x.A x.c.rep.rows.length x.k)]) 100 (fun wz hS => Runs.load (t := 28) (a := ⟨rb88, ro89 + ii * 13 + 10, none⟩) (by kernel_rfl) (RdT.ldq (f := HC.cells) (x := x) (pre := [(i64 x.c.op.kind), (Value.string (str x.c.op.frm)), (Value.string (str x.c.op.to)), (i64 x.c.op.amount), (Value.string (str x.c.op.key)), (i64 x.c.op.slot), (i64 x.c.op.shard), (i64 x.c.bg), (i64 x.c.en), (Value.bool x.c.told)]) (vs := [(i64 x.c.rep.why), (i64 x.c.rep.amount), (Value.slice x.A x.c.rep.rows.length x.k)]) HC.two (Rd.keep0 (by decide) hL (K26.trans hS (fun _ _ h => h) (fun _ _ h => h))) (by kernel_rfl) (by kernel_rfl) hA90 hx rfl rfl)) rfl ?_
         refine soQ 12 ?_
         refine Dr1.call (by kernel_rfl) (d := (some 101)) (by kernel_rfl) (SameReply_calls _ A95 c96 (doR S K x.c.op) x.A x.k x.c.rep (OwnT.rd O122) (Rd.keep0 (by omega) hxr K26)) ?_
         rintro _ w149 ⟨t146, rfl, ht147, K148⟩
         have Kb150 := Kb143.tn K148
         refine ⟨_, _, rfl, rfl, (SH.nil Kb150), ?_⟩
         refine skQ 0 [13, 14] [(0, .slice LA l.length lc), (1, .slice DA l.length dc), (2, i64 left), (3, ptr r), (4, .slice OA o.length oc), (12, i64 ↑ii), (13, .bool true), (14, i64 ↑jj), (15, ptr r70), (103, .bool (!t146))] ?_
         refine DrS.done (by kernel_rfl) ?_
         replace hmid140 := hmid140.trans Kb150 (fun _ _ h => h) (fun _ _ h => h)
         exact ⟨rfl, _, rfl, hmid140, fun q => stepH_yes (ht147.1 (by cases t146 with | true => rfl | false => cases q)), fun q => stepH_no h144 (fun q1 => by rw [ht147.2 q1] at q; cases q)⟩
        ·rw [h144]
         have p151 : x.c.told = false := h144
         refine skQ 0 [6, 7, 8, 9, 10, 11, 12, 13, 14] [(0, .slice LA l.length lc), (1, .slice DA l.length dc), (2, i64 left), (3, ptr r), (4, .slice OA o.length oc), (12, i64 ↑ii), (13, .bool true), (14, i64 ↑jj), (15, ptr r70), (103, .bool false)] ?_
         refine DrS.done (by kernel_rfl) ?_
         replace hmid140 := hmid140.trans Kb143 (fun _ _ h => h) (fun _ _ h => h)
         exact ⟨rfl, _, rfl, hmid140, fun _ => stepH_not h144, fun q => by cases q⟩
       ·skip
        rintro _ _ w137 ⟨rfl, t135, rfl, K136, ha138, hb139⟩
        replace K26 := K26.tn K136
        replace H27 := H27.kn K136
        replace H98 := H98.kn K136
        replace H133 := H133.kn K136
        replace hO99 := own_keep0 hO99 K136
        replace hP100 := own_keep0 hP100 K136
        refine qcQ 103 t135 rfl (fun h152 => ?_) (fun h152 => ?_)
        ·rw [h152]
         have p153 : t135 = true := h152
         refine q_exit (id := 1) (by kernel_rfl) ?_
         refine qg ?_
         refine oid 3 (fun z => [(0, .slice LA l.length lc), (1, .slice DA l.length dc), (2, i64 left), (3, ptr r), (4, .slice OA o.length oc), (12, i64 z)]) ii ?_
         exact ⟨ii + 1, ⟨rfl, (rounds_none hno (nextV_bad hxm h0 h1 hwt (hb139 h152))), (by omega), K26, H27⟩, (show l.length - (ii + 1) < l.length - ii from by omega)⟩
        ·rw [h152]
         have p155 : t135 = false := h152
         have hst := ha138 h152
         refine qkQ ?_
         refine qsg ?_
         refine og 2 [(0, .slice LA l.length lc), (1, .slice DA l.length dc), (2, i64 left), (3, ptr r), (4, .slice OA o.length oc), (12, i64 ↑ii), (13, .bool true), (14, i64 ↑jj), (15, ptr r70), (105, i64 ↑l.length)] 2 ?_
         obtain ⟨w156, hr157, H158, K159⟩ := run_makeH (P := Tryd.prog) (t := 92) (e := 4) w137 (by kernel_rfl) (by kernel_rfl) (n := l.length) (by omega)
         obtain ⟨mb160, hmb160⟩ : ∃ b, b = w137.heap.size := ⟨_, rfl⟩
         rw [← hmb160] at hr157 H158
         refine ogo (Value.slice (some ⟨mb160, 0, none⟩) l.length l.length) 106 (Runs.make (by kernel_rfl) hr157) rfl ?_
         have lmb160r : r < mb160 := by have := H27.lt; omega
         have lmb160r70 : r70 < mb160 := by have := H98.lt; omega
         have lmb160b123 : b123 < mb160 := by have := H133.lt; omega
         have nmb160 : w.heap.size ≤ mb160 := by have := K26.size; omega
         have ob161 : ∀ i, Ow (.slice A91 ((doS S K x.c.op).length) c92) i → i < mb160 := fun i hi => by have := (World.ownsRow.lt hO99 i hi).2; omega
         have ob162 : ∀ i, Ow (.slice B93 ((doK S K x.c.op).length) d94) i → i < mb160 := fun i hi => by have := (World.ownsRow.lt hP100 i hi).2; omega
         replace K26 := K26.tn K159
         replace H27 := H27.kn K159
         replace H98 := H98.kn K159
         replace hO99 := own_keep0 hO99 K159
         replace hP100 := own_keep0 hP100 K159
         refine odz 1 ?_
         refine qs ?_
         refine qsg ?_
         refine ogd 1 [(0, .slice LA l.length lc), (1, .slice DA l.length dc), (2, i64 left), (3, ptr r), (4, .slice OA o.length oc), (12, i64 ↑ii), (13, .bool true), (14, i64 ↑jj), (15, ptr r70), (17, .slice (some ⟨mb160, 0, none⟩) l.length l.length), (18, i64 0)] ?_
         refine q_block (id := 4) (by kernel_rfl) ?_
         have H164 : Has w156 mb160 (rowL (bools (fillR l.length ds ii 0)) 4) := by rw [fillR_zero]; exact H158
         have ob165 : ∀ i, Ow (.slice A91 ((doS S K x.c.op).length) c92) i → i ≠ mb160 := fun i hi => by have := ob161 i hi; omega
         have ob166 : ∀ i, Ow (.slice B93 ((doK S K x.c.op).length) d94) i → i ≠ mb160 := fun i hi => by have := ob162 i hi; omega
         refine q_keep (R := [(0, .slice LA l.length lc), (1, .slice DA l.length dc), (2, i64 left), (3, ptr r), (4, .slice OA o.length oc), (12, i64 ↑ii), (13, .bool true), (14, i64 ↑jj), (15, ptr r70), (17, .slice (some ⟨mb160, 0, none⟩) l.length l.length), (18, i64 0)]) (by kernel_rfl) ?_
         refine q_loop (fun (kk : Nat) L (wx : World) => L = [(0, (Value.slice LA l.length lc)), (1, (Value.slice DA l.length dc)), (2, (i64 left)), (3, (ptr r)), (4, (Value.slice OA o.length oc)), (12, (i64 ((ii : Nat) : Int))), (13, (Value.bool true)), (14, (i64 ((jj : Nat) : Int))), (15, (ptr r70)), (17, (Value.slice (some ⟨mb160, 0, none⟩) l.length l.length)), (18, (i64 ((kk : Nat) : Int)))] ∧ OwnT wx w.heap.size 98 2 RowM.cells (Value.slice A91 ((doS S K x.c.op).length) c92) (doS S K x.c.op) ∧ (∀ i, Ow (.slice A91 ((doS S K x.c.op).length) c92) i → i ≠ r) ∧ (∀ i, Ow (.slice A91 ((doS S K x.c.op).length) c92) i → i ≠ r70) ∧ (∀ i, Ow (.slice A91 ((doS S K x.c.op).length) c92) i → i ≠ mb160) ∧ (∀ i, Ow (.slice B93 ((doK S K x.c.op).length) d94) i → Ow (.slice A91 ((doS S K x.c.op).length) c92) i → False) ∧ OwnT wx w.heap.size 101 10 kref (Value.slice B93 ((doK S K x.c.op).length) d94) (doK S K x.c.op) ∧ (∀ i, Ow (.slice B93 ((doK S K x.c.op).length) d94) i → i ≠ r) ∧ (∀ i, Ow (.slice B93 ((doK S K x.c.op).length) d94) i → i ≠ r70) ∧ (∀ i, Ow (.slice B93 ((doK S K x.c.op).length) d94) i → i ≠ mb160) ∧ (∀ i, Ow (.slice A91 ((doS S K x.c.op).length) c92) i → Ow (.slice B93 ((doK S K x.c.op).length) d94) i → False) ∧ kk ≤ l.length ∧ Keeps none_ w wx ∧ Has wx r (rowL [(Value.slice A S.length c), (Value.slice B K.length d)] 55) ∧ Has wx r70 (rowL [(Value.slice A91 ((doS S K x.c.op).length) c92), (Value.slice B93 ((doK S K x.c.op).length) d94)] 55) ∧ Has wx mb160 (rowL (bools (fillR l.length ds ii kk)) 4)) (fun (kk : Nat) => l.length - kk) 0 (by kernel_rfl) ⟨rfl, hO99, ob108, ob109, ob165, (fun i h h2 => oo104 i h2 h), hP100, ob112, ob113, ob166, oo104, Nat.zero_le _, K26, H27, H98, H164⟩ ?_
         clear H27 H98 H164 hO99 hP100 O122 K26
         rintro kk _ w167 ⟨rfl, hON, obNr, obNr70, obNmb160, ooNM, hOM, obMr, obMr70, obMmb160, ooMN, hj, K168, H169, H170, H171⟩
         refine qs ?_
         refine qsg ?_
         refine ogd 4 [(0, .slice LA l.length lc), (1, .slice DA l.length dc), (2, i64 left), (3, ptr r), (4, .slice OA o.length oc), (12, i64 ↑ii), (13, .bool true), (14, i64 ↑jj), (15, ptr r70), (17, .slice (some ⟨mb160, 0, none⟩) l.length l.length), (18, i64 ↑kk), (110, (Value.bool (decide (((kk : Nat) : Int) < ((l.length : Nat) : Int)))))] ?_
         refine qcQ 110 (decide (((kk : Nat) : Int) < ((l.length : Nat) : Int))) rfl (fun h172 => ?_) (fun h172 => ?_)
         ·rw [h172]
          have p173 := of_decide_eq_true h172
          refine qkQ ?_
          refine qs ?_
          refine q_block (id := 5) (by kernel_rfl) ?_
          refine qg ?_
          refine og 4 [(0, .slice LA l.length lc), (1, .slice DA l.length dc), (2, i64 left), (3, ptr r), (4, .slice OA o.length oc), (12, i64 ↑ii), (13, .bool true), (14, i64 ↑jj), (15, ptr r70), (17, .slice (some ⟨mb160, 0, none⟩) l.length l.length), (18, i64 ↑kk), (113, .slice (some ⟨mb160, 0, none⟩) l.length l.length), (114, i64 ↑kk), (115, .slice DA l.length dc), (116, i64 ↑kk)] 4 ?_
          obtain ⟨dk, hdk⟩ : ∃ z, ds[kk]? = some z := ⟨_, List.getElem?_eq_getElem (by omega)⟩
          have hgdk := getD_at hdk
          obtain ⟨rb174, ro175, hA176⟩ := Rd.addr (Rd.keep0 (by decide) hD K168) (by omega)
          refine Ops.go (by kernel_rfl) (Runs.ixSliceE (k := IntKind.i64) (t := 92) (len := l.length) (cap := dc) (s := 1) (off' := ro175 + kk) (i := ((kk : Nat) : Int)) hA176 (by kernel_rfl) (by kernel_rfl) (by omega) (by omega) (by omega)) (d := (some 117)) (by kernel_rfl) rfl ?_
          refine ogo (Value.bool dk) 118 (Runs.load (t := 4) (a := ⟨rb174, ro175 + kk, none⟩) (by kernel_rfl) (RdT.ldu (f := bB) (x := dk) bB_one (Rd.keep0 (by decide) hD K168) (by kernel_rfl) hA176 hdk rfl)) rfl ?_
          refine og 1 [(0, .slice LA l.length lc), (1, .slice DA l.length dc), (2, i64 left), (3, ptr r), (4, .slice OA o.length oc), (12, i64 ↑ii), (13, .bool true), (14, i64 ↑jj), (15, ptr r70), (17, .slice (some ⟨mb160, 0, none⟩) l.length l.length), (18, i64 ↑kk), (113, .slice (some ⟨mb160, 0, none⟩) l.length l.length), (114, i64 ↑kk), (119, .bool dk)] 7 ?_
          refine Ops.split dk (fun h177 => ?_) (fun h177 => ?_)
          ·rw [h177]
           have p178 : dk = true := h177
           refine og 4 [(0, .slice LA l.length lc), (1, .slice DA l.length dc), (2, i64 left), (3, ptr r), (4, .slice OA o.length oc), (12, i64 ↑ii), (13, .bool true), (14, i64 ↑jj), (15, ptr r70), (17, .slice (some ⟨mb160, 0, none⟩) l.length l.length), (18, i64 ↑kk), (113, .slice (some ⟨mb160, 0, none⟩) l.length l.length), (114, i64 ↑kk), (123, .bool true)] 11 ?_
           refine Ops.go (by kernel_rfl) (Runs.ixSlice (k := IntKind.i64) (t := 92) (b := mb160) (off := 0) (len := l.length) (cap := l.length) (s := 1) (off' := kk) (i := ((kk : Nat) : Int)) (by kernel_rfl) (by kernel_rfl) (by omega) (by omega) (by omega)) (d := (some 124)) (by kernel_rfl) rfl ?_
           refine Ops.put (t := 4) (b := mb160) (off := kk) (v := (Value.bool true)) (ys := (bools ((fillR l.length ds ii kk).set kk true))) (by kernel_rfl) (by kernel_rfl) H171 (storeC1 (by kernel_rfl) rfl (by rw [bools_len, (fillR_len _ _ _ _)]; omega) (bools_set _ _ _)) (d := none) (by kernel_rfl) rfl (fun w179 H180 K181 => ?_)
           replace K168 := K168.t1 K181 fun _ => by omega
           replace H169 := H169.k1 K181 (by omega)
           replace H170 := H170.k1 K181 (by omega)
           replace hON := own_keep hON K181 (fun i hi => by have := obNmb160 i hi; omega)
           replace hOM := own_keep hOM K181 (fun i hi => by have := obMmb160 i hi; omega)
           refine od ?_
           refine qg ?_
           refine og 2 [(0, .slice LA l.length lc), (1, .slice DA l.length dc), (2, i64 left), (3, ptr r), (4, .slice OA o.length oc), (12, i64 ↑ii), (13, .bool true), (14, i64 ↑jj), (15, ptr r70), (17, .slice (some ⟨mb160, 0, none⟩) l.length l.length), (18, i64 ↑kk), (112, (i64 (IntKind.i64.wrap (((kk : Nat) : Int) + 1))))] 2 ?_
           rw [show IntKind.i64.wrap (((kk : Nat) : Int) + 1) = ((kk + 1 : Nat) : Int) from by rw [wrap_i64 (by omega) (by omega)]; omega]
           refine og 1 [(0, .slice LA l.length lc), (1, .slice DA l.length dc), (2, i64 left), (3, ptr r), (4, .slice OA o.length oc), (12, i64 ↑ii), (13, .bool true), (14, i64 ↑jj), (15, ptr r70), (17, .slice (some ⟨mb160, 0, none⟩) l.length l.length), (18, i64 ↑(kk + 1))] 3 ?_
           have H183 : Has w179 mb160 (rowL (bools (fillR l.length ds ii (kk + 1))) 4) := by rw [← fillR_set (b := true) (by omega) (by rw [hgdk, h177]; rfl)]; exact H180
           refine ok_ [(0, .slice LA l.length lc), (1, .slice DA l.length dc), (2, i64 left), (3, ptr r), (4, .slice OA o.length oc), (12, i64 ↑ii), (13, .bool true), (14, i64 ↑jj), (15, ptr r70), (17, .slice (some ⟨mb160, 0, none⟩) l.length l.length), (18, i64 ↑(kk + 1))] ?_
           refine od ?_
           exact ⟨kk + 1, ⟨rfl, hON, obNr, obNr70, obNmb160, ooNM, hOM, obMr, obMr70, obMmb160, ooMN, (by omega), K168, H169, H170, H183⟩, (show l.length - (kk + 1) < l.length - kk from by omega)⟩
          ·rw [h177]
           have p184 : dk = false := h177
           refine og 4 [(0, .slice LA l.length lc), (1, .slice DA l.length dc), (2, i64 left), (3, ptr r), (4, .slice OA o.length oc), (12, i64 ↑ii), (13, .bool true), (14, i64 ↑jj), (15, ptr r70), (17, .slice (some ⟨mb160, 0, none⟩) l.length l.length), (18, i64 ↑kk), (113, .slice (some ⟨mb160, 0, none⟩) l.length l.length), (114, i64 ↑kk), (123, (Value.bool (((kk : Nat) : Int) == ((ii : Nat) : Int))))] 11 ?_
           refine Ops.go (by kernel_rfl) (Runs.ixSlice (k := IntKind.i64) (t := 92) (b := mb160) (off := 0) (len := l.length) (cap := l.length) (s := 1) (off' := kk) (i := ((kk : Nat) : Int)) (by kernel_rfl) (by kernel_rfl) (by omega) (by omega) (by omega)) (d := (some 124)) (by kernel_rfl) rfl ?_
           refine Ops.put (t := 4) (b := mb160) (off := kk) (v := (Value.bool (((kk : Nat) : Int) == ((ii : Nat) : Int)))) (ys := (bools ((fillR l.length ds ii kk).set kk (((kk : Nat) : Int) == ((ii : Nat) : Int))))) (by kernel_rfl) (by kernel_rfl) H171 (storeC1 (by kernel_rfl) rfl (by rw [bools_len, (fillR_len _ _ _ _)]; omega) (bools_set _ _ _)) (d := none) (by kernel_rfl) rfl (fun w185 H186 K187 => ?_)
           replace K168 := K168.t1 K187 fun _ => by omega
           replace H169 := H169.k1 K187 (by omega)
           replace H170 := H170.k1 K187 (by omega)
           replace hON := own_keep hON K187 (fun i hi => by have := obNmb160 i hi; omega)
           replace hOM := own_keep hOM K187 (fun i hi => by have := obMmb160 i hi; omega)
           refine od ?_
           refine qg ?_
           refine og 2 [(0, .slice LA l.length lc), (1, .slice DA l.length dc), (2, i64 left), (3, ptr r), (4, .slice OA o.length oc), (12, i64 ↑ii), (13, .bool true), (14, i64 ↑jj), (15, ptr r70), (17, .slice (some ⟨mb160, 0, none⟩) l.length l.length), (18, i64 ↑kk), (112, (i64 (IntKind.i64.wrap (((kk : Nat) : Int) + 1))))] 2 ?_
           rw [show IntKind.i64.wrap (((kk : Nat) : Int) + 1) = ((kk + 1 : Nat) : Int) from by rw [wrap_i64 (by omega) (by omega)]; omega]
           refine og 1 [(0, .slice LA l.length lc), (1, .slice DA l.length dc), (2, i64 left), (3, ptr r), (4, .slice OA o.length oc), (12, i64 ↑ii), (13, .bool true), (14, i64 ↑jj), (15, ptr r70), (17, .slice (some ⟨mb160, 0, none⟩) l.length l.length), (18, i64 ↑(kk + 1))] 3 ?_
           have H189 : Has w185 mb160 (rowL (bools (fillR l.length ds ii (kk + 1))) 4) := by rw [← fillR_set (b := (((kk : Nat) : Int) == ((ii : Nat) : Int))) (by omega) (by rw [hgdk, h177, Bool.false_or, Bool.eq_iff_iff, decide_eq_true_eq, beq_iff_eq]; omega)]; exact H186
           refine ok_ [(0, .slice LA l.length lc), (1, .slice DA l.length dc), (2, i64 left), (3, ptr r), (4, .slice OA o.length oc), (12, i64 ↑ii), (13, .bool true), (14, i64 ↑jj), (15, ptr r70), (17, .slice (some ⟨mb160, 0, none⟩) l.length l.length), (18, i64 ↑(kk + 1))] ?_
           refine od ?_
           exact ⟨kk + 1, ⟨rfl, hON, obNr, obNr70, obNmb160, ooNM, hOM, obMr, obMr70, obMmb160, ooMN, (by omega), K168, H169, H170, H189⟩, (show l.length - (kk + 1) < l.length - kk from by omega)⟩
         ·rw [h172]
          have p190 := of_decide_eq_false h172
          refine q_exit (id := 4) (by kernel_rfl) ?_
          refine qs ?_
          have H191 : Has w167 mb160 (rowL (bools (updR l.length ds ii)) 4) := by rw [← fillR_all]; have h := H171; rw [show kk = l.length from by omega] at h; exact h
          refine qg ?_
          refine odz 2 ?_
          refine qs ?_
          refine qsg ?_
          refine og 2 [(0, .slice LA l.length lc), (1, .slice DA l.length dc), (2, i64 left), (3, ptr r), (4, .slice OA o.length oc), (12, i64 ↑ii), (13, .bool true), (14, i64 ↑jj), (15, ptr r70), (17, .slice (some ⟨mb160, 0, none⟩) l.length l.length), (18, i64 ↑kk), (19, i64 left), (126, .slice LA l.length lc), (127, i64 ↑ii)] 2 ?_
          obtain ⟨rb192, ro193, hA194⟩ := Rd.addr (Rd.keep0 (by decide) hL K168) (by omega)
          refine Ops.go (by kernel_rfl) (Runs.ixSliceE (k := IntKind.i64) (t := 22) (len := l.length) (cap := lc) (s := 13) (off' := ro193 + ii * 13) (i := ((ii : Nat) : Int)) hA194 (by kernel_rfl) (by kernel_rfl) (by omega) (by omega) (by omega)) (d := (some 128)) (by kernel_rfl) rfl ?_
          refine og 1 [(0, .slice LA l.length lc), (1, .slice DA l.length dc), (2, i64 left), (3, ptr r), (4, .slice OA o.length oc), (12, i64 ↑ii), (13, .bool true), (14, i64 ↑jj), (15, ptr r70), (17, .slice (some ⟨mb160, 0, none⟩) l.length l.length), (18, i64 ↑kk), (19, i64 left), (129, .pointer (some ⟨rb192, ro193 + ii * 13 + 9, none⟩))] 4 ?_
          refine ogo (Value.bool x.c.told) 130 (Runs.load (t := 4) (a := ⟨rb192, ro193 + ii * 13 + 9, none⟩) (by kernel_rfl) (RdT.ldf (f := HC.cells) (x := x) (o := 9) HC.two (Rd.keep0 (by decide) hL K168) (by kernel_rfl) hA194 hx rfl)) rfl ?_
          refine od ?_
          refine q_mono (Q := fun e2 L2 wm => e2 = .normal ∧ wm = w167 ∧ ∃ n9 : Int, L2 = [(0, (Value.slice LA l.length lc)), (1, (Value.slice DA l.length dc)), (2, (i64 left)), (3, (ptr r)), (4, (Value.slice OA o.length oc)), (12, (i64 ((ii : Nat) : Int))), (13, (Value.bool true)), (14, (i64 ((jj : Nat) : Int))), (15, (ptr r70)), (17, (Value.slice (some ⟨mb160, 0, none⟩) l.length l.length)), (18, (i64 ((kk : Nat) : Int))), (19, (i64 n9))] ∧ n9 = (if x.c.told = true then left - 1 else left) ∧ left - 1 ≤ n9 ∧ n9 ≤ left) ?_ ?_
          ·skip
           refine qcQ 130 x.c.told rfl (fun h195 => ?_) (fun h195 => ?_)
           ·rw [h195]
            have p196 : x.c.told = true := h195
            refine qg ?_
            refine og 2 [(0, .slice LA l.length lc), (1, .slice DA l.length dc), (2, i64 left), (3, ptr r), (4, .slice OA o.length oc), (12, i64 ↑ii), (13, .bool true), (14, i64 ↑jj), (15, ptr r70), (17, .slice (some ⟨mb160, 0, none⟩) l.length l.length), (18, i64 ↑kk), (19, i64 left), (132, (i64 (IntKind.i64.wrap (left - 1))))] 2 ?_
            have e197 : IntKind.i64.wrap (left - 1) = left - 1 := wrap_i64 (by omega) (by omega)
            rw [e197]
            refine ogd 1 [(0, .slice LA l.length lc), (1, .slice DA l.length dc), (2, i64 left), (3, ptr r), (4, .slice OA o.length oc), (12, i64 ↑ii), (13, .bool true), (14, i64 ↑jj), (15, ptr r70), (17, .slice (some ⟨mb160, 0, none⟩) l.length l.length), (18, i64 ↑kk), (19, (i64 (left - 1)))] ?_
            exact ⟨rfl, rfl, _, rfl, (if_pos rfl).symm, by omega, by omega⟩
           ·rw [h195]
            have p198 : x.c.told = false := h195
            refine q_keep (R := [(0, .slice LA l.length lc), (1, .slice DA l.length dc), (2, i64 left), (3, ptr r), (4, .slice OA o.length oc), (12, i64 ↑ii), (13, .bool true), (14, i64 ↑jj), (15, ptr r70), (17, .slice (some ⟨mb160, 0, none⟩) l.length l.length), (18, i64 ↑kk), (19, i64 left)]) (by kernel_rfl) ?_
            refine qkQ ?_
            exact ⟨rfl, rfl, _, rfl, (if_neg (by decide)).symm, by omega, by omega⟩
          ·skip
           rintro _ _ _ ⟨rfl, rfl, n9, rfl, hn9, hn91, hn92⟩
           refine qsg ?_
           refine odz 1 ?_
           refine qsg ?_
           refine og 2 [(0, .slice LA l.length lc), (1, .slice DA l.length dc), (2, i64 left), (3, ptr r), (4, .slice OA o.length oc), (12, i64 ↑ii), (13, .bool true), (14, i64 ↑jj), (15, ptr r70), (17, .slice (some ⟨mb160, 0, none⟩) l.length l.length), (18, i64 ↑kk), (19, i64 n9), (20, .slice none 0 0), (133, .slice none 0 0), (134, .slice OA o.length oc)] 2 ?_
           obtain ⟨v199, w200, hr201, hO202, hK203, hg204⟩ := OwnT.app (ty := 35) iN_one iN_cells tyIR (OwnT.nil _ w.heap.size 3 1 iN) (Rd.keep0 (by decide) hO K168) (by simp only [List.length_append, List.length_cons, List.length_nil]; omega) (by simp only [List.length_append, List.length_cons, List.length_nil]; omega) (K168.size)
           obtain ⟨A206, c207, rfl⟩ := RdT.form iN_one (by decide) (OwnT.rd hO202)
           obtain ⟨l208, hl209⟩ : ∃ z, z = [] ++ o := ⟨_, rfl⟩
           rw [← hl209] at hr201 hO202 hg204
           have hn210 : l208.length = 0 + o.length := by simp [hl209]
           have ob211 : ∀ i, Ow (.slice A206 l208.length c207) i → i ≠ r := fun i hi => by rcases hg204 i hi with h | h; (cases h); (have := H169.lt; omega)
           have ob212 : ∀ i, Ow (.slice A206 l208.length c207) i → i ≠ r70 := fun i hi => by rcases hg204 i hi with h | h; (cases h); (have := H170.lt; omega)
           have ob213 : ∀ i, Ow (.slice A206 l208.length c207) i → i ≠ mb160 := fun i hi => by rcases hg204 i hi with h | h; (cases h); (have := H191.lt; omega)
           have oo214 : ∀ i, Ow (.slice A91 ((doS S K x.c.op).length) c92) i → Ow (.slice A206 l208.length c207) i → False := fun i hi hs => by rcases hg204 i hs with h | h; (cases h); (have := (World.ownsRow.lt hON i hi).2; omega)
           have oo216 : ∀ i, Ow (.slice B93 ((doK S K x.c.op).length) d94) i → Ow (.slice A206 l208.length c207) i → False := fun i hi hs => by rcases hg204 i hs with h | h; (cases h); (have := (World.ownsRow.lt hOM i hi).2; omega)
           have K205 := Keeps.mono (U := none_) hK203 (fun _ _ h => by cases h)
           refine ogo (Value.slice A206 l208.length c207) 135 (Runs.append (ts := #[35, 35]) (ty := 35) (vs := [(Value.slice none 0 0), (Value.slice OA o.length oc)]) (by kernel_rfl) hr201) rfl ?_
           replace K168 := K168.tn K205
           replace H169 := H169.kn K205
           replace H170 := H170.kn K205
           replace H191 := H191.kn K205
           replace hON := own_keep0 hON K205
           replace hOM := own_keep0 hOM K205
           clear K205 hr201 hK203 hg204
           refine odz 1 ?_
           refine qsg ?_
           refine og 2 [(0, .slice LA l.length lc), (1, .slice DA l.length dc), (2, i64 left), (3, ptr r), (4, .slice OA o.length oc), (12, i64 ↑ii), (13, .bool true), (14, i64 ↑jj), (15, ptr r70), (17, .slice (some ⟨mb160, 0, none⟩) l.length l.length), (18, i64 ↑kk), (19, i64 n9), (20, .slice A206 l208.length c207), (136, .slice A206 l208.length c207), (137, i64 ↑ii)] 2 ?_
           refine onew (rowL [(i64 ((ii : Nat) : Int))] 3) (fun b => (Value.slice (some ⟨b, 0, none⟩) 1 1)) 138 (fun b => rfl) (fun b218 w219 hb220 H221 K222 hs223 => ?_)
           have lb218r : r < b218 := by have := H169.lt; omega
           have lb218r70 : r70 < b218 := by have := H170.lt; omega
           have lb218mb160 : mb160 < b218 := by have := H191.lt; omega
           have nb218 : w.heap.size ≤ b218 := by have := K168.size; omega
           replace K168 := K168.tn K222
           replace H169 := H169.kn K222
           replace H170 := H170.kn K222
           replace H191 := H191.kn K222
           replace hON := own_keep0 hON K222
           replace hOM := own_keep0 hOM K222
           replace hO202 := own_keep0 hO202 K222
           clear K222 hs223
           obtain ⟨v227, w228, hr229, hO230, hK231, hg232⟩ := OwnT.app (ty := 35) iN_one iN_cells tyIR hO202 (show RdT _ 1 iN _ [ii] from Rd.lit H221 (n := 1) rfl (by decide)) (by simp only [List.length_append, List.length_cons, List.length_nil]; omega) (by simp only [List.length_append, List.length_cons, List.length_nil]; omega) (K168.size)
           obtain ⟨A234, c235, rfl⟩ := RdT.form iN_one (by decide) (OwnT.rd hO230)
           obtain ⟨l236, hl237⟩ : ∃ z, z = l208 ++ [ii] := ⟨_, rfl⟩
           rw [← hl237] at hr229 hO230 hg232
           have hn238 : l236.length = l208.length + 1 := by simp [hl237]
           have K233 := hK231
           refine ogo (Value.slice A234 l236.length c235) 139 (Runs.append (ts := #[35, 35]) (ty := 35) (vs := [(Value.slice A206 l208.length c207), (Value.slice (some ⟨b218, 0, none⟩) 1 1)]) (by kernel_rfl) hr229) rfl ?_
           replace K168 := K168.trans K233 (U := none_) (fun i h1 h2 => h2) (fun i h1 h2 => by have h2 : Ow (.slice A206 l208.length c207) i := h2; exfalso; have := (World.ownsRow.lt hO202 i h2).1; omega)
           replace H169 := H169.keep K233 (by intro h; change Ow (.slice A206 l208.length c207) r at h; have := ob211 r h; omega)
           replace H170 := H170.keep K233 (by intro h; change Ow (.slice A206 l208.length c207) r70 at h; have := ob212 r70 h; omega)
           replace H191 := H191.keep K233 (by intro h; change Ow (.slice A206 l208.length c207) mb160 at h; have := ob213 mb160 h; omega)
           replace hON := own_keep hON K233 (fun i hi hs => by have hs : Ow (.slice A206 l208.length c207) i := hs; exact oo214 i hi hs)
           replace hOM := own_keep hOM K233 (fun i hi hs => by have hs : Ow (.slice A206 l208.length c207) i := hs; exact oo216 i hi hs)
           clear K233 hr229 hK231 hg232
           refine odz 1 ?_
           refine qsg ?_
           refine og 5 [(0, .slice LA l.length lc), (1, .slice DA l.length dc), (2, i64 left), (3, ptr r), (4, .slice OA o.length oc), (12, i64 ↑ii), (13, .bool true), (14, i64 ↑jj), (18, i64 ↑kk), (19, i64 n9), (20, .slice A234 l236.length c235), (141, .slice LA l.length lc), (142, .slice (some ⟨mb160, 0, none⟩) l.length l.length), (143, i64 n9), (144, ptr r70), (145, .slice A234 l236.length c235)] 5 ?_
           refine ocQ 146 (IH _ (show undR l.length (updR l.length ds ii) < undR l.length ds by omega) _ LA lc l G (some ⟨mb160, 0, none⟩) l.length (updR l.length ds ii) n9 r70 A91 c92 (doS S K x.c.op) B93 d94 (doK S K x.c.op) A234 c235 l236 (Rd.keep0 (by decide) hL K168) (RowsE.keep hG K168 (fun _ _ h => h)) ho hl (by have h := bools_rd H191 (by unfold maxLen; rw [updR_len]; omega); rw [updR_len] at h; exact h) (updR_len _ _ _) H170 (OwnT.rd hON) (OwnT.rd hOM) (hLg.do (by omega)) (by omega) (OwnT.rd hO230) (by omega) (by omega) rfl) ?_
           rintro _ w254 ⟨A247, c248, o249, ok250, rfl, K251, hR252, hE253⟩
           refine ⟨_, _, rfl, rfl, ?_⟩
           replace K168 := K168.tn K251
           replace H169 := H169.kn K251
           refine odz 5 ?_
           refine qsg ?_
           refine ogd 1 [(0, .slice LA l.length lc), (1, .slice DA l.length dc), (2, i64 left), (3, ptr r), (4, .slice OA o.length oc), (12, i64 ↑ii), (13, .bool true), (14, i64 ↑jj), (18, i64 ↑kk), (19, i64 n9), (20, .slice A234 l236.length c235), (21, .slice A247 o249.length c248), (149, .bool ok250)] ?_
           refine qcQ 149 ok250 rfl (fun h255 => ?_) (fun h255 => ?_)
           ·rw [h255]
            have p256 : ok250 = true := h255
            have hE9 := hE253
            rw [h255] at hE9
            rw [show l236 = o ++ [ii] from by rw [hl237, hl209, List.nil_append]] at hE9
            refine qsg ?_
            refine ogd 3 [(0, .slice LA l.length lc), (1, .slice DA l.length dc), (2, i64 left), (3, ptr r), (4, .slice OA o.length oc), (10, .slice A247 o249.length c248), (11, .bool true), (12, i64 ↑ii), (13, .bool true), (14, i64 ↑jj), (18, i64 ↑kk), (19, i64 n9), (20, .slice A234 l236.length c235)] ?_
            refine qtQ ?_
            refine ⟨(Value.tuple #[(Value.slice A247 o249.length c248), (Value.bool true)]), retv_tmp2 rfl rfl rfl, ?_⟩
            exact ⟨_, _, _, true, rfl, K168, hR252, by rw [tryV_step, if_neg (by omega), rounds_some (by rw [List.length_map]; omega) hno (by rw [nextV_go hxm h0 h1 hwt hst, List.length_map, ← hn9]; exact ans_some hE9)]⟩
           ·rw [h255]
            have p257 : ok250 = false := h255
            have hE9 := hE253
            rw [h255] at hE9
            rw [show l236 = o ++ [ii] from by rw [hl237, hl209, List.nil_append]] at hE9
            refine qkQ ?_
            refine qg ?_
            refine oid 3 (fun z => [(0, .slice LA l.length lc), (1, .slice DA l.length dc), (2, i64 left), (3, ptr r), (4, .slice OA o.length oc), (12, i64 z)]) ii ?_
            exact ⟨ii + 1, ⟨rfl, (rounds_none hno (by rw [nextV_go hxm h0 h1 hwt hst, List.length_map, ← hn9]; exact ans_none hE9)), (by omega), K168, H169⟩, (show l.length - (ii + 1) < l.length - ii from by omega)⟩
  ·rw [h7]
   have p259 := of_decide_eq_false h7
   refine q_exit (id := 0) (by kernel_rfl) ?_
   refine qsg ?_
   refine ogd 2 [(10, .slice none 0 0), (11, .bool false)] ?_
   refine qtQ ?_
   refine ⟨(Value.tuple #[(Value.slice none 0 0), (Value.bool false)]), retv_tmp2 rfl rfl rfl, ?_⟩
   exact ⟨none, 0, [], false, rfl, K5, Rd.nil _ _, by rw [tryV_step, if_neg (by omega), rounds_end (by rw [List.length_map]; omega) hno]⟩
theorem Try_all : ∀ u, TryS u := by
 intro u
 induction u using Nat.strongRecOn with
 | _ u ih =>
  intro w LA lc l G DA dc ds left r A c S B d K OA oc o hL hG ho hl hD hdl Hr hR hQ hLg hKu hO hou hlf hu
  exact Try_walk w LA lc l G DA dc ds left r A c S B d K OA oc o hL hG ho hl hD hdl Hr hR hQ hLg hKu hO hou hlf fun v hv => ih v (by omega)
end Go.Proofs.YtnbcghbgeiocbaaDoor
namespace Go.Q
open Go.RowKit
def cntL (M : List HCall) (i : Nat) : Nat := (M.take i).countP countsH
def cntT (M : List HCall) (i : Nat) : Nat := (M.take i).countP fun c => countsH c && c.told
def anyB (M : List HCall) (i : Nat) : Bool := (M.take i).any fun c => countsH c && (c.told && decide (c.en < c.bg))
theorem cntP_take {m : List HCall} {p : HCall → Bool} {i : Nat} {c : HCall} (h : m[i]? = some c) : (m.take (i + 1)).countP p = (m.take i).countP p + (if p c = true then 1 else 0) := by
 rw [List.take_add_one, h, List.countP_append]
 congr 1
 show [c].countP p = _
 rw [List.countP_cons, List.countP_nil, Nat.zero_add]
section
variable {M : List HCall} {i : Nat} {c : HCall}
theorem cnt_no (h : M[i]? = some c) (h1 : countsH c = false) : cntL M (i + 1) = cntL M i ∧ cntT M (i + 1) = cntT M i ∧ anyB M (i + 1) = anyB M i := by
 unfold cntL cntT anyB
 rw [cntP_take h, cntP_take h, List.take_add_one, h, List.any_append, h1]
 simp [h1]
theorem cnt_un (h : M[i]? = some c) (h1 : countsH c = true) (h2 : c.told = false) : cntL M (i + 1) = cntL M i + 1 ∧ cntT M (i + 1) = cntT M i ∧ anyB M (i + 1) = anyB M i := by
 unfold cntL cntT anyB
 rw [cntP_take h, cntP_take h, List.take_add_one, h, List.any_append, h1]
 simp [h2]
theorem cnt_to (h : M[i]? = some c) (h1 : countsH c = true) (h2 : c.told = true) {b : Bool} (h3 : decide (c.en < c.bg) = b) : cntL M (i + 1) = cntL M i + 1 ∧ cntT M (i + 1) = cntT M i + 1 ∧ anyB M (i + 1) = (anyB M i || b) := by
 unfold cntL cntT anyB
 rw [cntP_take h, cntP_take h, List.take_add_one, h, List.any_append, h1]
 simp [h1, h2, h3]
theorem cntL_le : cntL M i ≤ i := Nat.le_trans List.countP_le_length (by rw [List.length_take]; omega)
theorem cntT_le : cntT M i ≤ i := Nat.le_trans List.countP_le_length (by rw [List.length_take]; omega)
theorem rorder_size (hi : M.length ≤ i) (h : 8 < cntL M i) : ([], false, (3 : Int)) = orderH M := by
 unfold cntL at h
 rw [List.take_of_length_le hi] at h
 rw [← order_law]; unfold orderR; rw [if_pos h]
theorem rorder_bad (hi : M.length ≤ i) (h : ¬ 8 < cntL M i) (hb : anyB M i = true) : ([], false, (1 : Int)) = orderH M := by
 unfold cntL at h; unfold anyB at hb
 rw [List.take_of_length_le hi] at h hb
 rw [← order_law]; unfold orderR; rw [if_neg h, if_pos hb]
theorem rorder_end (hi : M.length ≤ i) (h : ¬ 8 < cntL M i) (hb : anyB M i = false) {o : List Nat} {ok : Bool} (hE : (o, ok) = (match tryV M (List.replicate M.length false) ((cntT M i : Nat) : Int) ([], []) [] with | some x => (x, true) | none => ([], false))) : (o, ok, (0 : Int)) = orderH M := by
 unfold cntL at h; unfold anyB at hb; unfold cntT tryV at hE
 rw [List.take_of_length_le hi] at h hb hE
 rw [und_rep] at hE
 rw [← order_law]; unfold orderR; rw [if_neg h, hb, if_neg (by decide)]
 revert hE
 cases tryR M M.length (List.replicate M.length false) ((M.countP fun c => countsH c && c.told : Nat) : Int) ([], []) [] with
 | some x => intro e; cases e; rfl
 | none => intro e; cases e; rfl
end
theorem rowsE_in {w : World} {l : List HC} (h : ∀ x ∈ l, x.In w) : RowsE w HC.rv HC.rows (fun i => i < w.heap.size) l := by
 refine ⟨fun x hx => (h x hx).rows, fun x hx hn i hi => Rd.lt (h x hx).rows ?_ i hi, fun i hi => hi⟩
 cases q : x.c.rep.rows with
 | nil => exact absurd q hn
 | cons a t => intro e; cases e
theorem map_at {o l : List HC} (h : o.map HC.c = l.map HC.c) {i : Nat} {z x : HC} (hz : o[i]? = some z) (hx : l[i]? = some x) : z.c = x.c := by
 have e := congrArg (fun m => m[i]?) h
 simp only [List.getElem?_map, hz, hx] at e
 exact Option.some.inj e
theorem map_two {o : List HC} {a b : HC} (h : o.map HC.c = [a, b].map HC.c) : ∃ u v, o[0]? = some u ∧ o[1]? = some v ∧ u.c = a.c ∧ v.c = b.c := by
 match o, h with
 | [u, v], h =>
  injection h with h1 h2
  injection h2 with h2 _
  exact ⟨u, v, rfl, rfl, h1, h2⟩
 | [], h => cases h
 | [_], h => injection h with _ h2; cases h2
 | _ :: _ :: _ :: _, h => injection h with _ h2; injection h2 with _ h3; cases h3
end Go.Q
namespace Go.Proofs.YtnbcghbgeiocbaaDoor
open Go.Q Go.RowKit
set_option maxHeartbeats 4000000 in
theorem ROrder_calls (w : World) (LA : Option Addr) (lc : Nat) (l : List HC) (G : Nat → Prop) (hL : RdT w 13 HC.cells (Value.slice LA l.length lc) l) (hG : RowsE w HC.rv HC.rows G l) (ho : (∀ x ∈ l, -9223372036854775808 ≤ x.c.op.amount ∧ x.c.op.amount ≤ 9223372036854775807)) (hl : l.length ≤ 40) : Calls Tryd.prog 13 ⟨[(Value.slice LA l.length lc)]⟩ w (fun e w' => ∃ (o : List Nat) (A : Option Addr) (c : Nat) (ok : Bool) (why : Int), e = .returned (.tuple #[.slice A o.length c, .bool ok, i64 why]) ∧ Keeps none_ w w' ∧ RdT w' 1 iN (.slice A o.length c) o ∧ (o, ok, why) = orderH (l.map HC.c)) := by
 have K0 : Keeps none_ w w := Keeps.refl w
 refine q_calls Tryd.func13 (by kernel_rfl) (by kernel_rfl) ?_
 refine qsg ?_
 refine odz 3 ?_
 refine qsg ?_
 refine odz 1 ?_
 refine qsg ?_
 refine odz 1 ?_
 refine qsg ?_
 refine odz 1 ?_
 refine qs ?_
 refine qsg ?_
 refine ogd 1 [(0, .slice LA l.length lc), (2, .slice none 0 0), (3, .bool false), (4, i64 0), (5, i64 0), (6, i64 0), (7, .bool false), (8, i64 0)] ?_
 refine q_block (id := 0) (by kernel_rfl) ?_
 refine q_keep (R := [(0, .slice LA l.length lc), (2, .slice none 0 0), (3, .bool false), (4, i64 0), (5, i64 0), (6, i64 0), (7, .bool false), (8, i64 0)]) (by kernel_rfl) ?_
 refine q_loop (fun (gs : Nat × Nat × Nat × Bool) L (wx : World) => match gs with | (ii, n, lf, bd) => L = [(0, (Value.slice LA l.length lc)), (2, (Value.slice none 0 0)), (3, (Value.bool false)), (4, (i64 0)), (5, (i64 ((n : Nat) : Int))), (6, (i64 ((lf : Nat) : Int))), (7, (Value.bool bd)), (8, (i64 ((ii : Nat) : Int)))] ∧ n = cntL (l.map HC.c) ii ∧ lf = cntT (l.map HC.c) ii ∧ bd = anyB (l.map HC.c) ii ∧ ii ≤ l.length ∧ Keeps none_ w wx) (fun (gs : Nat × Nat × Nat × Bool) => match gs with | (ii, n, lf, bd) => l.length - ii) (0, 0, 0, false) (by kernel_rfl) ⟨rfl, rfl, rfl, rfl, Nat.zero_le _, K0⟩ ?_
 clear K0
 rintro ⟨ii, n, lf, bd⟩ _ w1 ⟨rfl, hn, hf, hb, hi, K2⟩
 have hnl9 : n ≤ ii := by rw [hn]; exact cntL_le
 have hfl9 : lf ≤ ii := by rw [hf]; exact cntT_le
 refine qs ?_
 refine qsg ?_
 refine ogd 4 [(0, .slice LA l.length lc), (2, .slice none 0 0), (3, .bool false), (4, i64 0), (5, i64 ↑n), (6, i64 ↑lf), (7, .bool bd), (8, i64 ↑ii), (14, (Value.bool (decide (((ii : Nat) : Int) < ((l.length : Nat) : Int)))))] ?_
 refine qcQ 14 (decide (((ii : Nat) : Int) < ((l.length : Nat) : Int))) rfl (fun h3 => ?_) (fun h3 => ?_)
 ·rw [h3]
  have p4 := of_decide_eq_true h3
  refine qkQ ?_
  refine qs ?_
  refine q_block (id := 1) (by kernel_rfl) ?_
  refine qsg ?_
  refine og 2 [(0, .slice LA l.length lc), (2, .slice none 0 0), (3, .bool false), (4, i64 0), (5, i64 ↑n), (6, i64 ↑lf), (7, .bool bd), (8, i64 ↑ii), (17, .slice LA l.length lc), (18, i64 ↑ii)] 2 ?_
  obtain ⟨x, hx⟩ : ∃ x, l[ii]? = some x := ⟨_, List.getElem?_eq_getElem (by omega)⟩
  have hxm : (l.map HC.c)[ii]? = some x.c := by rw [List.getElem?_map, hx]; rfl
  obtain ⟨rb5, ro6, hA7⟩ := Rd.addr (Rd.keep0 (by decide) hL K2) (by omega)
  refine Ops.go (by kernel_rfl) (Runs.ixSliceE (k := IntKind.i64) (t := 22) (len := l.length) (cap := lc) (s := 13) (off' := ro6 + ii * 13) (i := ((ii : Nat) : Int)) hA7 (by kernel_rfl) (by kernel_rfl) (by omega) (by omega) (by omega)) (d := (some 19)) (by kernel_rfl) rfl ?_
  refine ogo (agg (HC.cells x)) 20 (Runs.load (t := 30) (a := ⟨rb5, ro6 + ii * 13, none⟩) (by kernel_rfl) (RdT.ld (f := HC.cells) (x := x) HC.two (Rd.keep0 (by decide) hL K2) (by kernel_rfl) (by kernel_rfl) hA7 hx)) rfl ?_
  refine ocQ 21 (countsR_calls _ x) ?_
  rintro _ w8 ⟨rfl, K9⟩
  refine ⟨_, _, rfl, rfl, ?_⟩
  replace K2 := K2.tn K9
  clear K9
  refine od ?_
  refine qcQ 21 (countsH x.c) rfl (fun h10 => ?_) (fun h10 => ?_)
  ·rw [h10]
   have p11 : (countsH x.c) = true := h10
   refine qsg ?_
   refine oid 3 (fun z => [(0, .slice LA l.length lc), (2, .slice none 0 0), (3, .bool false), (4, i64 0), (5, i64 z), (6, i64 ↑lf), (7, .bool bd), (8, i64 ↑ii)]) n ?_
   refine qsg ?_
   refine og 2 [(0, .slice LA l.length lc), (2, .slice none 0 0), (3, .bool false), (4, i64 0), (5, i64 ↑(n + 1)), (6, i64 ↑lf), (7, .bool bd), (8, i64 ↑ii), (24, .slice LA l.length lc), (25, i64 ↑ii)] 2 ?_
   refine Ops.go (by kernel_rfl) (Runs.ixSliceE (k := IntKind.i64) (t := 22) (len := l.length) (cap := lc) (s := 13) (off' := ro6 + ii * 13) (i := ((ii : Nat) : Int)) hA7 (by kernel_rfl) (by kernel_rfl) (by omega) (by omega) (by omega)) (d := (some 26)) (by kernel_rfl) rfl ?_
   refine og 1 [(0, .slice LA l.length lc), (2, .slice none 0 0), (3, .bool false), (4, i64 0), (5, i64 ↑(n + 1)), (6, i64 ↑lf), (7, .bool bd), (8, i64 ↑ii), (27, .pointer (some ⟨rb5, ro6 + ii * 13 + 9, none⟩))] 4 ?_
   refine ogo (Value.bool x.c.told) 28 (Runs.load (t := 4) (a := ⟨rb5, ro6 + ii * 13 + 9, none⟩) (by kernel_rfl) (RdT.ldf (f := HC.cells) (x := x) (o := 9) HC.two (Rd.keep0 (by decide) hL K2) (by kernel_rfl) hA7 hx rfl)) rfl ?_
   refine od ?_
   refine qcQ 28 x.c.told rfl (fun h13 => ?_) (fun h13 => ?_)
   ·rw [h13]
    have p14 : x.c.told = true := h13
    have hcn := cnt_to hxm h10 h13 rfl
    refine qsg ?_
    refine oid 3 (fun z => [(0, .slice LA l.length lc), (2, .slice none 0 0), (3, .bool false), (4, i64 0), (5, i64 ↑(n + 1)), (6, i64 z), (7, .bool bd), (8, i64 ↑ii)]) lf ?_
    refine q_drawS 15 (by kernel_rfl) (by kernel_rfl) (by kernel_rfl) (fun w16 K17 _ _ => ?_)
    replace K2 := K2.tn K17
    have Kb18 : Keeps none_ w16 w16 := Keeps.refl w16
    refine ⟨fun wz => Keeps none_ w16 wz, [], (SH.nil Kb18), ?_⟩
    refine skQ 13 [0, 1] [(0, .slice LA l.length lc), (2, .slice none 0 0), (3, .bool false), (4, i64 0), (5, i64 ↑(n + 1)), (6, i64 ↑(lf + 1)), (7, .bool bd), (8, i64 ↑ii), (32, .bool bd)] ?_
    refine DrS.split bd (fun h19 => ?_) (fun h19 => ?_)
    ·rw [h19]
     have p20 : bd = true := h19
     refine skQ 0 [2, 3, 4, 5, 6, 7, 8, 9, 10, 11, 12, 13, 14] [(0, .slice LA l.length lc), (2, .slice none 0 0), (3, .bool false), (4, i64 0), (5, i64 ↑(n + 1)), (6, i64 ↑(lf + 1)), (7, .bool true), (8, i64 ↑ii)] ?_
     refine DrS.done (by kernel_rfl) ?_
     replace K2 := K2.tn Kb18
     refine qg ?_
     refine oid 3 (fun z => [(0, .slice LA l.length lc), (2, .slice none 0 0), (3, .bool false), (4, i64 0), (5, i64 ↑(n + 1)), (6, i64 ↑(lf + 1)), (7, .bool true), (8, i64 z)]) ii ?_
     exact ⟨(ii + 1, n + 1, lf + 1, true), ⟨rfl, (by rw [hcn.1, ← hn]), (by rw [hcn.2.1, ← hf]), (by rw [hcn.2.2, ← hb, h19, Bool.true_or]), (by omega), K2⟩, (show l.length - (ii + 1) < l.length - ii from by omega)⟩
    ·rw [h19]
     have p22 : bd = false := h19
     refine skQ 11 [2, 3] [(0, .slice LA l.length lc), (2, .slice none 0 0), (3, .bool false), (4, i64 0), (5, i64 ↑(n + 1)), (6, i64 ↑(lf + 1)), (7, .bool false), (8, i64 ↑ii), (32, .bool false), (33, .slice LA l.length lc), (34, i64 ↑ii)] ?_
     refine stQ 4 (Value.pointer (some ⟨rb5, ro6 + ii * 13, none⟩)) 35 (fun wz hS => Runs.ixSliceE (k := IntKind.i64) (t := 22) (len := l.length) (cap := lc) (s := 13) (off' := ro6 + ii * 13) (i := ((ii : Nat) : Int)) hA7 (by kernel_rfl) (by kernel_rfl) (by omega) (by omega) (by omega)) rfl ?_
     refine skQ 9 [5] [(0, .slice LA l.length lc), (2, .slice none 0 0), (3, .bool false), (4, i64 0), (5, i64 ↑(n + 1)), (6, i64 ↑(lf + 1)), (7, .bool false), (8, i64 ↑ii), (32, .bool false), (36, .pointer (some ⟨rb5, ro6 + ii * 13 + 8, none⟩))] ?_
     refine stQ 6 (i64 x.c.en) 37 (fun wz hS => Runs.load (t := 3) (a := ⟨rb5, ro6 + ii * 13 + 8, none⟩) (by kernel_rfl) (RdT.ldf (f := HC.cells) (x := x) (o := 8) HC.two (Rd.keep0 (by decide) hL (K2.trans hS (fun _ _ h => h) (fun _ _ h => h))) (by kernel_rfl) hA7 hx rfl)) rfl ?_
     refine skQ 6 [7, 8] [(0, .slice LA l.length lc), (2, .slice none 0 0), (3, .bool false), (4, i64 0), (5, i64 ↑(n + 1)), (6, i64 ↑(lf + 1)), (7, .bool false), (8, i64 ↑ii), (32, .bool false), (37, i64 x.c.en), (38, .slice LA l.length lc), (39, i64 ↑ii)] ?_
     refine stQ 9 (Value.pointer (some ⟨rb5, ro6 + ii * 13, none⟩)) 40 (fun wz hS => Runs.ixSliceE (k := IntKind.i64) (t := 22) (len := l.length) (cap := lc) (s := 13) (off' := ro6 + ii * 13) (i := ((ii : Nat) : Int)) hA7 (by kernel_rfl) (by kernel_rfl) (by omega) (by omega) (by omega)) rfl ?_
     refine skQ 4 [10] [(0, .slice LA l.length lc), (2, .slice none 0 0), (3, .bool false), (4, i64 0), (5, i64 ↑(n + 1)), (6, i64 ↑(lf + 1)), (7, .bool false), (8, i64 ↑ii), (32, .bool false), (37, i64 x.c.en), (41, .pointer (some ⟨rb5, ro6 + ii * 13 + 7, none⟩))] ?_
     refine stQ 11 (i64 x.c.bg) 42 (fun wz hS => Runs.load (t := 3) (a := ⟨rb5, ro6 + ii * 13 + 7, none⟩) (by kernel_rfl) (RdT.ldf (f := HC.cells) (x := x) (o := 7) HC.two (Rd.keep0 (by decide) hL (K2.trans hS (fun _ _ h => h) (fun _ _ h => h))) (by kernel_rfl) hA7 hx rfl)) rfl ?_
     refine skQ 0 [12, 13, 14] [(0, .slice LA l.length lc), (2, .slice none 0 0), (3, .bool false), (4, i64 0), (5, i64 ↑(n + 1)), (6, i64 ↑(lf + 1)), (7, (Value.bool (decide (x.c.en < x.c.bg)))), (8, i64 ↑ii)] ?_
     refine DrS.done (by kernel_rfl) ?_
     replace K2 := K2.tn Kb18
     refine qg ?_
     refine oid 3 (fun z => [(0, .slice LA l.length lc), (2, .slice none 0 0), (3, .bool false), (4, i64 0), (5, i64 ↑(n + 1)), (6, i64 ↑(lf + 1)), (7, (Value.bool (decide (x.c.en < x.c.bg)))), (8, i64 z)]) ii ?_
     exact ⟨(ii + 1, n + 1, lf + 1, (decide (x.c.en < x.c.bg))), ⟨rfl, (by rw [hcn.1, ← hn]), (by rw [hcn.2.1, ← hf]), (by rw [hcn.2.2, ← hb, h19, Bool.false_or]), (by omega), K2⟩, (show l.length - (ii + 1) < l.length - ii from by omega)⟩
   ·rw [h13]
    have p24 : x.c.told = false := h13
    have hcn := cnt_un hxm h10 h13
    refine qkQ ?_
    refine qg ?_
    refine oid 3 (fun z => [(0, .slice LA l.length lc), (2, .slice none 0 0), (3, .bool false), (4, i64 0), (5, i64 ↑(n + 1)), (6, i64 ↑lf), (7, .bool bd), (8, i64 z)]) ii ?_
    exact ⟨(ii + 1, n + 1, lf, bd), ⟨rfl, (by rw [hcn.1, ← hn]), (by rw [hcn.2.1]; exact hf), (by rw [hcn.2.2]; exact hb), (by omega), K2⟩, (show l.length - (ii + 1) < l.length - ii from by omega)⟩
  ·rw [h10]
   have p26 : (countsH x.c) = false := h10
   have hcn := cnt_no hxm h10
   refine qkQ ?_
   refine qg ?_
   refine oid 3 (fun z => [(0, .slice LA l.length lc), (2, .slice none 0 0), (3, .bool false), (4, i64 0), (5, i64 ↑n), (6, i64 ↑lf), (7, .bool bd), (8, i64 z)]) ii ?_
   exact ⟨(ii + 1, n, lf, bd), ⟨rfl, (by rw [hcn.1]; exact hn), (by rw [hcn.2.1]; exact hf), (by rw [hcn.2.2]; exact hb), (by omega), K2⟩, (show l.length - (ii + 1) < l.length - ii from by omega)⟩
 ·rw [h3]
  have p28 := of_decide_eq_false h3
  refine q_exit (id := 0) (by kernel_rfl) ?_
  refine qs ?_
  refine qsg ?_
  refine ogd 2 [(0, .slice LA l.length lc), (2, .slice none 0 0), (3, .bool false), (4, i64 0), (6, i64 ↑lf), (7, .bool bd), (46, (Value.bool (decide (((n : Nat) : Int) > 8))))] ?_
  refine qcQ 46 (decide (((n : Nat) : Int) > 8)) rfl (fun h29 => ?_) (fun h29 => ?_)
  ·rw [h29]
   have p30 := of_decide_eq_true h29
   refine qsg ?_
   refine ogd 3 [(0, .slice LA l.length lc), (2, .slice none 0 0), (3, .bool false), (4, i64 3), (6, i64 ↑lf), (7, .bool bd)] ?_
   refine qtQ ?_
   refine ⟨(Value.tuple #[(Value.slice none 0 0), (Value.bool false), (i64 3)]), retv_tmp3 rfl rfl rfl rfl, ?_⟩
   exact ⟨[], none, 0, false, 3, rfl, K2, Rd.nil _ _, rorder_size (M := l.map HC.c) (i := ii) (by rw [List.length_map]; omega) (by omega)⟩
  ·rw [h29]
   have p31 := of_decide_eq_false h29
   refine qkQ ?_
   refine qs ?_
   refine qsg ?_
   refine ogd 1 [(0, .slice LA l.length lc), (2, .slice none 0 0), (3, .bool false), (4, i64 0), (6, i64 ↑lf), (47, .bool bd)] ?_
   refine qcQ 47 bd rfl (fun h32 => ?_) (fun h32 => ?_)
   ·rw [h32]
    have p33 : bd = true := h32
    refine qsg ?_
    refine ogd 3 [(0, .slice LA l.length lc), (2, .slice none 0 0), (3, .bool false), (4, i64 1), (6, i64 ↑lf)] ?_
    refine qtQ ?_
    refine ⟨(Value.tuple #[(Value.slice none 0 0), (Value.bool false), (i64 1)]), retv_tmp3 rfl rfl rfl rfl, ?_⟩
    exact ⟨[], none, 0, false, 1, rfl, K2, Rd.nil _ _, rorder_bad (M := l.map HC.c) (i := ii) (by rw [List.length_map]; omega) (by omega) (hb.symm.trans h32)⟩
   ·rw [h32]
    have p34 : bd = false := h32
    refine qkQ ?_
    refine qsg ?_
    refine og 3 [(2, .slice none 0 0), (3, .bool false), (4, i64 0), (6, i64 ↑lf), (49, .slice LA l.length lc), (51, i64 ↑l.length)] 3 ?_
    obtain ⟨w35, hr36, H37, K38⟩ := run_makeH (P := Tryd.prog) (t := 92) (e := 4) w1 (by kernel_rfl) (by kernel_rfl) (n := l.length) (by omega)
    obtain ⟨mb39, hmb39⟩ : ∃ b, b = w1.heap.size := ⟨_, rfl⟩
    rw [← hmb39] at hr36 H37
    refine ogo (Value.slice (some ⟨mb39, 0, none⟩) l.length l.length) 52 (Runs.make (by kernel_rfl) hr36) rfl ?_
    have nmb39 : w.heap.size ≤ mb39 := by have := K2.size; omega
    replace K2 := K2.tn K38
    refine og 2 [(2, .slice none 0 0), (3, .bool false), (4, i64 0), (49, .slice LA l.length lc), (52, .slice (some ⟨mb39, 0, none⟩) l.length l.length), (53, i64 ↑lf), (54, (agg [(Value.slice none 0 0), (Value.slice none 0 0)]))] 6 ?_
    refine onew (rowL [(Value.slice none 0 0), (Value.slice none 0 0)] 55) (fun b => (ptr b)) 55 (fun b => rfl) (fun b40 w41 hb42 H43 K44 hs45 => ?_)
    have lb40mb39 : mb39 < b40 := by have := H37.lt; omega
    have nb40 : w.heap.size ≤ b40 := by have := K2.size; omega
    replace K2 := K2.tn K44
    replace H37 := H37.kn K44
    clear K44 hs45
    refine ocQ 56 (Try_all _ _ LA lc l G (some ⟨mb39, 0, none⟩) l.length (List.replicate l.length false) ((lf : Nat) : Int) b40 none 0 [] none 0 [] none 0 [] (Rd.keep0 (by decide) hL K2) (RowsE.keep hG K2 (fun _ _ h => h)) ho hl (by have h := bools_rd H37 (by rw [List.length_replicate]; unfold maxLen; omega); rw [List.length_replicate] at h; exact h) List.length_replicate H43 (Rd.nil _ _) (Rd.nil _ _) LBook.nil.ledg (by rw [und_rep]; show 0 + l.length ≤ 100; omega) (Rd.nil _ _) (by rw [und_rep]; show 0 + l.length ≤ 100; omega) (by rw [und_rep]; constructor <;> omega) rfl) ?_
    rintro _ w53 ⟨A46, c47, o48, ok49, rfl, K50, hR51, hE52⟩
    refine ⟨_, _, rfl, rfl, ?_⟩
    replace K2 := K2.tn K50
    refine odz 5 ?_
    refine qsg ?_
    refine ogd 5 [(2, .slice A46 o48.length c47), (3, .bool ok49), (4, i64 0)] ?_
    refine qtQ ?_
    refine ⟨(Value.tuple #[(Value.slice A46 o48.length c47), (Value.bool ok49), (i64 0)]), retv_tmp3 rfl rfl rfl rfl, ?_⟩
    exact ⟨o48, A46, c47, ok49, 0, rfl, K2, hR51, rorder_end (M := l.map HC.c) (i := ii) (by rw [List.length_map]; omega) (by omega) (hb.symm.trans h32) (by rw [List.length_map, ← hf]; exact hE52)⟩
end Go.Proofs.YtnbcghbgeiocbaaDoor
namespace Go.Proofs.YtnbcghbgeiocbaaDoor
open Go.Q Go.RowKit
set_option maxHeartbeats 4000000 in
theorem Orders_calls (w : World) (LA : Option Addr) (lc : Nat) (l : List HC) (xa xb : HC) (hL : RdT w 13 HC.cells (Value.slice LA l.length lc) l) (hI : ∀ x ∈ l, x.In w ∧ x.Rng) (hA : xa.In w ∧ xa.Rng) (hB : xb.In w ∧ xb.Rng) : Calls Tryd.prog 3 ⟨[(Value.slice LA l.length lc), (agg (HC.cells xa)), (agg (HC.cells xb))]⟩ w (fun e w' => e = .returned (.bool true) ∧ Keeps none_ w w') := by
 have hLi : ∀ x ∈ l, x.In w := fun x hx => (hI x hx).1
 have hcap := (RdT.len HC.two (by decide) hL).2
 unfold maxLen at hcap
 have hAB : ∀ x ∈ [xa, xb], x.In w ∧ x.Rng := fun x hx => by rcases List.mem_cons.1 hx with rfl | hx; exact hA; rw [List.mem_singleton.1 hx]; exact hB
 have K0 : Keeps none_ w w := Keeps.refl w
 refine q_calls Tryd.func3 (by kernel_rfl) (by kernel_rfl) ?_
 refine qsg ?_
 refine onew (rowL (HC.cells xa) 30) (fun b => (ptr b)) 4 (fun b => rfl) (fun b1 w2 hb3 H4 K5 hs6 => ?_)
 have nb1 : w.heap.size ≤ b1 := by have := K0.size; omega
 replace K0 := K0.t0 K5
 clear K5 hs6
 refine onew (rowL (HC.cells xb) 30) (fun b => (ptr b)) 5 (fun b => rfl) (fun b7 w8 hb9 H10 K11 hs12 => ?_)
 have lb7b1 : b1 < b7 := by have := H4.lt; omega
 have nb7 : w.heap.size ≤ b7 := by have := K0.size; omega
 replace K0 := K0.t0 K11
 replace H4 := H4.kn K11
 clear K11 hs12
 refine odz 1 ?_
 refine qs ?_
 refine qsg ?_
 refine og 1 [(0, .slice LA l.length lc), (4, ptr b1), (5, ptr b7), (6, .bool false), (18, .slice LA l.length lc)] 1 ?_
 refine ocQ 19 (hard_calls _ LA lc l (Rd.keep0 (by decide) hL K0)) ?_
 rintro _ w16 ⟨t13, rfl, ht14, K15⟩
 refine ⟨_, _, rfl, rfl, ?_⟩
 replace K0 := K0.t0 K15
 replace H4 := H4.kn K15
 replace H10 := H10.kn K15
 refine od ?_
 refine qcQ 19 t13 rfl (fun h17 => ?_) (fun h17 => ?_)
 ·rw [h17]
  have p18 : t13 = true := h17
  refine qsg ?_
  refine ocQ 20 (known_calls _) ?_
  rintro _ w20 ⟨rfl, K19⟩
  refine ⟨_, _, rfl, rfl, ?_⟩
  replace K0 := K0.t0 K19
  refine ogd 1 [(0, .slice LA l.length lc), (4, ptr b1), (5, ptr b7), (6, .bool true)] ?_
  refine qtQ ?_
  refine ⟨(Value.bool true), retv_tmp rfl rfl, ?_⟩
  exact ⟨rfl, K0⟩
 ·rw [h17]
  have p21 : t13 = false := h17
  have hl40 := ht14 h17
  refine qkQ ?_
  refine qsg ?_
  refine og 1 [(0, .slice LA l.length lc), (4, ptr b1), (5, ptr b7), (6, .bool false), (21, .slice LA l.length lc)] 1 ?_
  refine ocQ 22 (given_calls _ LA lc l (Rd.keep0 (by decide) hL K0) (fun x hx => (hLi x hx).keep K0) (by omega)) ?_
  rintro _ w27 ⟨o22, OA23, oc24, T25, rfl, K26, hO28, hR29, h30, h31, hm32⟩
  refine ⟨_, _, rfl, rfl, ?_⟩
  replace K0 := K0.t0 K26
  replace H4 := H4.kn K26
  replace H10 := H10.kn K26
  have hx34 := OwnT.rd hO28
  have hz33 : o22.length = l.length := by have := congrArg List.length hm32; simpa only [List.length_map] using this
  refine odz 1 ?_
  refine qsg ?_
  refine og 1 [(0, .slice LA l.length lc), (4, ptr b1), (5, ptr b7), (6, .bool false), (7, .slice OA23 o22.length oc24), (24, .slice OA23 o22.length oc24)] 1 ?_
  refine ocQ 25 (Order_calls _ OA23 oc24 o22 T25 hx34 hR29 (map_all (P := (fun c : HCall => -9223372036854775808 ≤ c.op.amount ∧ c.op.amount ≤ 9223372036854775807)) hm32 (fun x hx => (hI x hx).2.1)) (by omega)) ?_
  rintro _ w41 ⟨o35, A36, c37, ok38, why39, rfl, K40, hR42, hE43⟩
  have hE44 : (o35, ok38, why39) = orderH (l.map HC.c) := by rw [← hm32]; exact hE43
  refine ⟨_, _, rfl, rfl, ?_⟩
  replace K0 := K0.t0 K40
  replace H4 := H4.kn K40
  replace H10 := H10.kn K40
  replace hx34 := (Rd.keep0 (by omega) hx34 K40)
  replace hR29 := (RowsE.keep hR29 K40 (fun _ _ h => h))
  refine odz 7 ?_
  refine qsg ?_
  refine og 1 [(0, .slice LA l.length lc), (4, ptr b1), (5, ptr b7), (6, .bool false), (7, .slice OA23 o22.length oc24), (8, .slice A36 o35.length c37), (9, .bool ok38), (10, i64 why39), (30, .slice LA l.length lc)] 1 ?_
  refine ocQ 31 (ROrder_calls _ LA lc l (fun i => i < w.heap.size) (Rd.keep0 (by decide) hL K0) (RowsE.keep (rowsE_in hLi) K0 (fun _ _ h => h)) (fun x hx => (hI x hx).2.1) hl40) ?_
  rintro _ w51 ⟨o45, A46, c47, ok48, why49, rfl, K50, hR52, hE53⟩
  obtain ⟨hq55, e54⟩ := Prod.mk.inj (hE44.trans hE53.symm)
  subst hq55
  obtain ⟨rfl, rfl⟩ := Prod.mk.inj e54
  refine ⟨_, _, rfl, rfl, ?_⟩
  replace K0 := K0.t0 K50
  replace H4 := H4.kn K50
  replace H10 := H10.kn K50
  replace hx34 := (Rd.keep0 (by omega) hx34 K50)
  replace hR29 := (RowsE.keep hR29 K50 (fun _ _ h => h))
  replace hR42 := (Rd.keep0 (by omega) hR42 K50)
  refine odz 7 ?_
  refine qsg ?_
  refine og 1 [(0, .slice LA l.length lc), (4, ptr b1), (5, ptr b7), (6, .bool false), (7, .slice OA23 o22.length oc24), (8, .slice A36 o35.length c37), (9, .bool ok38), (10, i64 why39), (11, .slice A46 o35.length c47), (12, .bool ok38), (13, i64 why39), (36, .slice OA23 o22.length oc24)] 1 ?_
  refine ocQ 37 (Linear_calls _ OA23 oc24 o22 T25 hx34 hR29 (map_all (P := (fun c : HCall => -9223372036854775808 ≤ c.op.amount ∧ c.op.amount ≤ 9223372036854775807)) hm32 (fun x hx => (hI x hx).2.1)) (by omega)) ?_
  rintro _ w59 ⟨ok56, why57, rfl, K58, hE60⟩
  have e61 := Prod.mk.inj ((show (ok38, why39) = (orderH (o22.map HC.c)).2 from by rw [hm32, ← hE44]).trans hE60.symm)
  obtain ⟨rfl, rfl⟩ := e61
  refine ⟨_, _, rfl, rfl, ?_⟩
  replace K0 := K0.t0 K58
  replace H4 := H4.kn K58
  replace H10 := H10.kn K58
  replace hx34 := (Rd.keep0 (by omega) hx34 K58)
  replace hR29 := (RowsE.keep hR29 K58 (fun _ _ h => h))
  replace hR42 := (Rd.keep0 (by omega) hR42 K58)
  replace hR52 := (Rd.keep0 (by omega) hR52 K58)
  refine ogd 5 [(0, .slice LA l.length lc), (4, ptr b1), (5, ptr b7), (6, .bool false), (7, .slice OA23 o22.length oc24), (8, .slice A36 o35.length c37), (9, .bool ok38), (10, i64 why39), (11, .slice A46 o35.length c47), (12, .bool ok38), (13, i64 why39), (14, .bool ok38), (15, i64 why39)] ?_
  refine qsg ?_
  refine ogo (agg (HC.cells xa)) 40 (rld 30 b1 0 H4) rfl ?_
  refine ogo (agg (HC.cells xb)) 41 (rld 30 b7 0 H10) rfl ?_
  refine onew (rowL [(i64 xa.c.op.kind), (Value.string (str xa.c.op.frm)), (Value.string (str xa.c.op.to)), (i64 xa.c.op.amount), (Value.string (str xa.c.op.key)), (i64 xa.c.op.slot), (i64 xa.c.op.shard), (i64 xa.c.bg), (i64 xa.c.en), (Value.bool xa.c.told), (i64 xa.c.rep.why), (i64 xa.c.rep.amount), (Value.slice xa.A xa.c.rep.rows.length xa.k), (i64 xb.c.op.kind), (Value.string (str xb.c.op.frm)), (Value.string (str xb.c.op.to)), (i64 xb.c.op.amount), (Value.string (str xb.c.op.key)), (i64 xb.c.op.slot), (i64 xb.c.op.shard), (i64 xb.c.bg), (i64 xb.c.en), (Value.bool xb.c.told), (i64 xb.c.rep.why), (i64 xb.c.rep.amount), (Value.slice xb.A xb.c.rep.rows.length xb.k)] 30) (fun b => (Value.slice (some ⟨b, 0, none⟩) 2 2)) 42 (fun b => rfl) (fun b62 w63 hb64 H65 K66 hs67 => ?_)
  have lb62b1 : b1 < b62 := by have := H4.lt; omega
  have lb62b7 : b7 < b62 := by have := H10.lt; omega
  have nb62 : w.heap.size ≤ b62 := by have := K0.size; omega
  replace K0 := K0.t0 K66
  replace H4 := H4.kn K66
  replace H10 := H10.kn K66
  replace hx34 := (Rd.keep0 (by omega) hx34 K66)
  replace hR29 := (RowsE.keep hR29 K66 (fun _ _ h => h))
  replace hR42 := (Rd.keep0 (by omega) hR42 K66)
  replace hR52 := (Rd.keep0 (by omega) hR52 K66)
  clear K66 hs67
  refine ocQ 43 (given_calls _ (some ⟨b62, 0, none⟩) 2 [xa, xb] (show RdT _ 13 HC.cells _ [xa, xb] from Rd.lit H65 (n := 2) rfl (by decide)) (fun x hx => (hAB x hx).1.keep K0) (by show 2 ≤ 2000; decide)) ?_
  rintro _ w73 ⟨o68, OA69, oc70, T71, rfl, K72, hO74, hR75, h76, h77, hm78⟩
  refine ⟨_, _, rfl, rfl, ?_⟩
  replace K0 := K0.t0 K72
  replace H4 := H4.kn K72
  replace H10 := H10.kn K72
  replace hx34 := (Rd.keep0 (by omega) hx34 K72)
  replace hR29 := (RowsE.keep hR29 K72 (fun _ _ h => h))
  replace hR42 := (Rd.keep0 (by omega) hR42 K72)
  replace hR52 := (Rd.keep0 (by omega) hR52 K72)
  have hx80 := OwnT.rd hO74
  have hz79 : o68.length = [xa, xb].length := by have := congrArg List.length hm78; simpa only [List.length_map] using this
  refine odz 1 ?_
  refine qs ?_
  refine qsg ?_
  refine ogd 1 [(0, .slice LA l.length lc), (4, ptr b1), (5, ptr b7), (6, .bool false), (7, .slice OA23 o22.length oc24), (8, .slice A36 o35.length c37), (9, .bool ok38), (10, i64 why39), (11, .slice A46 o35.length c47), (12, .bool ok38), (13, i64 why39), (14, .bool ok38), (15, i64 why39), (16, .slice OA69 o68.length oc70), (17, i64 0)] ?_
  refine q_block (id := 0) (by kernel_rfl) ?_
  have hXR9 := hR42
  have hYR9 := hR52
  have hOR9 := hx34
  have hORE9 := hR29
  have hDR9 := hx80
  have hmg9 := hm32
  obtain ⟨u, v, hu, hv, hua, hvb⟩ := map_two hm78
  have hD2 : o68.length = 2 := hz79
  have hWw : w.heap.size ≤ w73.heap.size := K0.size
  have hcx : Keeps none_ w73 w73 := Keeps.refl _
  refine q_keep (R := [(0, .slice LA l.length lc), (4, ptr b1), (5, ptr b7), (7, .slice OA23 o22.length oc24), (8, .slice A36 o35.length c37), (9, .bool ok38), (10, i64 why39), (11, .slice A46 o35.length c47), (12, .bool ok38), (13, i64 why39), (14, .bool ok38), (15, i64 why39), (16, .slice OA69 o68.length oc70), (17, i64 0)]) (by kernel_rfl) ?_
  refine q_loop (fun (ii : Nat) L (wx : World) => L = [(0, (Value.slice LA l.length lc)), (4, (ptr b1)), (5, (ptr b7)), (7, (Value.slice OA23 o22.length oc24)), (8, (Value.slice A36 o35.length c37)), (9, (Value.bool ok38)), (10, (i64 why39)), (11, (Value.slice A46 o35.length c47)), (12, (Value.bool ok38)), (13, (i64 why39)), (14, (Value.bool ok38)), (15, (i64 why39)), (16, (Value.slice OA69 o68.length oc70)), (17, (i64 ((ii : Nat) : Int)))] ∧ Keeps none_ w73 wx ∧ ii ≤ l.length ∧ Keeps none_ w wx ∧ Has wx b1 (rowL (HC.cells xa) 30) ∧ Has wx b7 (rowL (HC.cells xb) 30)) (fun (ii : Nat) => l.length - ii) 0 (by kernel_rfl) ⟨rfl, hcx, Nat.zero_le _, K0, H4, H10⟩ ?_
  clear H4 H10 hcx K0
  rintro ii _ w81 ⟨rfl, hcx, hi, K82, H83, H84⟩
  refine qs ?_
  refine qsg ?_
  refine ogd 4 [(0, .slice LA l.length lc), (4, ptr b1), (5, ptr b7), (7, .slice OA23 o22.length oc24), (8, .slice A36 o35.length c37), (9, .bool ok38), (10, i64 why39), (11, .slice A46 o35.length c47), (12, .bool ok38), (13, i64 why39), (14, .bool ok38), (15, i64 why39), (16, .slice OA69 o68.length oc70), (17, i64 ↑ii), (47, (Value.bool (decide (((ii : Nat) : Int) < ((l.length : Nat) : Int)))))] ?_
  refine qcQ 47 (decide (((ii : Nat) : Int) < ((l.length : Nat) : Int))) rfl (fun h85 => ?_) (fun h85 => ?_)
  ·rw [h85]
   have p86 := of_decide_eq_true h85
   refine qkQ ?_
   refine qs ?_
   refine q_block (id := 1) (by kernel_rfl) ?_
   refine qs ?_
   refine q_drawS 11 (by kernel_rfl) (by kernel_rfl) (by kernel_rfl) (fun w87 K88 _ _ => ?_)
   replace K82 := K82.tn K88
   replace H83 := H83.kn K88
   replace H84 := H84.kn K88
   replace hcx := hcx.trans K88 (fun _ _ h => h) (fun _ _ h => h)
   have Kb89 : Keeps none_ w87 w87 := Keeps.refl w87
   refine ⟨fun wz => Keeps none_ w87 wz, [], (SH.nil Kb89), ?_⟩
   obtain ⟨z, hz⟩ : ∃ z, o22[ii]? = some z := ⟨_, List.getElem?_eq_getElem (by omega)⟩
   have hzr : RdR w87 (Value.slice z.A z.c.rep.rows.length z.k) z.c.rep.rows := Rd.keep0 (by decide) (hORE9.1 z (List.mem_of_getElem? hz)) hcx
   obtain ⟨rb90, ro91, hA92⟩ := Rd.addr (Rd.keep0 (by decide) hOR9 hcx) (by omega)
   refine skQ 9 [0, 1] [(0, .slice LA l.length lc), (4, ptr b1), (5, ptr b7), (7, .slice OA23 o22.length oc24), (8, .slice A36 o35.length c37), (9, .bool ok38), (10, i64 why39), (11, .slice A46 o35.length c47), (12, .bool ok38), (13, i64 why39), (14, .bool ok38), (15, i64 why39), (16, .slice OA69 o68.length oc70), (17, i64 ↑ii), (50, .slice OA23 o22.length oc24), (51, i64 ↑ii)] ?_
   refine stQ 2 (Value.pointer (some ⟨rb90, ro91 + ii * 13, none⟩)) 52 (fun wz hS => Runs.ixSliceE (k := IntKind.i64) (t := 33) (len := o22.length) (cap := oc24) (s := 13) (off' := ro91 + ii * 13) (i := ((ii : Nat) : Int)) hA92 (by kernel_rfl) (by kernel_rfl) (by omega) (by omega) (by omega)) rfl ?_
   refine stQ 3 (agg (HC.cells z)) 53 (fun wz hS => Runs.load (t := 43) (a := ⟨rb90, ro91 + ii * 13, none⟩) (by kernel_rfl) (RdT.ld (f := HC.cells) (x := z) HC.two (Rd.keep0 (by decide) hOR9 (hcx.trans hS (fun _ _ h => h) (fun _ _ h => h))) (by kernel_rfl) (by kernel_rfl) hA92 hz)) rfl ?_
   obtain ⟨x, hx⟩ : ∃ x, l[ii]? = some x := ⟨_, List.getElem?_eq_getElem (by omega)⟩
   have hxi := hI x (List.mem_of_getElem? hx)
   have hzx : z.c = x.c := map_at hmg9 hz hx
   obtain ⟨rb93, ro94, hA95⟩ := Rd.addr (Rd.keep0 (by decide) hL K82) (by omega)
   refine skQ 5 [5, 6] [(0, .slice LA l.length lc), (4, ptr b1), (5, ptr b7), (7, .slice OA23 o22.length oc24), (8, .slice A36 o35.length c37), (9, .bool ok38), (10, i64 why39), (11, .slice A46 o35.length c47), (12, .bool ok38), (13, i64 why39), (14, .bool ok38), (15, i64 why39), (16, .slice OA69 o68.length oc70), (17, i64 ↑ii), (53, (agg (HC.cells z))), (55, .slice LA l.length lc), (56, i64 ↑ii)] ?_
   refine stQ 7 (Value.pointer (some ⟨rb93, ro94 + ii * 13, none⟩)) 57 (fun wz hS => Runs.ixSliceE (k := IntKind.i64) (t := 22) (len := l.length) (cap := lc) (s := 13) (off' := ro94 + ii * 13) (i := ((ii : Nat) : Int)) hA95 (by kernel_rfl) (by kernel_rfl) (by omega) (by omega) (by omega)) rfl ?_
   refine stQ 8 (agg (HC.cells x)) 58 (fun wz hS => Runs.load (t := 30) (a := ⟨rb93, ro94 + ii * 13, none⟩) (by kernel_rfl) (RdT.ld (f := HC.cells) (x := x) HC.two (Rd.keep0 (by decide) hL (K82.trans hS (fun _ _ h => h) (fun _ _ h => h))) (by kernel_rfl) (by kernel_rfl) hA95 hx)) rfl ?_
   refine soQ 4 ?_
   refine Dr1.call (by kernel_rfl) (d := (some 54)) (by kernel_rfl) (taken_calls _ z) ?_
   rintro _ w96 ⟨rfl, K97⟩
   replace K82 := K82.tn K97
   replace H83 := H83.kn K97
   replace H84 := H84.kn K97
   replace hcx := hcx.trans K97 (fun _ _ h => h) (fun _ _ h => h)
   replace hzr := (Rd.keep0 (by omega) hzr K97)
   have Kb98 := Kb89.tn K97
   refine ⟨_, _, rfl, rfl, (SH.nil Kb98), ?_⟩
   refine soQ 9 ?_
   refine Dr1.call (by kernel_rfl) (d := (some 59)) (by kernel_rfl) (SameC_calls _ z x hzr (Rd.keep0 (by omega) hxi.1.rows K82)) ?_
   rintro _ w101 ⟨t99, rfl, ht100, K102⟩
   replace K82 := K82.tn K102
   replace H83 := H83.kn K102
   replace H84 := H84.kn K102
   replace hcx := hcx.trans K102 (fun _ _ h => h) (fun _ _ h => h)
   have Kb103 := Kb98.tn K102
   refine ⟨_, _, rfl, rfl, (SH.nil Kb103), ?_⟩
   refine skQ 0 [10] [(0, .slice LA l.length lc), (4, ptr b1), (5, ptr b7), (7, .slice OA23 o22.length oc24), (8, .slice A36 o35.length c37), (9, .bool ok38), (10, i64 why39), (11, .slice A46 o35.length c47), (12, .bool ok38), (13, i64 why39), (14, .bool ok38), (15, i64 why39), (16, .slice OA69 o68.length oc70), (17, i64 ↑ii), (60, .bool (!t99))] ?_
   refine DrS.done (by kernel_rfl) ?_
   have h104 : (!t99) = false := by rw [show t99 = true from ht100.2 hzx]; rfl
   rw [h104]
   refine q_else (o := .tmp 60) (by kernel_rfl) rfl ?_
   refine qkQ ?_
   refine qg ?_
   refine oid 3 (fun z => [(0, .slice LA l.length lc), (4, ptr b1), (5, ptr b7), (7, .slice OA23 o22.length oc24), (8, .slice A36 o35.length c37), (9, .bool ok38), (10, i64 why39), (11, .slice A46 o35.length c47), (12, .bool ok38), (13, i64 why39), (14, .bool ok38), (15, i64 why39), (16, .slice OA69 o68.length oc70), (17, i64 z)]) ii ?_
   exact ⟨ii + 1, ⟨rfl, hcx, (by omega), K82, H83, H84⟩, (show l.length - (ii + 1) < l.length - ii from by omega)⟩
  ·rw [h85]
   have p106 := of_decide_eq_false h85
   refine q_exit (id := 0) (by kernel_rfl) ?_
   refine qs ?_
   have hXR913 := Rd.keep0 (by decide) hXR9 hcx
   have hYR913 := Rd.keep0 (by decide) hYR9 hcx
   refine q_drawS 40 (by kernel_rfl) (by kernel_rfl) (by kernel_rfl) (fun w107 K108 _ _ => ?_)
   replace K82 := K82.tn K108
   replace H83 := H83.kn K108
   replace H84 := H84.kn K108
   replace hcx := hcx.trans K108 (fun _ _ h => h) (fun _ _ h => h)
   replace hXR913 := (Rd.keep0 (by omega) hXR913 K108)
   replace hYR913 := (Rd.keep0 (by omega) hYR913 K108)
   have Kb109 : Keeps none_ w107 w107 := Keeps.refl w107
   have zb1 := H83.lt
   have zb7 := H84.lt
   refine ⟨fun wz => Keeps none_ w107 wz, [], (SH.nil Kb109), ?_⟩
   refine skQ 38 [0, 1] [(4, ptr b1), (5, ptr b7), (9, .bool ok38), (10, i64 why39), (12, .bool ok38), (13, i64 why39), (14, .bool ok38), (15, i64 why39), (16, .slice OA69 o68.length oc70), (61, .slice A36 o35.length c37), (62, .slice A46 o35.length c47)] ?_
   refine soQ 2 ?_
   refine Dr1.call (by kernel_rfl) (d := (some 63)) (by kernel_rfl) (sameN_calls _ A36 c37 o35 A46 c47 o35 hXR913 hYR913) ?_
   rintro _ w113 ⟨t110, rfl, ht111, K112⟩
   have Kb114 := Kb109.tn K112
   refine ⟨_, _, rfl, rfl, (SH.nil Kb114), ?_⟩
   refine skQ 36 [3] [(4, ptr b1), (5, ptr b7), (9, .bool ok38), (10, i64 why39), (12, .bool ok38), (13, i64 why39), (14, .bool ok38), (15, i64 why39), (16, .slice OA69 o68.length oc70), (64, .bool t110)] ?_
   have h115 : t110 = true := ht111.2 rfl
   rw [h115]
   refine skQ 34 [4, 5] [(4, ptr b1), (5, ptr b7), (10, i64 why39), (12, .bool ok38), (13, i64 why39), (14, .bool ok38), (15, i64 why39), (16, .slice OA69 o68.length oc70), (64, .bool true), (65, .bool ok38), (66, .bool ok38)] ?_
   refine DrS.split ok38 (fun h116 => ?_) (fun h116 => ?_)
   ·rw [h116]
    have p117 : ok38 = true := h116
    refine skQ 26 [6, 7, 8, 9, 10, 11, 12, 13] [(4, ptr b1), (5, ptr b7), (12, .bool true), (13, i64 why39), (14, .bool true), (15, i64 why39), (16, .slice OA69 o68.length oc70), (74, .bool (why39 == why39))] ?_
    have h118 : (why39 == why39) = true := by simp
    rw [h118]
    refine skQ 16 [14, 15, 16, 17, 18, 19, 20, 21, 22, 23] [(4, ptr b1), (5, ptr b7), (16, .slice OA69 o68.length oc70), (84, .bool (why39 == why39))] ?_
    rw [h118]
    obtain ⟨rb119, ro120, hA121⟩ := Rd.addr (Rd.keep0 (by decide) hDR9 hcx) (by omega)
    refine skQ 15 [24] [(4, ptr b1), (5, ptr b7), (16, .slice OA69 o68.length oc70), (84, .bool true), (85, .slice OA69 o68.length oc70)] ?_
    refine stQ 25 (Value.pointer (some ⟨rb119, ro120 + 0 * 13, none⟩)) 86 (fun wz hS => Runs.ixSliceE (k := IntKind.i64) (t := 33) (len := o68.length) (cap := oc70) (s := 13) (off' := ro120 + 0 * 13) (i := 0) hA121 (by kernel_rfl) (by kernel_rfl) (by omega) (by omega) (by omega)) rfl ?_
    refine stQ 26 (agg (HC.cells u)) 87 (fun wz hS => Runs.load (t := 43) (a := ⟨rb119, ro120 + 0 * 13, none⟩) (by kernel_rfl) (RdT.ld (f := HC.cells) (x := u) HC.two (Rd.keep0 (by decide) hDR9 (hcx.trans hS (fun _ _ h => h) (fun _ _ h => h))) (by kernel_rfl) (by kernel_rfl) hA121 hu)) rfl ?_
    obtain ⟨rb122, ro123, hA124⟩ := Rd.addr (Rd.keep0 (by decide) hDR9 hcx) (by omega)
    refine skQ 12 [27] [(4, ptr b1), (5, ptr b7), (84, .bool true), (87, (agg (HC.cells u))), (88, .slice OA69 o68.length oc70)] ?_
    refine stQ 28 (Value.pointer (some ⟨rb122, ro123 + 1 * 13, none⟩)) 89 (fun wz hS => Runs.ixSliceE (k := IntKind.i64) (t := 33) (len := o68.length) (cap := oc70) (s := 13) (off' := ro123 + 1 * 13) (i := 1) hA124 (by kernel_rfl) (by kernel_rfl) (by omega) (by omega) (by omega)) rfl ?_
    refine stQ 29 (agg (HC.cells v)) 90 (fun wz hS => Runs.load (t := 43) (a := ⟨rb122, ro123 + 1 * 13, none⟩) (by kernel_rfl) (RdT.ld (f := HC.cells) (x := v) HC.two (Rd.keep0 (by decide) hDR9 (hcx.trans hS (fun _ _ h => h) (fun _ _ h => h))) (by kernel_rfl) (by kernel_rfl) hA124 hv)) rfl ?_
    refine stQ 31 (agg (HC.cells xa)) 92 (fun wz hS => rld 30 b1 0 (H83.keep hS (fun h => h))) rfl ?_
    refine stQ 32 (agg (HC.cells xb)) 93 (fun wz hS => rld 30 b7 0 (H84.keep hS (fun h => h))) rfl ?_
    refine soQ 30 ?_
    refine Dr1.call (by kernel_rfl) (d := (some 91)) (by kernel_rfl) (AheadP_calls _ u v) ?_
    rintro _ w125 ⟨rfl, K126⟩
    have Kb127 := Kb114.tn K126
    refine ⟨_, _, rfl, rfl, (SH.nil Kb127), ?_⟩
    refine soQ 33 ?_
    refine Dr1.call (by kernel_rfl) (d := (some 94)) (by kernel_rfl) (AheadR_calls _ xa xb) ?_
    rintro _ w128 ⟨rfl, K129⟩
    have Kb130 := Kb127.tn K129
    refine ⟨_, _, rfl, rfl, (SH.nil Kb130), ?_⟩
    refine DrS.split (aheadH u.c v.c) (fun h131 => ?_) (fun h131 => ?_)
    ·rw [h131]
     have p132 : (aheadH u.c v.c) = true := h131
     have h133 : (aheadH xa.c xb.c) = true := by rw [← hua, ← hvb]; exact h131
     rw [h133]
     refine skQ 3 [34, 35, 36] [(97, .bool true)] ?_
     refine soQ 37 ?_
     refine Dr1.call (by kernel_rfl) (d := (some 98)) (by kernel_rfl) (known_calls _) ?_
     rintro _ w135 ⟨rfl, K134⟩
     have Kb136 := Kb130.tn K134
     refine ⟨_, _, rfl, rfl, (SH.nil Kb136), ?_⟩
     refine skQ 0 [38, 39] [(6, .bool true)] ?_
     refine DrS.done (by kernel_rfl) ?_
     replace K82 := K82.tn Kb136
     refine qtQ ?_
     refine ⟨(Value.bool true), retv_tmp rfl rfl, ?_⟩
     exact ⟨rfl, K82⟩
    ·rw [h131]
     have p137 : (aheadH u.c v.c) = false := h131
     have h138 : (aheadH xa.c xb.c) = false := by rw [← hua, ← hvb]; exact h131
     rw [h138]
     refine skQ 3 [34, 35, 36] [(97, .bool true)] ?_
     refine soQ 37 ?_
     refine Dr1.call (by kernel_rfl) (d := (some 98)) (by kernel_rfl) (known_calls _) ?_
     rintro _ w140 ⟨rfl, K139⟩
     have Kb141 := Kb130.tn K139
     refine ⟨_, _, rfl, rfl, (SH.nil Kb141), ?_⟩
     refine skQ 0 [38, 39] [(6, .bool true)] ?_
     refine DrS.done (by kernel_rfl) ?_
     replace K82 := K82.tn Kb141
     refine qtQ ?_
     refine ⟨(Value.bool true), retv_tmp rfl rfl, ?_⟩
     exact ⟨rfl, K82⟩
   ·rw [h116]
    have p142 : ok38 = false := h116
    refine skQ 26 [6, 7, 8, 9, 10, 11, 12, 13] [(4, ptr b1), (5, ptr b7), (12, .bool false), (13, i64 why39), (14, .bool false), (15, i64 why39), (16, .slice OA69 o68.length oc70), (74, .bool (why39 == why39))] ?_
    have h143 : (why39 == why39) = true := by simp
    rw [h143]
    refine skQ 16 [14, 15, 16, 17, 18, 19, 20, 21, 22, 23] [(4, ptr b1), (5, ptr b7), (16, .slice OA69 o68.length oc70), (84, .bool (why39 == why39))] ?_
    rw [h143]
    obtain ⟨rb144, ro145, hA146⟩ := Rd.addr (Rd.keep0 (by decide) hDR9 hcx) (by omega)
    refine skQ 15 [24] [(4, ptr b1), (5, ptr b7), (16, .slice OA69 o68.length oc70), (84, .bool true), (85, .slice OA69 o68.length oc70)] ?_
    refine stQ 25 (Value.pointer (some ⟨rb144, ro145 + 0 * 13, none⟩)) 86 (fun wz hS => Runs.ixSliceE (k := IntKind.i64) (t := 33) (len := o68.length) (cap := oc70) (s := 13) (off' := ro145 + 0 * 13) (i := 0) hA146 (by kernel_rfl) (by kernel_rfl) (by omega) (by omega) (by omega)) rfl ?_
    refine stQ 26 (agg (HC.cells u)) 87 (fun wz hS => Runs.load (t := 43) (a := ⟨rb144, ro145 + 0 * 13, none⟩) (by kernel_rfl) (RdT.ld (f := HC.cells) (x := u) HC.two (Rd.keep0 (by decide) hDR9 (hcx.trans hS (fun _ _ h => h) (fun _ _ h => h))) (by kernel_rfl) (by kernel_rfl) hA146 hu)) rfl ?_
    obtain ⟨rb147, ro148, hA149⟩ := Rd.addr (Rd.keep0 (by decide) hDR9 hcx) (by omega)
    refine skQ 12 [27] [(4, ptr b1), (5, ptr b7), (84, .bool true), (87, (agg (HC.cells u))), (88, .slice OA69 o68.length oc70)] ?_
    refine stQ 28 (Value.pointer (some ⟨rb147, ro148 + 1 * 13, none⟩)) 89 (fun wz hS => Runs.ixSliceE (k := IntKind.i64) (t := 33) (len := o68.length) (cap := oc70) (s := 13) (off' := ro148 + 1 * 13) (i := 1) hA149 (by kernel_rfl) (by kernel_rfl) (by omega) (by omega) (by omega)) rfl ?_
    refine stQ 29 (agg (HC.cells v)) 90 (fun wz hS => Runs.load (t := 43) (a := ⟨rb147, ro148 + 1 * 13, none⟩) (by kernel_rfl) (RdT.ld (f := HC.cells) (x := v) HC.two (Rd.keep0 (by decide) hDR9 (hcx.trans hS (fun _ _ h => h) (fun _ _ h => h))) (by kernel_rfl) (by kernel_rfl) hA149 hv)) rfl ?_
    refine stQ 31 (agg (HC.cells xa)) 92 (fun wz hS => rld 30 b1 0 (H83.keep hS (fun h => h))) rfl ?_
    refine stQ 32 (agg (HC.cells xb)) 93 (fun wz hS => rld 30 b7 0 (H84.keep hS (fun h => h))) rfl ?_
    refine soQ 30 ?_
    refine Dr1.call (by kernel_rfl) (d := (some 91)) (by kernel_rfl) (AheadP_calls _ u v) ?_
    rintro _ w150 ⟨rfl, K151⟩
    have Kb152 := Kb114.tn K151
    refine ⟨_, _, rfl, rfl, (SH.nil Kb152), ?_⟩
    refine soQ 33 ?_
    refine Dr1.call (by kernel_rfl) (d := (some 94)) (by kernel_rfl) (AheadR_calls _ xa xb) ?_
    rintro _ w153 ⟨rfl, K154⟩
    have Kb155 := Kb152.tn K154
    refine ⟨_, _, rfl, rfl, (SH.nil Kb155), ?_⟩
    refine DrS.split (aheadH u.c v.c) (fun h156 => ?_) (fun h156 => ?_)
    ·rw [h156]
     have p157 : (aheadH u.c v.c) = true := h156
     have h158 : (aheadH xa.c xb.c) = true := by rw [← hua, ← hvb]; exact h156
     rw [h158]
     refine skQ 3 [34, 35, 36] [(97, .bool true)] ?_
     refine soQ 37 ?_
     refine Dr1.call (by kernel_rfl) (d := (some 98)) (by kernel_rfl) (known_calls _) ?_
     rintro _ w160 ⟨rfl, K159⟩
     have Kb161 := Kb155.tn K159
     refine ⟨_, _, rfl, rfl, (SH.nil Kb161), ?_⟩
     refine skQ 0 [38, 39] [(6, .bool true)] ?_
     refine DrS.done (by kernel_rfl) ?_
     replace K82 := K82.tn Kb161
     refine qtQ ?_
     refine ⟨(Value.bool true), retv_tmp rfl rfl, ?_⟩
     exact ⟨rfl, K82⟩
    ·rw [h156]
     have p162 : (aheadH u.c v.c) = false := h156
     have h163 : (aheadH xa.c xb.c) = false := by rw [← hua, ← hvb]; exact h156
     rw [h163]
     refine skQ 3 [34, 35, 36] [(97, .bool true)] ?_
     refine soQ 37 ?_
     refine Dr1.call (by kernel_rfl) (d := (some 98)) (by kernel_rfl) (known_calls _) ?_
     rintro _ w165 ⟨rfl, K164⟩
     have Kb166 := Kb155.tn K164
     refine ⟨_, _, rfl, rfl, (SH.nil Kb166), ?_⟩
     refine skQ 0 [38, 39] [(6, .bool true)] ?_
     refine DrS.done (by kernel_rfl) ?_
     replace K82 := K82.tn Kb166
     refine qtQ ?_
     refine ⟨(Value.bool true), retv_tmp rfl rfl, ?_⟩
     exact ⟨rfl, K82⟩
end Go.Proofs.YtnbcghbgeiocbaaDoor
