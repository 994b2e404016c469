/- What the claim stands on, part 14: rules of the walk, contracts of the functions, plain laws. -/
import Derived.Test.YtnbcghbgeiocbaaDoorProg
import Derived.Test.YtnbcghbgeiocbaaDoorKHTurns13
import Derived.Test.YtnbcghbgeiocbaaDoorKHTurns6
import Derived.Test.YtnbcghbgeiocbaaDoorKHTurns10
set_option linter.unusedVariables false
namespace Go.Proofs.YtnbcghbgeiocbaaDoor
open Go.Q Go.RowKit

set_option maxHeartbeats 4000000 in
theorem next_walk (w : World) (ln m0 b2 b3 : Nat) (LA : Option Addr) (lc : Nat) (l : List HC) (AA : Option Addr) (ac : Nat) (a : List Nat) (OA : Option Addr) (oc : Nat) (o : List Nat) (d : Nat) (lf : Int) (b mb kb : Nat) (m : List (List UInt8 × Int)) (S : List RowM) (K : List KeptM) (T G : Nat → Prop) (J : Nat → World → Prop) (Hx2 : Has w b2 (rowL [(Value.slice LA l.length lc), (Value.slice AA a.length ac)] 68)) (Hx3 : Has w b3 (rowL [(Value.slice OA o.length oc), (Value.int IntKind.u64 ((d : Nat) : Int)), (i64 lf), (ptr b)] 73)) (Hb : Has w b (rowL [.map (some mb), .map (some kb)] 110)) (Hm : HasMap w mb kstr ki64 m) (Hk : HasMap w kb kpair keptv (K.map KeptM.kv)) (hne : b ≠ mb ∧ b ≠ kb ∧ mb ≠ kb) (hB : LBook m S K) (hbs : b2 ≠ b3 ∧ b ≠ b2 ∧ b ≠ b3) (hRL : RdT w 13 HC.cells (Value.slice LA l.length lc) l) (hRA : RdT w 1 iN (Value.slice AA a.length ac) a) (hal : a.length = l.length) (hRO : RdT w 1 iN (Value.slice OA o.length oc) o) (hG : RowsE w HC.rv HC.rows G l) (ho : ∀ x ∈ l, -9223372036854775808 ≤ x.c.op.amount ∧ x.c.op.amount ≤ 9223372036854775807) (hT0 : ∀ i, T i → i ≠ b2 ∧ i ≠ b3 ∧ i ≠ b ∧ i ≠ mb ∧ i ≠ kb) (hF : ∀ i, (((Value.slice LA l.length lc)).ownBlock = some i ∨ ((Value.slice AA a.length ac)).ownBlock = some i ∨ ((Value.slice OA o.length oc)).ownBlock = some i ∨ G i) → i < w.heap.size ∧ ¬ T i) (h8 : l.length ≤ 8) (hok : SrOk (XS l a) (⟨o, d, lf, (S, K)⟩ : Sr LS_)) (hJ : ∀ k W W', J k W → Keeps none_ W W' → J k W') (hY : ∀ k v Wp W1, J k Wp → Keeps none_ Wp W1 → w.heap.size ≤ Wp.heap.size → k < ((probH (XS l a)).nexts (⟨o, d, lf, (S, K)⟩ : Sr LS_)).length → nextA 110 (XS l a) (⟨o, d, lf, (S, K)⟩ : Sr LS_) Wp.heap.size k v W1 → YieldAt Fence.wide m0 Tryd.prog ln #[v] W1 fun e W' => e = .returned (.bool true) ∧ J (k + 1) W' ∧ Keeps T W1 W') (h0 : J 0 w) : Calls Tryd.prog 47 ⟨[(Value.func (Fn.yield ln) #[] #[]), (ptr b2), (ptr b3)]⟩ w (fun e w' => (∃ v, e = .returned v) ∧ J ((probH (XS l a)).nexts (⟨o, d, lf, (S, K)⟩ : Sr LS_)).length w') := by
 have Hbl := Hb.lt
 have Hml := Hm.lt
 have Hkl := Hk.lt
 have hL := hB.lmap
 have Hx2l := Hx2.lt
 have Hx3l := Hx3.lt
 have hTb : ∀ i, T i → i ≠ b := fun i h => by have := hT0 i h; omega
 have hTmb : ∀ i, T i → i ≠ mb := fun i h => by have := hT0 i h; omega
 have hTkb : ∀ i, T i → i ≠ kb := fun i h => by have := hT0 i h; omega
 have hTb2 : ∀ i, T i → i ≠ b2 := fun i h => by have := hT0 i h; omega
 have hTb3 : ∀ i, T i → i ≠ b3 := fun i h => by have := hT0 i h; omega
 have hFL : ∀ i, ((Value.slice LA l.length lc)).ownBlock = some i → i < w.heap.size ∧ ¬ T i := fun i h => hF i (.inl h)
 have hFA : ∀ i, ((Value.slice AA a.length ac)).ownBlock = some i → i < w.heap.size ∧ ¬ T i := fun i h => hF i (.inr (.inl h))
 have hFO : ∀ i, ((Value.slice OA o.length oc)).ownBlock = some i → i < w.heap.size ∧ ¬ T i := fun i h => hF i (.inr (.inr (.inl h)))
 have hFG : ∀ i, G i → i < w.heap.size ∧ ¬ T i := fun i h => hF i (.inr (.inr (.inr h)))
 have hFL1 : ∀ i, ((Value.slice LA l.length lc)).ownBlock = some i → i < w.heap.size := fun i h => (hFL i h).1
 have hFA1 : ∀ i, ((Value.slice AA a.length ac)).ownBlock = some i → i < w.heap.size := fun i h => (hFA i h).1
 have hFO1 : ∀ i, ((Value.slice OA o.length oc)).ownBlock = some i → i < w.heap.size := fun i h => (hFO i h).1
 have hlen := hok.len
 rw [xs_len hal] at hlen
 simp only at hlen
 have hd64 : d < 18446744073709551616 := hok.d64 (by rw [xs_len hal]; exact h8)
 have hSle := hB.ledg.le
 have K0 : Keeps (fun i => T i) w w := (Keeps.refl w).mono (fun _ _ h => h.elim)
 refine qr_calls (m0 + 1) Tryd.func47 (by kernel_rfl) (by kernel_rfl) ?_
 refine qr_scope (by kernel_rfl) ?_
 refine qr_seq (by kernel_rfl) ?_
 refine qr_label (by kernel_rfl) ?_
 refine qr_seq (by kernel_rfl) ?_
 refine qr_region Open.wide (by kernel_rfl) (by kernel_rfl) ?_
 refine og 1 [(0, (Value.func (Fn.yield ln) #[] #[])), (1, (ptr b2)), (2, (ptr b3)), (11, (ptr b2))] 1 ?_
 refine Ops.go (v := (Value.slice LA l.length lc)) (by kernel_rfl) (Runs.load (t := 33) (a := ⟨b2, 0, none⟩) (by kernel_rfl) (Hx2.loads (by kernel_rfl))) (d := (some 12)) (by kernel_rfl) rfl ?_
 refine og 2 [(0, (Value.func (Fn.yield ln) #[] #[])), (1, (ptr b2)), (2, (ptr b3)), (12, (Value.slice LA l.length lc)), (13, (i64 ((l.length : Nat) : Int))), (14, (i64 0))] 4 ?_
 refine od ?_
 refine qr_block (id := 0) (by kernel_rfl) ?_
 refine qr_keep (R := [(0, (Value.func (Fn.yield ln) #[] #[])), (1, (ptr b2)), (2, (ptr b3)), (12, (Value.slice LA l.length lc)), (13, (i64 ((l.length : Nat) : Int))), (14, (i64 0))]) (by kernel_rfl) ?_
 refine qr_loop (fun (i : Nat) (ds : List Deferred) L (wx : World) => ds = [] ∧ L = [(0, (Value.func (Fn.yield ln) #[] #[])), (1, (ptr b2)), (2, (ptr b3)), (12, (Value.slice LA l.length lc)), (13, (i64 ((l.length : Nat) : Int))), (14, (i64 ((i : Nat) : Int)))] ∧ J ((probH (XS l a)).nth (⟨o, d, lf, (S, K)⟩ : Sr LS_) i) wx ∧ i ≤ l.length ∧ Keeps (fun i => T i) w wx ∧ Has wx b (rowL [(Value.map (some mb)), (Value.map (some kb))] 110) ∧ HasMap wx mb kstr ki64 m ∧ HasMap wx kb kpair keptv (K.map KeptM.kv) ∧ Has wx b2 (rowL [(Value.slice LA l.length lc), (Value.slice AA a.length ac)] 68) ∧ Has wx b3 (rowL [(Value.slice OA o.length oc), (Value.int IntKind.u64 ((d : Nat) : Int)), (i64 lf), (ptr b)] 73)) (fun (i : Nat) => l.length - i) 0 (by kernel_rfl) ⟨rfl, rfl, h0, Nat.zero_le _, K0, Hb, Hm, Hk, Hx2, Hx3⟩ ?_
 clear Hb Hm Hk Hx2 Hx3 K0
 rintro i _ _ w1 ⟨rfl, rfl, hj, hi, K2, H3, H4, H5, H6, H7⟩
 have hR8 := Rd.keep (by decide) hRL K2 (fun i hi => (hFL i hi).2)
 have hR9 := Rd.keep (by decide) hRA K2 (fun i hi => (hFA i hi).2)
 have hR10 := Rd.keep (by decide) hRO K2 (fun i hi => (hFO i hi).2)
 have hcx : Keeps none_ w1 w1 := Keeps.refl _
 have hWw : w.heap.size ≤ w1.heap.size := K2.size
 refine qr_seq (by kernel_rfl) ?_
 refine qr_region Open.wide (by kernel_rfl) (by kernel_rfl) ?_
 refine og 1 [(0, (Value.func (Fn.yield ln) #[] #[])), (1, (ptr b2)), (2, (ptr b3)), (12, (Value.slice LA l.length lc)), (13, (i64 ((l.length : Nat) : Int))), (14, (i64 ((i : Nat) : Int))), (15, (Value.bool (decide (((i : Nat) : Int) < ((l.length : Nat) : Int)))))] 1 ?_
 refine od ?_
 refine qr_seq (by kernel_rfl) ?_
 refine qr_cond (o := .tmp 15) (b := (decide (((i : Nat) : Int) < ((l.length : Nat) : Int)))) (by kernel_rfl) rfl (fun h11 => ?_) (fun h11 => ?_)
 ·rw [h11]
  have p12 : ((i : Nat) : Int) < ((l.length : Nat) : Int) := of_decide_eq_true h11
  refine qr_skip (by kernel_rfl) ?_
  refine qr_seq (by kernel_rfl) ?_
  refine qr_block (id := 1) (by kernel_rfl) ?_
  refine qr_seq (by kernel_rfl) ?_
  refine qr_region Open.wide (by kernel_rfl) (by kernel_rfl) ?_
  refine og 1 [(0, (Value.func (Fn.yield ln) #[] #[])), (1, (ptr b2)), (2, (ptr b3)), (12, (Value.slice LA l.length lc)), (13, (i64 ((l.length : Nat) : Int))), (14, (i64 ((i : Nat) : Int))), (16, (i64 ((i : Nat) : Int)))] 1 ?_
  obtain ⟨x, hx⟩ : ∃ x, l[i]? = some x := ⟨_, List.getElem?_eq_getElem (by omega)⟩
  obtain ⟨rb13, ro14, hA15⟩ := Rd.addr hR8 (by omega)
  refine Ops.go (by kernel_rfl) (Runs.ixSliceE (k := IntKind.i64) (t := 33) (len := l.length) (cap := lc) (s := 13) (off' := ro14 + i * 13) (i := ((i : Nat) : Int)) hA15 (by kernel_rfl) (by kernel_rfl) (by omega) (by omega) (by omega)) (d := (some 17)) (by kernel_rfl) rfl ?_
  refine Ops.go (v := (agg [(i64 x.c.op.kind), (Value.string (str x.c.op.frm)), (Value.string (str x.c.op.to)), (i64 x.c.op.amount), (Value.string (str x.c.op.key)), (i64 x.c.op.slot), (i64 x.c.op.shard), (i64 x.c.bg), (i64 x.c.en), (Value.bool x.c.told), (i64 x.c.rep.why), (i64 x.c.rep.amount), (Value.slice x.A x.c.rep.rows.length x.k)])) (by kernel_rfl) (Runs.load (t := 43) (a := ⟨rb13, ro14 + i * 13, none⟩) (by kernel_rfl) (RdT.ld (f := HC.cells) (x := x) HC.two hR8 (by kernel_rfl) (by kernel_rfl) hA15 hx)) (d := (some 18)) (by kernel_rfl) rfl ?_
  refine Ops.new (o := rowL [(i64 0), (Value.string ByteArray.empty), (Value.string ByteArray.empty), (i64 0), (Value.string ByteArray.empty), (i64 0), (i64 0), (i64 0), (i64 0), (Value.bool false), (i64 0), (i64 0), (Value.slice none 0 0)] 43) (V := fun b => (ptr b)) (by kernel_rfl) (d := (some 5)) (by kernel_rfl) (fun b => rfl) (fun b16 w17 hb18 H19 K20 hs21 => ?_)
  have lb16b : b < b16 := by have := H3.lt; omega
  have lb16mb : mb < b16 := by have := H4.lt; omega
  have lb16kb : kb < b16 := by have := H5.lt; omega
  have lb16b2 : b2 < b16 := by have := H6.lt; omega
  have lb16b3 : b3 < b16 := by have := H7.lt; omega
  have nb16 : w.heap.size ≤ b16 := by have := K2.size; omega
  have ox22 : w1.heap.size ≤ b16 := by have := hcx.size; omega
  replace K2 := K2.tn K20
  replace H3 := H3.keep K20 (fun h => h)
  replace H4 := H4.keep K20 (fun h => h)
  replace H5 := H5.keep K20 (fun h => h)
  replace H6 := H6.keep K20 (fun h => h)
  replace H7 := H7.keep K20 (fun h => h)
  replace hcx := hcx.trans K20 (fun _ _ h => h) (fun _ _ h => h)
  replace hR8 := (Rd.keep0 (by decide) hR8 K20)
  replace hR9 := (Rd.keep0 (by decide) hR9 K20)
  replace hR10 := (Rd.keep0 (by decide) hR10 K20)
  clear K20 hs21
  refine og 1 [(0, (Value.func (Fn.yield ln) #[] #[])), (1, (ptr b2)), (2, (ptr b3)), (4, (i64 ((i : Nat) : Int))), (5, (ptr b16)), (12, (Value.slice LA l.length lc)), (13, (i64 ((l.length : Nat) : Int))), (14, (i64 ((i : Nat) : Int))), (18, (agg [(i64 x.c.op.kind), (Value.string (str x.c.op.frm)), (Value.string (str x.c.op.to)), (i64 x.c.op.amount), (Value.string (str x.c.op.key)), (i64 x.c.op.slot), (i64 x.c.op.shard), (i64 x.c.bg), (i64 x.c.en), (Value.bool x.c.told), (i64 x.c.rep.why), (i64 x.c.rep.amount), (Value.slice x.A x.c.rep.rows.length x.k)]))] 5 ?_
  refine Ops.put (t := 43) (b := b16) (off := 0) (v := (agg [(i64 x.c.op.kind), (Value.string (str x.c.op.frm)), (Value.string (str x.c.op.to)), (i64 x.c.op.amount), (Value.string (str x.c.op.key)), (i64 x.c.op.slot), (i64 x.c.op.shard), (i64 x.c.bg), (i64 x.c.en), (Value.bool x.c.told), (i64 x.c.rep.why), (i64 x.c.rep.amount), (Value.slice x.A x.c.rep.rows.length x.k)])) (ys := [(i64 x.c.op.kind), (Value.string (str x.c.op.frm)), (Value.string (str x.c.op.to)), (i64 x.c.op.amount), (Value.string (str x.c.op.key)), (i64 x.c.op.slot), (i64 x.c.op.shard), (i64 x.c.bg), (i64 x.c.en), (Value.bool x.c.told), (i64 x.c.rep.why), (i64 x.c.rep.amount), (Value.slice x.A x.c.rep.rows.length x.k)]) (by kernel_rfl) (by kernel_rfl) H19 (by kernel_rfl) (d := none) (by kernel_rfl) rfl (fun w23 H24 K25 => ?_)
  clear H19
  replace K2 := K2.trans K25 (U := (fun i => T i)) (fun i h1 h2 => h2) (fun i h1 h2 => by have h2 : i = b16 := h2; exfalso; omega)
  replace H3 := H3.k1 K25 (by omega)
  replace H4 := H4.k1 K25 (by omega)
  replace H5 := H5.k1 K25 (by omega)
  replace H6 := H6.k1 K25 (by omega)
  replace H7 := H7.k1 K25 (by omega)
  replace hcx := Keeps.trans hcx K25 (U := none_) (fun _ _ h => h) (fun i hi hs => by have hs : i = b16 := hs; exfalso; have := ox22; omega)
  replace hR8 := (Rd.keep (by decide) hR8 K25 (fun i hi hs => by have hs : i = b16 := hs; have := hFL1 i hi; omega))
  replace hR9 := (Rd.keep (by decide) hR9 K25 (fun i hi hs => by have hs : i = b16 := hs; have := hFA1 i hi; omega))
  replace hR10 := (Rd.keep (by decide) hR10 K25 (fun i hi hs => by have hs : i = b16 := hs; have := hFO1 i hi; omega))
  clear K25
  refine od ?_
  refine qr_seq (by kernel_rfl) ?_
  refine qr_seq (by kernel_rfl) ?_
  refine qr_region Open.wide (by kernel_rfl) (by kernel_rfl) ?_
  refine og 1 [(0, (Value.func (Fn.yield ln) #[] #[])), (1, (ptr b2)), (2, (ptr b3)), (4, (i64 ((i : Nat) : Int))), (5, (ptr b16)), (12, (Value.slice LA l.length lc)), (13, (i64 ((l.length : Nat) : Int))), (14, (i64 ((i : Nat) : Int))), (19, (Value.pointer (some ⟨b3, 1, none⟩)))] 1 ?_
  refine Ops.go (v := (Value.int IntKind.u64 ((d : Nat) : Int))) (by kernel_rfl) (Runs.load (t := 71) (a := ⟨b3, 1, none⟩) (by kernel_rfl) (H7.loads (by kernel_rfl))) (d := (some 20)) (by kernel_rfl) rfl ?_
  refine og 1 [(0, (Value.func (Fn.yield ln) #[] #[])), (1, (ptr b2)), (2, (ptr b3)), (4, (i64 ((i : Nat) : Int))), (5, (ptr b16)), (12, (Value.slice LA l.length lc)), (13, (i64 ((l.length : Nat) : Int))), (14, (i64 ((i : Nat) : Int))), (20, (Value.int IntKind.u64 ((d : Nat) : Int))), (21, (i64 ((i : Nat) : Int)))] 3 ?_
  refine Ops.go (v := (Value.int IntKind.u64 ((d / 2 ^ i : Nat) : Int))) (by kernel_rfl) (Runs.int (op := .shr) (t := 71) (by kernel_rfl) (run_shrN (k := IntKind.i64) (i := i) (s := ((i : Nat) : Int)) rfl (by omega))) (d := (some 22)) (by kernel_rfl) rfl ?_
  refine Ops.go (v := (Value.int IntKind.u64 (((d / 2 ^ i) % 2 : Nat) : Int))) (by kernel_rfl) (Runs.int (op := .and) (t := 71) (by kernel_rfl) (run_and1 (div_lt64 (by omega)))) (d := (some 23)) (by kernel_rfl) rfl ?_
  refine og 1 [(0, (Value.func (Fn.yield ln) #[] #[])), (1, (ptr b2)), (2, (ptr b3)), (4, (i64 ((i : Nat) : Int))), (5, (ptr b16)), (12, (Value.slice LA l.length lc)), (13, (i64 ((l.length : Nat) : Int))), (14, (i64 ((i : Nat) : Int))), (24, (Value.bool ((((d / 2 ^ i) % 2 : Nat) : Int) == 1)))] 6 ?_
  refine od ?_
  refine qr_cond (o := .tmp 24) (b := ((((d / 2 ^ i) % 2 : Nat) : Int) == 1)) (by kernel_rfl) rfl (fun h26 => ?_) (fun h26 => ?_)
  ·rw [h26]
   have p27 : (((d / 2 ^ i) % 2 : Nat) : Int) = 1 := of_beq_t h26
   have hbit : d.testBit i = true := bit_one.1 (by omega)
   refine qr_exit (id := 1) (by kernel_rfl) ?_
   refine qr_region Open.wide (by kernel_rfl) (by kernel_rfl) ?_
   refine og 1 [(0, (Value.func (Fn.yield ln) #[] #[])), (1, (ptr b2)), (2, (ptr b3)), (12, (Value.slice LA l.length lc)), (13, (i64 ((l.length : Nat) : Int))), (14, (i64 ((i : Nat) : Int))), (95, (i64 (IntKind.i64.wrap (((i : Nat) : Int) + 1))))] 1 ?_
   have e28 : IntKind.i64.wrap (((i : Nat) : Int) + 1) = ((i + 1 : Nat) : Int) := by rw [wrap_i64 (by omega) (by omega)]; omega
   rw [e28]
   clear e28
   refine og 1 [(0, (Value.func (Fn.yield ln) #[] #[])), (1, (ptr b2)), (2, (ptr b3)), (12, (Value.slice LA l.length lc)), (13, (i64 ((l.length : Nat) : Int))), (14, (i64 ((i + 1 : Nat) : Int)))] 2 ?_
   refine Ops.keep (R := [(0, (Value.func (Fn.yield ln) #[] #[])), (1, (ptr b2)), (2, (ptr b3)), (12, (Value.slice LA l.length lc)), (13, (i64 ((l.length : Nat) : Int))), (14, (i64 ((i + 1 : Nat) : Int)))]) (by kernel_rfl) ?_
   refine od ?_
   exact ⟨i + 1, ⟨rfl, rfl, (by rw [Prob.nth_none (one_done hbit)]; exact hJ _ _ _ hj hcx), (by omega), K2, H3, H4, H5, H6, H7⟩, (show l.length - (i + 1) < l.length - i from by omega)⟩
  ·rw [h26]
   have p29 : ¬ ((((d / 2 ^ i) % 2 : Nat) : Int) = 1) := of_beq_f h26
   have hbit : d.testBit i = false := bit_zero.1 (by omega)
   refine qr_skip (by kernel_rfl) ?_
   refine qr_seq (by kernel_rfl) ?_
   refine qr_seq (by kernel_rfl) ?_
   refine qr_region Open.wide (by kernel_rfl) (by kernel_rfl) ?_
   refine og 1 [(0, (Value.func (Fn.yield ln) #[] #[])), (1, (ptr b2)), (2, (ptr b3)), (4, (i64 ((i : Nat) : Int))), (5, (ptr b16)), (12, (Value.slice LA l.length lc)), (13, (i64 ((l.length : Nat) : Int))), (14, (i64 ((i : Nat) : Int))), (25, (ptr b2))] 1 ?_
   refine Ops.go (v := (Value.slice LA l.length lc)) (by kernel_rfl) (Runs.load (t := 33) (a := ⟨b2, 0, none⟩) (by kernel_rfl) (H6.loads (by kernel_rfl))) (d := (some 26)) (by kernel_rfl) rfl ?_
   refine og 2 [(0, (Value.func (Fn.yield ln) #[] #[])), (1, (ptr b2)), (2, (ptr b3)), (4, (i64 ((i : Nat) : Int))), (5, (ptr b16)), (12, (Value.slice LA l.length lc)), (13, (i64 ((l.length : Nat) : Int))), (14, (i64 ((i : Nat) : Int))), (26, (Value.slice LA l.length lc)), (27, (i64 ((l.length : Nat) : Int))), (28, (i64 0))] 4 ?_
   refine od ?_
   refine qr_block (id := 2) (by kernel_rfl) ?_
   refine qr_keep (R := [(0, (Value.func (Fn.yield ln) #[] #[])), (1, (ptr b2)), (2, (ptr b3)), (4, (i64 ((i : Nat) : Int))), (5, (ptr b16)), (12, (Value.slice LA l.length lc)), (13, (i64 ((l.length : Nat) : Int))), (14, (i64 ((i : Nat) : Int))), (26, (Value.slice LA l.length lc)), (27, (i64 ((l.length : Nat) : Int))), (28, (i64 0))]) (by kernel_rfl) ?_
   refine qr_loop (fun (kk : Nat) (ds : List Deferred) L (wx : World) => ds = [] ∧ L = [(0, (Value.func (Fn.yield ln) #[] #[])), (1, (ptr b2)), (2, (ptr b3)), (4, (i64 ((i : Nat) : Int))), (5, (ptr b16)), (12, (Value.slice LA l.length lc)), (13, (i64 ((l.length : Nat) : Int))), (14, (i64 ((i : Nat) : Int))), (26, (Value.slice LA l.length lc)), (27, (i64 ((l.length : Nat) : Int))), (28, (i64 ((kk : Nat) : Int)))] ∧ Keeps none_ w1 wx ∧ w1.heap.size ≤ b16 ∧ (∀ j z, j < kk → l[j]? = some z → j ≠ i → d.testBit j = false → aheadH z.c x.c = false) ∧ kk ≤ l.length ∧ Keeps (fun i => T i) w wx ∧ Has wx b (rowL [(Value.map (some mb)), (Value.map (some kb))] 110) ∧ HasMap wx mb kstr ki64 m ∧ HasMap wx kb kpair keptv (K.map KeptM.kv) ∧ Has wx b2 (rowL [(Value.slice LA l.length lc), (Value.slice AA a.length ac)] 68) ∧ Has wx b3 (rowL [(Value.slice OA o.length oc), (Value.int IntKind.u64 ((d : Nat) : Int)), (i64 lf), (ptr b)] 73) ∧ Has wx b16 (rowL [(i64 x.c.op.kind), (Value.string (str x.c.op.frm)), (Value.string (str x.c.op.to)), (i64 x.c.op.amount), (Value.string (str x.c.op.key)), (i64 x.c.op.slot), (i64 x.c.op.shard), (i64 x.c.bg), (i64 x.c.en), (Value.bool x.c.told), (i64 x.c.rep.why), (i64 x.c.rep.amount), (Value.slice x.A x.c.rep.rows.length x.k)] 43)) (fun (kk : Nat) => l.length - kk) 0 (by kernel_rfl) ⟨rfl, rfl, hcx, ox22, (fun j z hj => absurd hj (Nat.not_lt_zero _)), Nat.zero_le _, K2, H3, H4, H5, H6, H7, H24⟩ ?_
   clear H3 H4 H5 H6 H7 H24 hcx hR8 hR9 hR10 K2
   rintro kk _ _ w30 ⟨rfl, rfl, hcx, ob5, hwt, hkk, K31, H32, H33, H34, H35, H36, H37⟩
   have hR38 := Rd.keep (by decide) hRL K31 (fun i hi => (hFL i hi).2)
   have hR39 := Rd.keep (by decide) hRA K31 (fun i hi => (hFA i hi).2)
   have hR40 := Rd.keep (by decide) hRO K31 (fun i hi => (hFO i hi).2)
   refine qr_seq (by kernel_rfl) ?_
   refine qr_region Open.wide (by kernel_rfl) (by kernel_rfl) ?_
   refine og 1 [(0, (Value.func (Fn.yield ln) #[] #[])), (1, (ptr b2)), (2, (ptr b3)), (4, (i64 ((i : Nat) : Int))), (5, (ptr b16)), (12, (Value.slice LA l.length lc)), (13, (i64 ((l.length : Nat) : Int))), (14, (i64 ((i : Nat) : Int))), (26, (Value.slice LA l.length lc)), (27, (i64 ((l.length : Nat) : Int))), (28, (i64 ((kk : Nat) : Int))), (29, (Value.bool (decide (((kk : Nat) : Int) < ((l.length : Nat) : Int)))))] 1 ?_
   refine od ?_
   refine qr_seq (by kernel_rfl) ?_
   refine qr_cond (o := .tmp 29) (b := (decide (((kk : Nat) : Int) < ((l.length : Nat) : Int)))) (by kernel_rfl) rfl (fun h41 => ?_) (fun h41 => ?_)
   ·rw [h41]
    have p42 : ((kk : Nat) : Int) < ((l.length : Nat) : Int) := of_decide_eq_true h41
    refine qr_skip (by kernel_rfl) ?_
    refine qr_seq (by kernel_rfl) ?_
    refine qr_block (id := 3) (by kernel_rfl) ?_
    refine qr_seq (by kernel_rfl) ?_
    refine qr_region Open.wide (by kernel_rfl) (by kernel_rfl) ?_
    refine og 1 [(0, (Value.func (Fn.yield ln) #[] #[])), (1, (ptr b2)), (2, (ptr b3)), (4, (i64 ((i : Nat) : Int))), (5, (ptr b16)), (12, (Value.slice LA l.length lc)), (13, (i64 ((l.length : Nat) : Int))), (14, (i64 ((i : Nat) : Int))), (26, (Value.slice LA l.length lc)), (27, (i64 ((l.length : Nat) : Int))), (28, (i64 ((kk : Nat) : Int))), (30, (i64 ((kk : Nat) : Int)))] 1 ?_
    obtain ⟨y, hy⟩ : ∃ x, l[kk]? = some x := ⟨_, List.getElem?_eq_getElem (by omega)⟩
    obtain ⟨rb43, ro44, hA45⟩ := Rd.addr hR38 (by omega)
    refine Ops.go (by kernel_rfl) (Runs.ixSliceE (k := IntKind.i64) (t := 33) (len := l.length) (cap := lc) (s := 13) (off' := ro44 + kk * 13) (i := ((kk : Nat) : Int)) hA45 (by kernel_rfl) (by kernel_rfl) (by omega) (by omega) (by omega)) (d := (some 31)) (by kernel_rfl) rfl ?_
    refine Ops.go (v := (agg [(i64 y.c.op.kind), (Value.string (str y.c.op.frm)), (Value.string (str y.c.op.to)), (i64 y.c.op.amount), (Value.string (str y.c.op.key)), (i64 y.c.op.slot), (i64 y.c.op.shard), (i64 y.c.bg), (i64 y.c.en), (Value.bool y.c.told), (i64 y.c.rep.why), (i64 y.c.rep.amount), (Value.slice y.A y.c.rep.rows.length y.k)])) (by kernel_rfl) (Runs.load (t := 43) (a := ⟨rb43, ro44 + kk * 13, none⟩) (by kernel_rfl) (RdT.ld (f := HC.cells) (x := y) HC.two hR38 (by kernel_rfl) (by kernel_rfl) hA45 hy)) (d := (some 32)) (by kernel_rfl) rfl ?_
    refine Ops.new (o := rowL [(i64 0), (Value.string ByteArray.empty), (Value.string ByteArray.empty), (i64 0), (Value.string ByteArray.empty), (i64 0), (i64 0), (i64 0), (i64 0), (Value.bool false), (i64 0), (i64 0), (Value.slice none 0 0)] 43) (V := fun b => (ptr b)) (by kernel_rfl) (d := (some 7)) (by kernel_rfl) (fun b => rfl) (fun b46 w47 hb48 H49 K50 hs51 => ?_)
    have lb46b : b < b46 := by have := H32.lt; omega
    have lb46mb : mb < b46 := by have := H33.lt; omega
    have lb46kb : kb < b46 := by have := H34.lt; omega
    have lb46b2 : b2 < b46 := by have := H35.lt; omega
    have lb46b3 : b3 < b46 := by have := H36.lt; omega
    have lb46b16 : b16 < b46 := by have := H37.lt; omega
    have nb46 : w.heap.size ≤ b46 := by have := K31.size; omega
    have ox52 : w1.heap.size ≤ b46 := by have := hcx.size; omega
    replace K31 := K31.tn K50
    replace H32 := H32.keep K50 (fun h => h)
    replace H33 := H33.keep K50 (fun h => h)
    replace H34 := H34.keep K50 (fun h => h)
    replace H35 := H35.keep K50 (fun h => h)
    replace H36 := H36.keep K50 (fun h => h)
    replace H37 := H37.keep K50 (fun h => h)
    replace hcx := hcx.trans K50 (fun _ _ h => h) (fun _ _ h => h)
    replace hR38 := (Rd.keep0 (by decide) hR38 K50)
    replace hR39 := (Rd.keep0 (by decide) hR39 K50)
    replace hR40 := (Rd.keep0 (by decide) hR40 K50)
    clear K50 hs51
    refine og 1 [(0, (Value.func (Fn.yield ln) #[] #[])), (1, (ptr b2)), (2, (ptr b3)), (4, (i64 ((i : Nat) : Int))), (5, (ptr b16)), (6, (i64 ((kk : Nat) : Int))), (7, (ptr b46)), (12, (Value.slice LA l.length lc)), (13, (i64 ((l.length : Nat) : Int))), (14, (i64 ((i : Nat) : Int))), (26, (Value.slice LA l.length lc)), (27, (i64 ((l.length : Nat) : Int))), (28, (i64 ((kk : Nat) : Int))), (32, (agg [(i64 y.c.op.kind), (Value.string (str y.c.op.frm)), (Value.string (str y.c.op.to)), (i64 y.c.op.amount), (Value.string (str y.c.op.key)), (i64 y.c.op.slot), (i64 y.c.op.shard), (i64 y.c.bg), (i64 y.c.en), (Value.bool y.c.told), (i64 y.c.rep.why), (i64 y.c.rep.amount), (Value.slice y.A y.c.rep.rows.length y.k)]))] 5 ?_
    refine Ops.put (t := 43) (b := b46) (off := 0) (v := (agg [(i64 y.c.op.kind), (Value.string (str y.c.op.frm)), (Value.string (str y.c.op.to)), (i64 y.c.op.amount), (Value.string (str y.c.op.key)), (i64 y.c.op.slot), (i64 y.c.op.shard), (i64 y.c.bg), (i64 y.c.en), (Value.bool y.c.told), (i64 y.c.rep.why), (i64 y.c.rep.amount), (Value.slice y.A y.c.rep.rows.length y.k)])) (ys := [(i64 y.c.op.kind), (Value.string (str y.c.op.frm)), (Value.string (str y.c.op.to)), (i64 y.c.op.amount), (Value.string (str y.c.op.key)), (i64 y.c.op.slot), (i64 y.c.op.shard), (i64 y.c.bg), (i64 y.c.en), (Value.bool y.c.told), (i64 y.c.rep.why), (i64 y.c.rep.amount), (Value.slice y.A y.c.rep.rows.length y.k)]) (by kernel_rfl) (by kernel_rfl) H49 (by kernel_rfl) (d := none) (by kernel_rfl) rfl (fun w53 H54 K55 => ?_)
    clear H49
    replace K31 := K31.trans K55 (U := (fun i => T i)) (fun i h1 h2 => h2) (fun i h1 h2 => by have h2 : i = b46 := h2; exfalso; omega)
    replace H32 := H32.k1 K55 (by omega)
    replace H33 := H33.k1 K55 (by omega)
    replace H34 := H34.k1 K55 (by omega)
    replace H35 := H35.k1 K55 (by omega)
    replace H36 := H36.k1 K55 (by omega)
    replace H37 := H37.k1 K55 (by omega)
    replace hcx := Keeps.trans hcx K55 (U := none_) (fun _ _ h => h) (fun i hi hs => by have hs : i = b46 := hs; exfalso; have := ox52; omega)
    replace hR38 := (Rd.keep (by decide) hR38 K55 (fun i hi hs => by have hs : i = b46 := hs; have := hFL1 i hi; omega))
    replace hR39 := (Rd.keep (by decide) hR39 K55 (fun i hi hs => by have hs : i = b46 := hs; have := hFA1 i hi; omega))
    replace hR40 := (Rd.keep (by decide) hR40 K55 (fun i hi hs => by have hs : i = b46 := hs; have := hFO1 i hi; omega))
    clear K55
    refine od ?_
    refine qr_seq (by kernel_rfl) ?_
    refine qr_region Open.wide (by kernel_rfl) (by kernel_rfl) ?_
    refine og 4 [(0, (Value.func (Fn.yield ln) #[] #[])), (1, (ptr b2)), (2, (ptr b3)), (4, (i64 ((i : Nat) : Int))), (5, (ptr b16)), (6, (i64 ((kk : Nat) : Int))), (7, (ptr b46)), (12, (Value.slice LA l.length lc)), (13, (i64 ((l.length : Nat) : Int))), (14, (i64 ((i : Nat) : Int))), (26, (Value.slice LA l.length lc)), (27, (i64 ((l.length : Nat) : Int))), (28, (i64 ((kk : Nat) : Int))), (36, (Value.bool (((kk : Nat) : Int) != ((i : Nat) : Int))))] 4 ?_
    refine Ops.split (((kk : Nat) : Int) != ((i : Nat) : Int)) (fun h56 => ?_) (fun h56 => ?_)
    ·rw [h56]
     have p57 : ¬ (((kk : Nat) : Int) = ((i : Nat) : Int)) := of_bne_t h56
     refine og 1 [(0, (Value.func (Fn.yield ln) #[] #[])), (1, (ptr b2)), (2, (ptr b3)), (4, (i64 ((i : Nat) : Int))), (5, (ptr b16)), (6, (i64 ((kk : Nat) : Int))), (7, (ptr b46)), (12, (Value.slice LA l.length lc)), (13, (i64 ((l.length : Nat) : Int))), (14, (i64 ((i : Nat) : Int))), (26, (Value.slice LA l.length lc)), (27, (i64 ((l.length : Nat) : Int))), (28, (i64 ((kk : Nat) : Int))), (36, (Value.bool true)), (37, (Value.pointer (some ⟨b3, 1, none⟩)))] 5 ?_
     refine Ops.go (v := (Value.int IntKind.u64 ((d : Nat) : Int))) (by kernel_rfl) (Runs.load (t := 71) (a := ⟨b3, 1, none⟩) (by kernel_rfl) (H36.loads (by kernel_rfl))) (d := (some 38)) (by kernel_rfl) rfl ?_
     refine og 1 [(0, (Value.func (Fn.yield ln) #[] #[])), (1, (ptr b2)), (2, (ptr b3)), (4, (i64 ((i : Nat) : Int))), (5, (ptr b16)), (7, (ptr b46)), (12, (Value.slice LA l.length lc)), (13, (i64 ((l.length : Nat) : Int))), (14, (i64 ((i : Nat) : Int))), (26, (Value.slice LA l.length lc)), (27, (i64 ((l.length : Nat) : Int))), (28, (i64 ((kk : Nat) : Int))), (36, (Value.bool true)), (38, (Value.int IntKind.u64 ((d : Nat) : Int))), (39, (i64 ((kk : Nat) : Int)))] 7 ?_
     refine Ops.go (v := (Value.int IntKind.u64 ((d / 2 ^ kk : Nat) : Int))) (by kernel_rfl) (Runs.int (op := .shr) (t := 71) (by kernel_rfl) (run_shrN (k := IntKind.i64) (i := kk) (s := ((kk : Nat) : Int)) rfl (by omega))) (d := (some 40)) (by kernel_rfl) rfl ?_
     refine Ops.go (v := (Value.int IntKind.u64 (((d / 2 ^ kk) % 2 : Nat) : Int))) (by kernel_rfl) (Runs.int (op := .and) (t := 71) (by kernel_rfl) (run_and1 (div_lt64 (by omega)))) (d := (some 41)) (by kernel_rfl) rfl ?_
     refine og 3 [(0, (Value.func (Fn.yield ln) #[] #[])), (1, (ptr b2)), (2, (ptr b3)), (4, (i64 ((i : Nat) : Int))), (5, (ptr b16)), (7, (ptr b46)), (12, (Value.slice LA l.length lc)), (13, (i64 ((l.length : Nat) : Int))), (14, (i64 ((i : Nat) : Int))), (26, (Value.slice LA l.length lc)), (27, (i64 ((l.length : Nat) : Int))), (28, (i64 ((kk : Nat) : Int))), (44, (Value.bool ((((d / 2 ^ kk) % 2 : Nat) : Int) == 0)))] 12 ?_
     refine Ops.split ((((d / 2 ^ kk) % 2 : Nat) : Int) == 0) (fun h58 => ?_) (fun h58 => ?_)
     ·rw [h58]
      have p59 : (((d / 2 ^ kk) % 2 : Nat) : Int) = 0 := of_beq_t h58
      have hbk : d.testBit kk = false := bit_zero.1 (by omega)
      refine Ops.go (v := (agg [(i64 y.c.op.kind), (Value.string (str y.c.op.frm)), (Value.string (str y.c.op.to)), (i64 y.c.op.amount), (Value.string (str y.c.op.key)), (i64 y.c.op.slot), (i64 y.c.op.shard), (i64 y.c.bg), (i64 y.c.en), (Value.bool y.c.told), (i64 y.c.rep.why), (i64 y.c.rep.amount), (Value.slice y.A y.c.rep.rows.length y.k)])) (by kernel_rfl) (Runs.load (t := 43) (a := ⟨b46, 0, none⟩) (by kernel_rfl) (H54.loads (by kernel_rfl))) (d := (some 45)) (by kernel_rfl) rfl ?_
      refine Ops.go (v := (agg [(i64 x.c.op.kind), (Value.string (str x.c.op.frm)), (Value.string (str x.c.op.to)), (i64 x.c.op.amount), (Value.string (str x.c.op.key)), (i64 x.c.op.slot), (i64 x.c.op.shard), (i64 x.c.bg), (i64 x.c.en), (Value.bool x.c.told), (i64 x.c.rep.why), (i64 x.c.rep.amount), (Value.slice x.A x.c.rep.rows.length x.k)])) (by kernel_rfl) (Runs.load (t := 43) (a := ⟨b16, 0, none⟩) (by kernel_rfl) (H37.loads (by kernel_rfl))) (d := (some 46)) (by kernel_rfl) rfl ?_
      refine Ops.call (by kernel_rfl) (d := (some 47)) (by kernel_rfl) (AheadP_calls _ y x) ?_
      rintro _ w60 ⟨rfl, K61⟩
      refine ⟨_, _, rfl, rfl, ?_⟩
      replace K31 := K31.tn K61
      replace H32 := H32.keep K61 (fun h => h)
      replace H33 := H33.keep K61 (fun h => h)
      replace H34 := H34.keep K61 (fun h => h)
      replace H35 := H35.keep K61 (fun h => h)
      replace H36 := H36.keep K61 (fun h => h)
      replace H37 := H37.keep K61 (fun h => h)
      replace H54 := H54.keep K61 (fun h => h)
      replace hcx := hcx.trans K61 (fun _ _ h => h) (fun _ _ h => h)
      replace hR38 := (Rd.keep0 (by decide) hR38 K61)
      replace hR39 := (Rd.keep0 (by decide) hR39 K61)
      replace hR40 := (Rd.keep0 (by decide) hR40 K61)
      clear K61
      refine og 1 [(0, (Value.func (Fn.yield ln) #[] #[])), (1, (ptr b2)), (2, (ptr b3)), (4, (i64 ((i : Nat) : Int))), (5, (ptr b16)), (12, (Value.slice LA l.length lc)), (13, (i64 ((l.length : Nat) : Int))), (14, (i64 ((i : Nat) : Int))), (26, (Value.slice LA l.length lc)), (27, (i64 ((l.length : Nat) : Int))), (28, (i64 ((kk : Nat) : Int))), (48, (Value.bool (aheadH y.c x.c)))] 16 ?_
      refine od ?_
      refine qr_cond (o := .tmp 48) (b := (aheadH y.c x.c)) (by kernel_rfl) rfl (fun h62 => ?_) (fun h62 => ?_)
      ·rw [h62]
       have p63 : (aheadH y.c x.c) = true := h62
       refine qr_exit (id := 1) (by kernel_rfl) ?_
       refine qr_region Open.wide (by kernel_rfl) (by kernel_rfl) ?_
       refine og 1 [(0, (Value.func (Fn.yield ln) #[] #[])), (1, (ptr b2)), (2, (ptr b3)), (12, (Value.slice LA l.length lc)), (13, (i64 ((l.length : Nat) : Int))), (14, (i64 ((i : Nat) : Int))), (28, (i64 ((kk : Nat) : Int))), (95, (i64 (IntKind.i64.wrap (((i : Nat) : Int) + 1))))] 1 ?_
       have e64 : IntKind.i64.wrap (((i : Nat) : Int) + 1) = ((i + 1 : Nat) : Int) := by rw [wrap_i64 (by omega) (by omega)]; omega
       rw [e64]
       clear e64
       refine og 1 [(0, (Value.func (Fn.yield ln) #[] #[])), (1, (ptr b2)), (2, (ptr b3)), (12, (Value.slice LA l.length lc)), (13, (i64 ((l.length : Nat) : Int))), (14, (i64 ((i + 1 : Nat) : Int))), (28, (i64 ((kk : Nat) : Int)))] 2 ?_
       refine Ops.keep (R := [(0, (Value.func (Fn.yield ln) #[] #[])), (1, (ptr b2)), (2, (ptr b3)), (12, (Value.slice LA l.length lc)), (13, (i64 ((l.length : Nat) : Int))), (14, (i64 ((i + 1 : Nat) : Int)))]) (by kernel_rfl) ?_
       refine od ?_
       exact ⟨i + 1, ⟨rfl, rfl, (by rw [Prob.nth_none (one_wait hal hx hy (by omega) hbk h62)]; exact hJ _ _ _ hj hcx), (by omega), K31, H32, H33, H34, H35, H36⟩, (show l.length - (i + 1) < l.length - i from by omega)⟩
      ·rw [h62]
       have p65 : (aheadH y.c x.c) = false := h62
       refine qr_skip (by kernel_rfl) ?_
       refine qr_region Open.wide (by kernel_rfl) (by kernel_rfl) ?_
       refine og 1 [(0, (Value.func (Fn.yield ln) #[] #[])), (1, (ptr b2)), (2, (ptr b3)), (4, (i64 ((i : Nat) : Int))), (5, (ptr b16)), (12, (Value.slice LA l.length lc)), (13, (i64 ((l.length : Nat) : Int))), (14, (i64 ((i : Nat) : Int))), (26, (Value.slice LA l.length lc)), (27, (i64 ((l.length : Nat) : Int))), (28, (i64 ((kk : Nat) : Int))), (49, (i64 (IntKind.i64.wrap (((kk : Nat) : Int) + 1))))] 1 ?_
       have e66 : IntKind.i64.wrap (((kk : Nat) : Int) + 1) = ((kk + 1 : Nat) : Int) := by rw [wrap_i64 (by omega) (by omega)]; omega
       rw [e66]
       clear e66
       refine og 1 [(0, (Value.func (Fn.yield ln) #[] #[])), (1, (ptr b2)), (2, (ptr b3)), (4, (i64 ((i : Nat) : Int))), (5, (ptr b16)), (12, (Value.slice LA l.length lc)), (13, (i64 ((l.length : Nat) : Int))), (14, (i64 ((i : Nat) : Int))), (26, (Value.slice LA l.length lc)), (27, (i64 ((l.length : Nat) : Int))), (28, (i64 ((kk + 1 : Nat) : Int)))] 2 ?_
       refine Ops.keep (R := [(0, (Value.func (Fn.yield ln) #[] #[])), (1, (ptr b2)), (2, (ptr b3)), (4, (i64 ((i : Nat) : Int))), (5, (ptr b16)), (12, (Value.slice LA l.length lc)), (13, (i64 ((l.length : Nat) : Int))), (14, (i64 ((i : Nat) : Int))), (26, (Value.slice LA l.length lc)), (27, (i64 ((l.length : Nat) : Int))), (28, (i64 ((kk + 1 : Nat) : Int)))]) (by kernel_rfl) ?_
       refine od ?_
       exact ⟨kk + 1, ⟨rfl, rfl, hcx, ob5, (fun j z hj hz => by rcases Nat.lt_succ_iff_lt_or_eq.1 hj with hj | hj; (exact hwt j z hj hz); (subst hj; obtain rfl : y = z := Option.some.inj (hy.symm.trans hz); exact fun q1 q2 => h62)), (by omega), K31, H32, H33, H34, H35, H36, H37⟩, (show l.length - (kk + 1) < l.length - kk from by omega)⟩
     ·rw [h58]
      have p67 : ¬ ((((d / 2 ^ kk) % 2 : Nat) : Int) = 0) := of_beq_f h58
      have hbk : d.testBit kk = true := bit_one.1 (by omega)
      refine og 4 [(0, (Value.func (Fn.yield ln) #[] #[])), (1, (ptr b2)), (2, (ptr b3)), (4, (i64 ((i : Nat) : Int))), (5, (ptr b16)), (12, (Value.slice LA l.length lc)), (13, (i64 ((l.length : Nat) : Int))), (14, (i64 ((i : Nat) : Int))), (26, (Value.slice LA l.length lc)), (27, (i64 ((l.length : Nat) : Int))), (28, (i64 ((kk : Nat) : Int))), (48, (Value.bool false))] 16 ?_
      refine od ?_
      refine qr_else (o := .tmp 48) (by kernel_rfl) rfl ?_
      refine qr_skip (by kernel_rfl) ?_
      refine qr_region Open.wide (by kernel_rfl) (by kernel_rfl) ?_
      refine og 1 [(0, (Value.func (Fn.yield ln) #[] #[])), (1, (ptr b2)), (2, (ptr b3)), (4, (i64 ((i : Nat) : Int))), (5, (ptr b16)), (12, (Value.slice LA l.length lc)), (13, (i64 ((l.length : Nat) : Int))), (14, (i64 ((i : Nat) : Int))), (26, (Value.slice LA l.length lc)), (27, (i64 ((l.length : Nat) : Int))), (28, (i64 ((kk : Nat) : Int))), (49, (i64 (IntKind.i64.wrap (((kk : Nat) : Int) + 1))))] 1 ?_
      have e68 : IntKind.i64.wrap (((kk : Nat) : Int) + 1) = ((kk + 1 : Nat) : Int) := by rw [wrap_i64 (by omega) (by omega)]; omega
      rw [e68]
      clear e68
      refine og 1 [(0, (Value.func (Fn.yield ln) #[] #[])), (1, (ptr b2)), (2, (ptr b3)), (4, (i64 ((i : Nat) : Int))), (5, (ptr b16)), (12, (Value.slice LA l.length lc)), (13, (i64 ((l.length : Nat) : Int))), (14, (i64 ((i : Nat) : Int))), (26, (Value.slice LA l.length lc)), (27, (i64 ((l.length : Nat) : Int))), (28, (i64 ((kk + 1 : Nat) : Int)))] 2 ?_
      refine Ops.keep (R := [(0, (Value.func (Fn.yield ln) #[] #[])), (1, (ptr b2)), (2, (ptr b3)), (4, (i64 ((i : Nat) : Int))), (5, (ptr b16)), (12, (Value.slice LA l.length lc)), (13, (i64 ((l.length : Nat) : Int))), (14, (i64 ((i : Nat) : Int))), (26, (Value.slice LA l.length lc)), (27, (i64 ((l.length : Nat) : Int))), (28, (i64 ((kk + 1 : Nat) : Int)))]) (by kernel_rfl) ?_
      refine od ?_
      exact ⟨kk + 1, ⟨rfl, rfl, hcx, ob5, (fun j z hj hz => by rcases Nat.lt_succ_iff_lt_or_eq.1 hj with hj | hj; (exact hwt j z hj hz); (subst hj; obtain rfl : y = z := Option.some.inj (hy.symm.trans hz); exact fun q1 q2 => absurd (hbk.symm.trans q2) (by decide))), (by omega), K31, H32, H33, H34, H35, H36, H37⟩, (show l.length - (kk + 1) < l.length - kk from by omega)⟩
    ·rw [h56]
     have p69 : ((kk : Nat) : Int) = ((i : Nat) : Int) := of_bne_f h56
     refine og 12 [(0, (Value.func (Fn.yield ln) #[] #[])), (1, (ptr b2)), (2, (ptr b3)), (4, (i64 ((i : Nat) : Int))), (5, (ptr b16)), (12, (Value.slice LA l.length lc)), (13, (i64 ((l.length : Nat) : Int))), (14, (i64 ((i : Nat) : Int))), (26, (Value.slice LA l.length lc)), (27, (i64 ((l.length : Nat) : Int))), (28, (i64 ((kk : Nat) : Int))), (48, (Value.bool false))] 16 ?_
     refine od ?_
     refine qr_else (o := .tmp 48) (by kernel_rfl) rfl ?_
     refine qr_skip (by kernel_rfl) ?_
     refine qr_region Open.wide (by kernel_rfl) (by kernel_rfl) ?_
     refine og 1 [(0, (Value.func (Fn.yield ln) #[] #[])), (1, (ptr b2)), (2, (ptr b3)), (4, (i64 ((i : Nat) : Int))), (5, (ptr b16)), (12, (Value.slice LA l.length lc)), (13, (i64 ((l.length : Nat) : Int))), (14, (i64 ((i : Nat) : Int))), (26, (Value.slice LA l.length lc)), (27, (i64 ((l.length : Nat) : Int))), (28, (i64 ((kk : Nat) : Int))), (49, (i64 (IntKind.i64.wrap (((kk : Nat) : Int) + 1))))] 1 ?_
     have e70 : IntKind.i64.wrap (((kk : Nat) : Int) + 1) = ((kk + 1 : Nat) : Int) := by rw [wrap_i64 (by omega) (by omega)]; omega
     rw [e70]
     clear e70
     refine og 1 [(0, (Value.func (Fn.yield ln) #[] #[])), (1, (ptr b2)), (2, (ptr b3)), (4, (i64 ((i : Nat) : Int))), (5, (ptr b16)), (12, (Value.slice LA l.length lc)), (13, (i64 ((l.length : Nat) : Int))), (14, (i64 ((i : Nat) : Int))), (26, (Value.slice LA l.length lc)), (27, (i64 ((l.length : Nat) : Int))), (28, (i64 ((kk + 1 : Nat) : Int)))] 2 ?_
     refine Ops.keep (R := [(0, (Value.func (Fn.yield ln) #[] #[])), (1, (ptr b2)), (2, (ptr b3)), (4, (i64 ((i : Nat) : Int))), (5, (ptr b16)), (12, (Value.slice LA l.length lc)), (13, (i64 ((l.length : Nat) : Int))), (14, (i64 ((i : Nat) : Int))), (26, (Value.slice LA l.length lc)), (27, (i64 ((l.length : Nat) : Int))), (28, (i64 ((kk + 1 : Nat) : Int)))]) (by kernel_rfl) ?_
     refine od ?_
     exact ⟨kk + 1, ⟨rfl, rfl, hcx, ob5, (fun j z hj hz => by rcases Nat.lt_succ_iff_lt_or_eq.1 hj with hj | hj; (exact hwt j z hj hz); (subst hj; obtain rfl : y = z := Option.some.inj (hy.symm.trans hz); exact fun q1 q2 => (q1 (by omega)).elim)), (by omega), K31, H32, H33, H34, H35, H36, H37⟩, (show l.length - (kk + 1) < l.length - kk from by omega)⟩
   ·rw [h41]
    have p71 : ¬ (((kk : Nat) : Int) < ((l.length : Nat) : Int)) := of_decide_eq_false h41
    refine qr_exit (id := 2) (by kernel_rfl) ?_
    refine qr_seq (by kernel_rfl) ?_
    refine qr_region Open.wide (by kernel_rfl) (by kernel_rfl) ?_
    refine og 1 [(0, (Value.func (Fn.yield ln) #[] #[])), (1, (ptr b2)), (2, (ptr b3)), (4, (i64 ((i : Nat) : Int))), (5, (ptr b16)), (12, (Value.slice LA l.length lc)), (13, (i64 ((l.length : Nat) : Int))), (14, (i64 ((i : Nat) : Int))), (28, (i64 ((kk : Nat) : Int))), (50, (Value.pointer (some ⟨b3, 3, none⟩)))] 1 ?_
    refine Ops.go (v := (ptr b)) (by kernel_rfl) (Runs.load (t := 69) (a := ⟨b3, 3, none⟩) (by kernel_rfl) (H36.loads (by kernel_rfl))) (d := (some 51)) (by kernel_rfl) rfl ?_
    refine Ops.call (by kernel_rfl) (d := (some 52)) (by kernel_rfl) (Copy_calls _ b mb kb m S K H32 H33 H34 (by omega) hB) ?_
    rintro _ w75 ⟨b72, mb73, kb74, rfl, K76, H77, Hm78, Hk79, hb80, hb81, hb82, hb83, hb84, hb85⟩
    have lb72b : b < b72 := by have := H32.lt; omega
    have lmb73b : b < mb73 := by have := H32.lt; omega
    have lkb74b : b < kb74 := by have := H32.lt; omega
    have lb72mb : mb < b72 := by have := H33.lt; omega
    have lmb73mb : mb < mb73 := by have := H33.lt; omega
    have lkb74mb : mb < kb74 := by have := H33.lt; omega
    have lb72kb : kb < b72 := by have := H34.lt; omega
    have lmb73kb : kb < mb73 := by have := H34.lt; omega
    have lkb74kb : kb < kb74 := by have := H34.lt; omega
    have lb72b2 : b2 < b72 := by have := H35.lt; omega
    have lmb73b2 : b2 < mb73 := by have := H35.lt; omega
    have lkb74b2 : b2 < kb74 := by have := H35.lt; omega
    have lb72b3 : b3 < b72 := by have := H36.lt; omega
    have lmb73b3 : b3 < mb73 := by have := H36.lt; omega
    have lkb74b3 : b3 < kb74 := by have := H36.lt; omega
    have lb72b16 : b16 < b72 := by have := H37.lt; omega
    have lmb73b16 : b16 < mb73 := by have := H37.lt; omega
    have lkb74b16 : b16 < kb74 := by have := H37.lt; omega
    have nb72 : w.heap.size ≤ b72 := by have := K31.size; omega
    have nmb73 : w.heap.size ≤ mb73 := by have := K31.size; omega
    have nkb74 : w.heap.size ≤ kb74 := by have := K31.size; omega
    have ox86 : w1.heap.size ≤ b72 := by have := hcx.size; omega
    have ox87 : w1.heap.size ≤ mb73 := by have := hcx.size; omega
    have ox88 : w1.heap.size ≤ kb74 := by have := hcx.size; omega
    refine ⟨_, _, rfl, rfl, ?_⟩
    replace K31 := K31.tn K76
    replace H32 := H32.keep K76 (fun h => h)
    replace H33 := H33.keep K76 (fun h => h)
    replace H34 := H34.keep K76 (fun h => h)
    replace H35 := H35.keep K76 (fun h => h)
    replace H36 := H36.keep K76 (fun h => h)
    replace H37 := H37.keep K76 (fun h => h)
    replace hcx := hcx.trans K76 (fun _ _ h => h) (fun _ _ h => h)
    replace hR38 := (Rd.keep0 (by decide) hR38 K76)
    replace hR39 := (Rd.keep0 (by decide) hR39 K76)
    replace hR40 := (Rd.keep0 (by decide) hR40 K76)
    clear K76
    refine og 1 [(0, (Value.func (Fn.yield ln) #[] #[])), (1, (ptr b2)), (2, (ptr b3)), (4, (i64 ((i : Nat) : Int))), (5, (ptr b16)), (8, (ptr b72)), (12, (Value.slice LA l.length lc)), (13, (i64 ((l.length : Nat) : Int))), (14, (i64 ((i : Nat) : Int))), (28, (i64 ((kk : Nat) : Int)))] 4 ?_
    refine od ?_
    refine qr_seq (by kernel_rfl) ?_
    refine qr_seq (by kernel_rfl) ?_
    have hxa := ho x (List.mem_of_getElem? hx)
    refine qr_region Open.wide (by kernel_rfl) (by kernel_rfl) ?_
    refine og 2 [(0, (Value.func (Fn.yield ln) #[] #[])), (1, (ptr b2)), (2, (ptr b3)), (4, (i64 ((i : Nat) : Int))), (5, (ptr b16)), (8, (ptr b72)), (12, (Value.slice LA l.length lc)), (13, (i64 ((l.length : Nat) : Int))), (14, (i64 ((i : Nat) : Int))), (28, (i64 ((kk : Nat) : Int))), (53, (ptr b72)), (54, (ptr b16))] 2 ?_
    refine Ops.go (v := (agg [(i64 x.c.op.kind), (Value.string (str x.c.op.frm)), (Value.string (str x.c.op.to)), (i64 x.c.op.amount), (Value.string (str x.c.op.key)), (i64 x.c.op.slot), (i64 x.c.op.shard)])) (by kernel_rfl) (Runs.load (t := 24) (a := ⟨b16, 0, none⟩) (by kernel_rfl) (H37.loads (by kernel_rfl))) (d := (some 55)) (by kernel_rfl) rfl ?_
    refine Ops.call (by kernel_rfl) (d := (some 56)) (by kernel_rfl) (Do_calls _ b72 mb73 kb74 m S K x.c.op H77 Hm78 Hk79 (by omega) hB (by first | omega | decide | exact ⟨(by decide : (-9223372036854775808 : Int) ≤ 0), (by decide : (0 : Int) ≤ 9223372036854775807)⟩) (by first | omega | decide)) ?_
    rintro _ w92 ⟨m89, A90, c91, rfl, K93, Hm94, Hk95, hB96, hO97⟩
    have ob101 : ∀ i, ((Value.slice A90 ((doR S K x.c.op).rows.length) c91)).ownBlock = some i → i ≠ b := fun i hi => by have := (World.ownsRow.lt hO97 i hi).1; have := H32.lt; omega
    have ob102 : ∀ i, ((Value.slice A90 ((doR S K x.c.op).rows.length) c91)).ownBlock = some i → i ≠ mb := fun i hi => by have := (World.ownsRow.lt hO97 i hi).1; have := H33.lt; omega
    have ob103 : ∀ i, ((Value.slice A90 ((doR S K x.c.op).rows.length) c91)).ownBlock = some i → i ≠ kb := fun i hi => by have := (World.ownsRow.lt hO97 i hi).1; have := H34.lt; omega
    have ob104 : ∀ i, ((Value.slice A90 ((doR S K x.c.op).rows.length) c91)).ownBlock = some i → i ≠ b2 := fun i hi => by have := (World.ownsRow.lt hO97 i hi).1; have := H35.lt; omega
    have ob105 : ∀ i, ((Value.slice A90 ((doR S K x.c.op).rows.length) c91)).ownBlock = some i → i ≠ b3 := fun i hi => by have := (World.ownsRow.lt hO97 i hi).1; have := H36.lt; omega
    have ob106 : ∀ i, ((Value.slice A90 ((doR S K x.c.op).rows.length) c91)).ownBlock = some i → i ≠ b16 := fun i hi => by have := (World.ownsRow.lt hO97 i hi).1; have := H37.lt; omega
    have ob107 : ∀ i, ((Value.slice A90 ((doR S K x.c.op).rows.length) c91)).ownBlock = some i → i ≠ b72 := fun i hi => by have := (World.ownsRow.lt hO97 i hi).1; have := H77.lt; omega
    have ob108 : ∀ i, ((Value.slice A90 ((doR S K x.c.op).rows.length) c91)).ownBlock = some i → i ≠ mb73 := fun i hi => by have := (World.ownsRow.lt hO97 i hi).1; have := Hm78.lt; omega
    have ob109 : ∀ i, ((Value.slice A90 ((doR S K x.c.op).rows.length) c91)).ownBlock = some i → i ≠ kb74 := fun i hi => by have := (World.ownsRow.lt hO97 i hi).1; have := Hk79.lt; omega
    have O98 := own_base hO97 K31.size
    clear hO97
    have hl99 := hB96.ledg.le
    have hl100 := doK_len S K x.c.op
    refine ⟨_, _, rfl, rfl, ?_⟩
    replace K31 := K31.trans K93 (U := (fun i => T i)) (fun i h1 h2 => h2) (fun i h1 h2 => by have h2 : i = mb73 ∨ i = kb74 := h2; rcases h2 with h2 | h2; (exfalso; omega); (exfalso; omega))
    replace H32 := H32.keep K93 (by intro h; change b = mb73 ∨ b = kb74 at h; omega)
    replace H33 := H33.keep K93 (by intro h; change mb = mb73 ∨ mb = kb74 at h; omega)
    replace H34 := H34.keep K93 (by intro h; change kb = mb73 ∨ kb = kb74 at h; omega)
    replace H35 := H35.keep K93 (by intro h; change b2 = mb73 ∨ b2 = kb74 at h; omega)
    replace H36 := H36.keep K93 (by intro h; change b3 = mb73 ∨ b3 = kb74 at h; omega)
    replace H37 := H37.keep K93 (by intro h; change b16 = mb73 ∨ b16 = kb74 at h; omega)
    replace H77 := H77.keep K93 (by intro h; change b72 = mb73 ∨ b72 = kb74 at h; omega)
    replace hcx := Keeps.trans hcx K93 (U := none_) (fun _ _ h => h) (fun i hi hs => by have hs : i = mb73 ∨ i = kb74 := hs; rcases hs with hs | hs; (exfalso; have := ox87; omega); (exfalso; have := ox88; omega))
    replace hR38 := (Rd.keep (by decide) hR38 K93 (fun i hi hs => by have hs : i = mb73 ∨ i = kb74 := hs; have := hFL1 i hi; omega))
    replace hR39 := (Rd.keep (by decide) hR39 K93 (fun i hi hs => by have hs : i = mb73 ∨ i = kb74 := hs; have := hFA1 i hi; omega))
    replace hR40 := (Rd.keep (by decide) hR40 K93 (fun i hi hs => by have hs : i = mb73 ∨ i = kb74 := hs; have := hFO1 i hi; omega))
    clear K93
    refine Ops.new (o := rowL [(i64 0), (i64 0), (Value.slice none 0 0)] 28) (V := fun b => (ptr b)) (by kernel_rfl) (d := (some 9)) (by kernel_rfl) (fun b => rfl) (fun b110 w111 hb112 H113 K114 hs115 => ?_)
    have lb110b : b < b110 := by have := H32.lt; omega
    have lb110mb : mb < b110 := by have := H33.lt; omega
    have lb110kb : kb < b110 := by have := H34.lt; omega
    have lb110b2 : b2 < b110 := by have := H35.lt; omega
    have lb110b3 : b3 < b110 := by have := H36.lt; omega
    have lb110b16 : b16 < b110 := by have := H37.lt; omega
    have lb110b72 : b72 < b110 := by have := H77.lt; omega
    have lb110mb73 : mb73 < b110 := by have := Hm94.lt; omega
    have lb110kb74 : kb74 < b110 := by have := Hk95.lt; omega
    have nb110 : w.heap.size ≤ b110 := by have := K31.size; omega
    have ox116 : w1.heap.size ≤ b110 := by have := hcx.size; omega
    have ob117 : ∀ i, ((Value.slice A90 ((doR S K x.c.op).rows.length) c91)).ownBlock = some i → i < b110 := fun i hi => by have := (World.ownsRow.lt O98 i hi).2; omega
    replace K31 := K31.tn K114
    replace H32 := H32.keep K114 (fun h => h)
    replace H33 := H33.keep K114 (fun h => h)
    replace H34 := H34.keep K114 (fun h => h)
    replace H35 := H35.keep K114 (fun h => h)
    replace H36 := H36.keep K114 (fun h => h)
    replace H37 := H37.keep K114 (fun h => h)
    replace H77 := H77.keep K114 (fun h => h)
    replace Hm94 := Hm94.keep K114 (fun h => h)
    replace Hk95 := Hk95.keep K114 (fun h => h)
    replace hcx := hcx.trans K114 (fun _ _ h => h) (fun _ _ h => h)
    replace hR38 := (Rd.keep0 (by decide) hR38 K114)
    replace hR39 := (Rd.keep0 (by decide) hR39 K114)
    replace hR40 := (Rd.keep0 (by decide) hR40 K114)
    replace O98 := own_keep0 O98 K114
    clear K114 hs115
    refine Ops.put (t := 28) (b := b110) (off := 0) (v := (agg [(i64 ((doR S K x.c.op).why)), (i64 ((doR S K x.c.op).amount)), (Value.slice A90 ((doR S K x.c.op).rows.length) c91)])) (ys := [(i64 ((doR S K x.c.op).why)), (i64 ((doR S K x.c.op).amount)), (Value.slice A90 ((doR S K x.c.op).rows.length) c91)]) (by kernel_rfl) (by kernel_rfl) H113 (by kernel_rfl) (d := none) (by kernel_rfl) rfl (fun w118 H119 K120 => ?_)
    clear H113
    replace K31 := K31.trans K120 (U := (fun i => T i)) (fun i h1 h2 => h2) (fun i h1 h2 => by have h2 : i = b110 := h2; exfalso; omega)
    replace H32 := H32.k1 K120 (by omega)
    replace H33 := H33.k1 K120 (by omega)
    replace H34 := H34.k1 K120 (by omega)
    replace H35 := H35.k1 K120 (by omega)
    replace H36 := H36.k1 K120 (by omega)
    replace H37 := H37.k1 K120 (by omega)
    replace H77 := H77.k1 K120 (by omega)
    replace Hm94 := Hm94.k1 K120 (by omega)
    replace Hk95 := Hk95.k1 K120 (by omega)
    replace hcx := Keeps.trans hcx K120 (U := none_) (fun _ _ h => h) (fun i hi hs => by have hs : i = b110 := hs; exfalso; have := ox116; omega)
    replace hR38 := (Rd.keep (by decide) hR38 K120 (fun i hi hs => by have hs : i = b110 := hs; have := hFL1 i hi; omega))
    replace hR39 := (Rd.keep (by decide) hR39 K120 (fun i hi hs => by have hs : i = b110 := hs; have := hFA1 i hi; omega))
    replace hR40 := (Rd.keep (by decide) hR40 K120 (fun i hi hs => by have hs : i = b110 := hs; have := hFO1 i hi; omega))
    replace O98 := own_keep O98 K120 (fun i hi => by have := ob117 i hi; omega)
    clear K120
    refine od ?_
    refine qr_seq (by kernel_rfl) ?_
    have hX121 : RdR w118 (Value.slice x.A x.c.rep.rows.length x.k) x.c.rep.rows := (RowsE.keep hG K31 (fun i hi => (hFG i hi).2)).1 x (List.mem_of_getElem? hx)
    refine qr_mono (Q := fun ds2 e2 L2 wm => ds2 = [] ∧ e2 = .normal ∧ ∃ t122 : Bool, L2 = [(0, (Value.func (Fn.yield ln) #[] #[])), (1, (ptr b2)), (2, (ptr b3)), (4, (i64 ((i : Nat) : Int))), (5, (ptr b16)), (8, (ptr b72)), (12, (Value.slice LA l.length lc)), (13, (i64 ((l.length : Nat) : Int))), (14, (i64 ((i : Nat) : Int))), (28, (i64 ((kk : Nat) : Int))), (65, (Value.bool t122))] ∧ Keeps none_ w118 wm ∧ (t122 = false → stepH x.c (S, K) = some (doS S K x.c.op, doK S K x.c.op)) ∧ (t122 = true → stepH x.c (S, K) = none)) ?_ ?_
    ·skip
     have hmid127 : Keeps none_ w118 w118 := Keeps.refl _
     refine qr_region Open.wide (by kernel_rfl) (by kernel_rfl) ?_
     refine og 1 [(0, (Value.func (Fn.yield ln) #[] #[])), (1, (ptr b2)), (2, (ptr b3)), (4, (i64 ((i : Nat) : Int))), (5, (ptr b16)), (8, (ptr b72)), (9, (ptr b110)), (12, (Value.slice LA l.length lc)), (13, (i64 ((l.length : Nat) : Int))), (14, (i64 ((i : Nat) : Int))), (28, (i64 ((kk : Nat) : Int))), (57, (Value.pointer (some ⟨b16, 9, none⟩)))] 1 ?_
     refine Ops.go (v := (Value.bool x.c.told)) (by kernel_rfl) (Runs.load (t := 4) (a := ⟨b16, 9, none⟩) (by kernel_rfl) (H37.loads (by kernel_rfl))) (d := (some 58)) (by kernel_rfl) rfl ?_
     refine og 1 [(0, (Value.func (Fn.yield ln) #[] #[])), (1, (ptr b2)), (2, (ptr b3)), (4, (i64 ((i : Nat) : Int))), (5, (ptr b16)), (8, (ptr b72)), (9, (ptr b110)), (12, (Value.slice LA l.length lc)), (13, (i64 ((l.length : Nat) : Int))), (14, (i64 ((i : Nat) : Int))), (28, (i64 ((kk : Nat) : Int))), (59, (Value.bool x.c.told))] 3 ?_
     refine Ops.split x.c.told (fun h128 => ?_) (fun h128 => ?_)
     ·rw [h128]
      have p129 : x.c.told = true := h128
      refine Ops.go (v := (agg [(i64 ((doR S K x.c.op).why)), (i64 ((doR S K x.c.op).amount)), (Value.slice A90 ((doR S K x.c.op).rows.length) c91)])) (by kernel_rfl) (Runs.load (t := 28) (a := ⟨b110, 0, none⟩) (by kernel_rfl) (H119.loads (by kernel_rfl))) (d := (some 60)) (by kernel_rfl) rfl ?_
      refine og 1 [(0, (Value.func (Fn.yield ln) #[] #[])), (1, (ptr b2)), (2, (ptr b3)), (4, (i64 ((i : Nat) : Int))), (5, (ptr b16)), (8, (ptr b72)), (12, (Value.slice LA l.length lc)), (13, (i64 ((l.length : Nat) : Int))), (14, (i64 ((i : Nat) : Int))), (28, (i64 ((kk : Nat) : Int))), (59, (Value.bool true)), (60, (agg [(i64 ((doR S K x.c.op).why)), (i64 ((doR S K x.c.op).amount)), (Value.slice A90 ((doR S K x.c.op).rows.length) c91)])), (61, (Value.pointer (some ⟨b16, 10, none⟩)))] 5 ?_
      refine Ops.go (v := (agg [(i64 x.c.rep.why), (i64 x.c.rep.amount), (Value.slice x.A x.c.rep.rows.length x.k)])) (by kernel_rfl) (Runs.load (t := 28) (a := ⟨b16, 10, none⟩) (by kernel_rfl) (H37.loads (by kernel_rfl))) (d := (some 62)) (by kernel_rfl) rfl ?_
      refine Ops.call (by kernel_rfl) (d := (some 63)) (by kernel_rfl) (sameH_calls _ A90 c91 (⟨(doR S K x.c.op).why, (doR S K x.c.op).amount, (doR S K x.c.op).rows⟩ : ReplyM) x.A x.k (⟨x.c.rep.why, x.c.rep.amount, x.c.rep.rows⟩ : ReplyM) (OwnT.rd O98) hX121) ?_
      rintro _ w133 ⟨t130, rfl, ht131, K132⟩
      refine ⟨_, _, rfl, rfl, ?_⟩
      replace K31 := K31.tn K132
      replace H32 := H32.keep K132 (fun h => h)
      replace H33 := H33.keep K132 (fun h => h)
      replace H34 := H34.keep K132 (fun h => h)
      replace H35 := H35.keep K132 (fun h => h)
      replace H36 := H36.keep K132 (fun h => h)
      replace H37 := H37.keep K132 (fun h => h)
      replace H77 := H77.keep K132 (fun h => h)
      replace Hm94 := Hm94.keep K132 (fun h => h)
      replace Hk95 := Hk95.keep K132 (fun h => h)
      replace H119 := H119.keep K132 (fun h => h)
      replace hcx := hcx.trans K132 (fun _ _ h => h) (fun _ _ h => h)
      replace hR38 := (Rd.keep0 (by decide) hR38 K132)
      replace hR39 := (Rd.keep0 (by decide) hR39 K132)
      replace hR40 := (Rd.keep0 (by decide) hR40 K132)
      replace O98 := own_keep0 O98 K132
      replace hX121 := (Rd.keep0 (by omega) hX121 K132)
      replace hmid127 := hmid127.trans K132 (fun _ _ h => h) (fun _ _ h => h)
      clear K132
      refine og 2 [(0, (Value.func (Fn.yield ln) #[] #[])), (1, (ptr b2)), (2, (ptr b3)), (4, (i64 ((i : Nat) : Int))), (5, (ptr b16)), (8, (ptr b72)), (12, (Value.slice LA l.length lc)), (13, (i64 ((l.length : Nat) : Int))), (14, (i64 ((i : Nat) : Int))), (28, (i64 ((kk : Nat) : Int))), (65, (Value.bool (!t130)))] 9 ?_
      refine Ops.keep (R := [(0, (Value.func (Fn.yield ln) #[] #[])), (1, (ptr b2)), (2, (ptr b3)), (4, (i64 ((i : Nat) : Int))), (5, (ptr b16)), (8, (ptr b72)), (12, (Value.slice LA l.length lc)), (13, (i64 ((l.length : Nat) : Int))), (14, (i64 ((i : Nat) : Int))), (28, (i64 ((kk : Nat) : Int))), (65, (Value.bool (!t130)))]) (by kernel_rfl) ?_
      refine od ?_
      exact ⟨rfl, rfl, _, rfl, hmid127, fun q => stepH_yes (ht131.1 (by cases t130 with | true => rfl | false => cases q)), fun q => stepH_no h128 (fun q1 => by rw [ht131.2 q1] at q; cases q)⟩
     ·rw [h128]
      have p134 : x.c.told = false := h128
      refine og 6 [(0, (Value.func (Fn.yield ln) #[] #[])), (1, (ptr b2)), (2, (ptr b3)), (4, (i64 ((i : Nat) : Int))), (5, (ptr b16)), (8, (ptr b72)), (12, (Value.slice LA l.length lc)), (13, (i64 ((l.length : Nat) : Int))), (14, (i64 ((i : Nat) : Int))), (28, (i64 ((kk : Nat) : Int))), (65, (Value.bool false))] 9 ?_
      refine Ops.keep (R := [(0, (Value.func (Fn.yield ln) #[] #[])), (1, (ptr b2)), (2, (ptr b3)), (4, (i64 ((i : Nat) : Int))), (5, (ptr b16)), (8, (ptr b72)), (12, (Value.slice LA l.length lc)), (13, (i64 ((l.length : Nat) : Int))), (14, (i64 ((i : Nat) : Int))), (28, (i64 ((kk : Nat) : Int))), (65, (Value.bool false))]) (by kernel_rfl) ?_
      refine od ?_
      exact ⟨rfl, rfl, _, rfl, hmid127, fun _ => stepH_not h128, fun q => by cases q⟩
    ·skip
     rintro _ _ _ w124 ⟨rfl, rfl, t122, rfl, K123, ha125, hb126⟩
     replace K31 := K31.tn K123
     replace H32 := H32.keep K123 (fun h => h)
     replace H33 := H33.keep K123 (fun h => h)
     replace H34 := H34.keep K123 (fun h => h)
     replace H35 := H35.keep K123 (fun h => h)
     replace H36 := H36.keep K123 (fun h => h)
     replace H37 := H37.keep K123 (fun h => h)
     replace H77 := H77.keep K123 (fun h => h)
     replace Hm94 := Hm94.keep K123 (fun h => h)
     replace Hk95 := Hk95.keep K123 (fun h => h)
     replace H119 := H119.keep K123 (fun h => h)
     replace hcx := hcx.trans K123 (fun _ _ h => h) (fun _ _ h => h)
     replace hR38 := (Rd.keep0 (by decide) hR38 K123)
     replace hR39 := (Rd.keep0 (by decide) hR39 K123)
     replace hR40 := (Rd.keep0 (by decide) hR40 K123)
     replace O98 := own_keep0 O98 K123
     replace hX121 := (Rd.keep0 (by omega) hX121 K123)
     clear K123
     refine qr_cond (o := .tmp 65) (b := t122) (by kernel_rfl) rfl (fun h135 => ?_) (fun h135 => ?_)
     ·rw [h135]
      have p136 : t122 = true := h135
      refine qr_exit (id := 1) (by kernel_rfl) ?_
      refine qr_region Open.wide (by kernel_rfl) (by kernel_rfl) ?_
      refine og 1 [(0, (Value.func (Fn.yield ln) #[] #[])), (1, (ptr b2)), (2, (ptr b3)), (12, (Value.slice LA l.length lc)), (13, (i64 ((l.length : Nat) : Int))), (14, (i64 ((i : Nat) : Int))), (28, (i64 ((kk : Nat) : Int))), (95, (i64 (IntKind.i64.wrap (((i : Nat) : Int) + 1))))] 1 ?_
      have e137 : IntKind.i64.wrap (((i : Nat) : Int) + 1) = ((i + 1 : Nat) : Int) := by rw [wrap_i64 (by omega) (by omega)]; omega
      rw [e137]
      clear e137
      refine og 1 [(0, (Value.func (Fn.yield ln) #[] #[])), (1, (ptr b2)), (2, (ptr b3)), (12, (Value.slice LA l.length lc)), (13, (i64 ((l.length : Nat) : Int))), (14, (i64 ((i + 1 : Nat) : Int))), (28, (i64 ((kk : Nat) : Int)))] 2 ?_
      refine Ops.keep (R := [(0, (Value.func (Fn.yield ln) #[] #[])), (1, (ptr b2)), (2, (ptr b3)), (12, (Value.slice LA l.length lc)), (13, (i64 ((l.length : Nat) : Int))), (14, (i64 ((i + 1 : Nat) : Int)))]) (by kernel_rfl) ?_
      refine od ?_
      exact ⟨i + 1, ⟨rfl, rfl, (by rw [Prob.nth_none (one_refuse hal hx (hb126 h135))]; exact hJ _ _ _ hj hcx), (by omega), K31, H32, H33, H34, H35, H36⟩, (show l.length - (i + 1) < l.length - i from by omega)⟩
     ·rw [h135]
      have p138 : t122 = false := h135
      have hst := ha125 h135
      refine qr_skip (by kernel_rfl) ?_
      refine qr_seq (by kernel_rfl) ?_
      refine qr_drawS Open.wide 21 (by kernel_rfl) (by kernel_rfl) (by kernel_rfl) (by kernel_rfl) (fun w139 K140 _ _ => ?_)
      replace K31 := K31.tn K140
      replace H32 := H32.keep K140 (fun h => h)
      replace H33 := H33.keep K140 (fun h => h)
      replace H34 := H34.keep K140 (fun h => h)
      replace H35 := H35.keep K140 (fun h => h)
      replace H36 := H36.keep K140 (fun h => h)
      replace H37 := H37.keep K140 (fun h => h)
      replace H77 := H77.keep K140 (fun h => h)
      replace Hm94 := Hm94.keep K140 (fun h => h)
      replace Hk95 := Hk95.keep K140 (fun h => h)
      replace H119 := H119.keep K140 (fun h => h)
      replace hcx := hcx.trans K140 (fun _ _ h => h) (fun _ _ h => h)
      replace hR38 := (Rd.keep0 (by decide) hR38 K140)
      replace hR39 := (Rd.keep0 (by decide) hR39 K140)
      replace hR40 := (Rd.keep0 (by decide) hR40 K140)
      replace O98 := own_keep0 O98 K140
      replace hX121 := (Rd.keep0 (by omega) hX121 K140)
      clear K140
      have Kb141 : Keeps none_ w139 w139 := Keeps.refl w139
      have zb := H32.lt
      have zmb := H33.lt
      have zkb := H34.lt
      have zb2 := H35.lt
      have zb3 := H36.lt
      have zb16 := H37.lt
      have zb72 := H77.lt
      have zmb73 := Hm94.lt
      have zkb74 := Hk95.lt
      have zb110 := H119.lt
      refine ⟨fun wz => Keeps none_ w139 wz, [], (SH.nil Kb141), ?_⟩
      refine DrS.takes (fuel' := 20) (is' := _) [0] [(0, (Value.func (Fn.yield ln) #[] #[])), (1, (ptr b2)), (2, (ptr b3)), (4, (i64 ((i : Nat) : Int))), (5, (ptr b16)), (8, (ptr b72)), (12, (Value.slice LA l.length lc)), (13, (i64 ((l.length : Nat) : Int))), (14, (i64 ((i : Nat) : Int))), (28, (i64 ((kk : Nat) : Int))), (66, (ptr b3))] (by kernel_rfl) rfl (by kernel_rfl) ?_
      refine DrS.take (i := 1) (v := (Value.slice OA o.length oc)) (by kernel_rfl) (by kernel_rfl) (fun wz hS => Runs.load (t := 35) (a := ⟨b3, 0, none⟩) (by kernel_rfl) ((H36.keep hS (fun h => h)).loads (by kernel_rfl))) (d := (some 67)) (by kernel_rfl) rfl ?_
      refine DrS.takes (fuel' := 18) (is' := _) [3] [(0, (Value.func (Fn.yield ln) #[] #[])), (1, (ptr b2)), (2, (ptr b3)), (4, (i64 ((i : Nat) : Int))), (5, (ptr b16)), (8, (ptr b72)), (12, (Value.slice LA l.length lc)), (13, (i64 ((l.length : Nat) : Int))), (14, (i64 ((i : Nat) : Int))), (28, (i64 ((kk : Nat) : Int))), (67, (Value.slice OA o.length oc)), (69, (Value.pointer (some ⟨b2, 1, none⟩)))] (by kernel_rfl) rfl (by kernel_rfl) ?_
      refine DrS.take (i := 4) (v := (Value.slice AA a.length ac)) (by kernel_rfl) (by kernel_rfl) (fun wz hS => Runs.load (t := 35) (a := ⟨b2, 1, none⟩) (by kernel_rfl) ((H35.keep hS (fun h => h)).loads (by kernel_rfl))) (d := (some 70)) (by kernel_rfl) rfl ?_
      obtain ⟨rb142, ro143, na, hA144, hx145⟩ := RdT.open hR39 rfl (k := i) (by omega)
      have hna := hx145
      refine DrS.takes (fuel' := 16) (is' := _) [5] [(0, (Value.func (Fn.yield ln) #[] #[])), (1, (ptr b2)), (2, (ptr b3)), (4, (i64 ((i : Nat) : Int))), (5, (ptr b16)), (8, (ptr b72)), (12, (Value.slice LA l.length lc)), (13, (i64 ((l.length : Nat) : Int))), (14, (i64 ((i : Nat) : Int))), (28, (i64 ((kk : Nat) : Int))), (67, (Value.slice OA o.length oc)), (70, (Value.slice AA a.length ac)), (71, (i64 ((i : Nat) : Int)))] (by kernel_rfl) rfl (by kernel_rfl) ?_
      refine DrS.take (i := 6) (v := (Value.pointer (some ⟨rb142, ro143 + i, none⟩))) (by kernel_rfl) (by kernel_rfl) (fun wz hS => Runs.ixSliceE (k := IntKind.i64) (t := 35) (len := a.length) (cap := ac) (s := 1) (off' := ro143 + i) (i := ((i : Nat) : Int)) hA144 (by kernel_rfl) (by kernel_rfl) (by omega) (by omega) (by omega)) (d := (some 72)) (by kernel_rfl) rfl ?_
      refine DrS.take (i := 7) (v := (i64 ((na : Nat) : Int))) (by kernel_rfl) (by kernel_rfl) (fun wz hS => Runs.load (t := 3) (a := ⟨rb142, ro143 + i, none⟩) (by kernel_rfl) (RdT.ldu (f := iN) (x := na) iN_one (Rd.keep0 (by omega) hR39 hS) (by kernel_rfl) hA144 hx145 rfl)) (d := (some 73)) (by kernel_rfl) rfl ?_
      refine DrS.takes (fuel' := 13) (is' := _) [10] [(0, (Value.func (Fn.yield ln) #[] #[])), (1, (ptr b2)), (2, (ptr b3)), (4, (i64 ((i : Nat) : Int))), (5, (ptr b16)), (8, (ptr b72)), (12, (Value.slice LA l.length lc)), (13, (i64 ((l.length : Nat) : Int))), (14, (i64 ((i : Nat) : Int))), (28, (i64 ((kk : Nat) : Int))), (67, (Value.slice OA o.length oc)), (73, (i64 ((na : Nat) : Int))), (76, (Value.pointer (some ⟨b3, 1, none⟩)))] (by kernel_rfl) rfl (by kernel_rfl) ?_
      refine DrS.take (i := 11) (v := (Value.int IntKind.u64 ((d : Nat) : Int))) (by kernel_rfl) (by kernel_rfl) (fun wz hS => Runs.load (t := 71) (a := ⟨b3, 1, none⟩) (by kernel_rfl) ((H36.keep hS (fun h => h)).loads (by kernel_rfl))) (d := (some 77)) (by kernel_rfl) rfl ?_
      refine DrS.takes (fuel' := 11) (is' := _) [12] [(0, (Value.func (Fn.yield ln) #[] #[])), (1, (ptr b2)), (2, (ptr b3)), (5, (ptr b16)), (8, (ptr b72)), (12, (Value.slice LA l.length lc)), (13, (i64 ((l.length : Nat) : Int))), (14, (i64 ((i : Nat) : Int))), (28, (i64 ((kk : Nat) : Int))), (67, (Value.slice OA o.length oc)), (73, (i64 ((na : Nat) : Int))), (77, (Value.int IntKind.u64 ((d : Nat) : Int))), (78, (i64 ((i : Nat) : Int)))] (by kernel_rfl) rfl (by kernel_rfl) ?_
      refine DrS.take (i := 13) (v := (Value.int IntKind.u64 ((1 <<< i : Nat) : Int))) (by kernel_rfl) (by kernel_rfl) (fun wz hS => Runs.int (op := .shl) (t := 71) (by kernel_rfl) (run_shl1 (k := IntKind.i64) (i := i) (s := ((i : Nat) : Int)) rfl (by omega))) (d := (some 79)) (by kernel_rfl) rfl ?_
      refine DrS.take (i := 14) (v := (Value.int IntKind.u64 ((d ||| 1 <<< i : Nat) : Int))) (by kernel_rfl) (by kernel_rfl) (fun wz hS => Runs.int (op := .or) (t := 71) (by kernel_rfl) (run_orN (by omega) (shl_lt (by omega)))) (d := (some 80)) (by kernel_rfl) rfl ?_
      refine DrS.takes (fuel' := 8) (is' := _) [15] [(0, (Value.func (Fn.yield ln) #[] #[])), (1, (ptr b2)), (2, (ptr b3)), (5, (ptr b16)), (8, (ptr b72)), (12, (Value.slice LA l.length lc)), (13, (i64 ((l.length : Nat) : Int))), (14, (i64 ((i : Nat) : Int))), (28, (i64 ((kk : Nat) : Int))), (67, (Value.slice OA o.length oc)), (73, (i64 ((na : Nat) : Int))), (80, (Value.int IntKind.u64 ((d ||| 1 <<< i : Nat) : Int))), (81, (Value.pointer (some ⟨b3, 2, none⟩)))] (by kernel_rfl) rfl (by kernel_rfl) ?_
      refine DrS.take (i := 16) (v := (i64 lf)) (by kernel_rfl) (by kernel_rfl) (fun wz hS => Runs.load (t := 3) (a := ⟨b3, 2, none⟩) (by kernel_rfl) ((H36.keep hS (fun h => h)).loads (by kernel_rfl))) (d := (some 82)) (by kernel_rfl) rfl ?_
      refine DrS.takes (fuel' := 6) (is' := _) [17] [(0, (Value.func (Fn.yield ln) #[] #[])), (1, (ptr b2)), (2, (ptr b3)), (5, (ptr b16)), (12, (Value.slice LA l.length lc)), (13, (i64 ((l.length : Nat) : Int))), (14, (i64 ((i : Nat) : Int))), (28, (i64 ((kk : Nat) : Int))), (67, (Value.slice OA o.length oc)), (73, (i64 ((na : Nat) : Int))), (80, (Value.int IntKind.u64 ((d ||| 1 <<< i : Nat) : Int))), (82, (i64 lf)), (83, (ptr b72))] (by kernel_rfl) rfl (by kernel_rfl) ?_
      refine DrS.three (i := 2) (j := 8) (k := 19) (by kernel_rfl) ?_ ?_ ?_
      ·skip
       refine Dr1.call (by kernel_rfl) (d := (some 68)) (by kernel_rfl) (CloneI_calls _ OA oc o (Rd.keep0 (by decide) hR40 Kb141) (by omega)) ?_
       rintro _ w148 ⟨A146, c147, rfl, K149, hO150⟩
       have oy152 : ∀ i, ((Value.slice A146 o.length c147)).ownBlock = some i → w139.heap.size ≤ i := fun i hi => by have := (World.ownsRow.lt hO150 i hi).1; have := Kb141.size; omega
       have oz153 : ∀ i, ((Value.slice A146 o.length c147)).ownBlock = some i → w1.heap.size ≤ i := fun i hi => by have := (World.ownsRow.lt hO150 i hi).1; have := hcx.size; have := Kb141.size; omega
       have O151 := own_base hO150 (Nat.le_trans hcx.size Kb141.size)
       have Kb154 := Kb141.trans K149 (U := none_) (fun _ _ h => h) (fun i h1 h2 => by exact h2.elim)
       clear Kb141
       refine ⟨_, _, rfl, rfl, (SH.nil Kb154), ?_⟩
       clear K149
       refine DrS.two (i := 8) (j := 19) (by kernel_rfl) ?_ ?_
       ·skip
        refine Dr1.new (o := rowL [(i64 ((na : Nat) : Int))] 3) (V := fun b => (Value.slice (some ⟨b, 0, none⟩) 1 1)) (by kernel_rfl) (d := (some 74)) (by kernel_rfl) (fun b => rfl) (fun b155 w156 hb157 H158 K159 hs160 => ?_)
        have xb155 : w139.heap.size ≤ b155 := by have := Kb154.size; omega
        have nb155 : w.heap.size ≤ b155 := by have := K31.size; omega
        have ox161 : w1.heap.size ≤ b155 := by have := hcx.size; omega
        have ob162 : ∀ i, ((Value.slice A146 o.length c147)).ownBlock = some i → i < b155 := fun i hi => by have := (World.ownsRow.lt O151 i hi).2; omega
        replace O151 := own_keep0 O151 K159
        have Kb163 := Kb154.trans K159 (U := none_) (fun _ _ h => h) (fun i h1 h2 => by exact h2.elim)
        clear Kb154
        refine ⟨(SH.nil Kb163), ?_⟩
        clear K159 hs160
        refine DrS.two (i := 9) (j := 19) (by kernel_rfl) ?_ ?_
        ·skip
         obtain ⟨v164, w165, hr166, hO167, hK168, hg169⟩ := OwnT.app (ty := 35) iN_one iN_cells tyI O151 (show RdT _ 1 iN _ [na] from Rd.lit H158 (n := 1) rfl (by decide)) (by simp only [List.length_cons, List.length_nil]; omega) (by simp only [List.length_cons, List.length_nil]; omega) (Nat.le_trans hcx.size Kb163.size)
         obtain ⟨A171, c172, rfl⟩ := RdT.form iN_one (by decide) (OwnT.rd hO167)
         have ob173 : ∀ i, ((Value.slice A171 ((o ++ [na]).length) c172)).ownBlock = some i → i ≠ b155 := fun i hi => by rcases hg169 i hi with h | h; (have := ob162 i h; omega); (have := H158.lt; omega)
         have K170 := hK168
         replace H158 := H158.keep K170 (by intro h; change ((Value.slice A146 o.length c147)).ownBlock = some b155 at h; have := ob162 b155 h; omega)
         clear O151
         have Kb174 := Kb163.trans K170 (U := none_) (fun _ _ h => h) (fun i h1 h2 => by have h2 : ((Value.slice A146 o.length c147)).ownBlock = some i := h2; exfalso; have := oy152 i h2; omega)
         clear Kb163
         refine Dr1.go (v := (Value.slice A171 ((o ++ [na]).length) c172)) (by kernel_rfl) (Runs.append (ts := #[35, 35]) (ty := 35) (vs := [(Value.slice A146 o.length c147), (Value.slice (some ⟨b155, 0, none⟩) 1 1)]) (by kernel_rfl) hr166) (d := (some 75)) (by kernel_rfl) rfl (SH.nil Kb174) ?_
         clear K170 hr166 hK168 hg169
         refine DrS.takes (fuel' := 2) (is' := _) [18] [(0, (Value.func (Fn.yield ln) #[] #[])), (1, (ptr b2)), (2, (ptr b3)), (5, (ptr b16)), (12, (Value.slice LA l.length lc)), (13, (i64 ((l.length : Nat) : Int))), (14, (i64 ((i : Nat) : Int))), (28, (i64 ((kk : Nat) : Int))), (84, (agg [(Value.slice A171 ((o ++ [na]).length) c172), (Value.int IntKind.u64 ((d ||| 1 <<< i : Nat) : Int)), (i64 lf), (ptr b72)]))] (by kernel_rfl) rfl (by kernel_rfl) ?_
         refine DrS.one (i := 19) (by kernel_rfl) ?_
         refine Dr1.new (o := rowL [(Value.slice none 0 0), (Value.int IntKind.u64 0), (i64 0), (Value.pointer none)] 73) (V := fun b => (ptr b)) (by kernel_rfl) (d := (some 10)) (by kernel_rfl) (fun b => rfl) (fun b175 w176 hb177 H178 K179 hs180 => ?_)
         have xb175 : w139.heap.size ≤ b175 := by have := Kb174.size; omega
         have lb175b155 : b155 < b175 := by have := H158.lt; omega
         have nb175 : w.heap.size ≤ b175 := by have := K31.size; omega
         have ox181 : w1.heap.size ≤ b175 := by have := hcx.size; omega
         have ob182 : ∀ i, ((Value.slice A171 ((o ++ [na]).length) c172)).ownBlock = some i → i < b175 := fun i hi => by have := (World.ownsRow.lt hO167 i hi).2; omega
         replace H158 := H158.keep K179 (fun h => h)
         replace hO167 := own_keep0 hO167 K179
         have Kb183 := Kb174.trans K179 (U := none_) (fun _ _ h => h) (fun i h1 h2 => by exact h2.elim)
         clear Kb174
         refine ⟨(SH.nil Kb183), ?_⟩
         clear K179 hs180
         refine DrS.one (i := 20) (by kernel_rfl) ?_
         refine Dr1.put (t := 73) (b := b175) (off := 0) (v := (agg [(Value.slice A171 ((o ++ [na]).length) c172), (Value.int IntKind.u64 ((d ||| 1 <<< i : Nat) : Int)), (i64 lf), (ptr b72)])) (ys := [(Value.slice A171 ((o ++ [na]).length) c172), (Value.int IntKind.u64 ((d ||| 1 <<< i : Nat) : Int)), (i64 lf), (ptr b72)]) (by kernel_rfl) (by kernel_rfl) H178 (by kernel_rfl) (d := none) (by kernel_rfl) rfl (fun w184 H185 K186 => ?_)
         clear H178
         replace H158 := H158.k1 K186 (by omega)
         replace hO167 := own_keep hO167 K186 (fun i hi => by have := ob182 i hi; omega)
         have Kb187 := Kb183.trans K186 (U := none_) (fun _ _ h => h) (fun i h1 h2 => by have h2 : i = b175 := h2; exfalso; have := xb175; omega)
         clear Kb183
         refine ⟨(SH.nil Kb187), ?_⟩
         clear K186
         refine DrS.keep (R := [(0, (Value.func (Fn.yield ln) #[] #[])), (1, (ptr b2)), (2, (ptr b3)), (5, (ptr b16)), (10, (ptr b175)), (12, (Value.slice LA l.length lc)), (13, (i64 ((l.length : Nat) : Int))), (14, (i64 ((i : Nat) : Int)))]) (by kernel_rfl) ?_
         refine DrS.done (by kernel_rfl) ?_
         replace K31 := K31.trans Kb187 (U := (fun i => T i)) (fun i h1 h2 => h2) (fun i h1 h2 => by exact h2.elim)
         replace H32 := H32.keep Kb187 (fun h => h)
         replace H33 := H33.keep Kb187 (fun h => h)
         replace H34 := H34.keep Kb187 (fun h => h)
         replace H35 := H35.keep Kb187 (fun h => h)
         replace H36 := H36.keep Kb187 (fun h => h)
         replace H37 := H37.keep Kb187 (fun h => h)
         replace H77 := H77.keep Kb187 (fun h => h)
         replace Hm94 := Hm94.keep Kb187 (fun h => h)
         replace Hk95 := Hk95.keep Kb187 (fun h => h)
         replace H119 := H119.keep Kb187 (fun h => h)
         replace hcx := hcx.trans Kb187 (fun _ _ h => h) (fun _ _ h => h)
         replace hR38 := (Rd.keep0 (by decide) hR38 Kb187)
         replace hR39 := (Rd.keep0 (by decide) hR39 Kb187)
         replace hR40 := (Rd.keep0 (by decide) hR40 Kb187)
         replace O98 := own_keep0 O98 Kb187
         replace hX121 := (Rd.keep0 (by omega) hX121 Kb187)
         have hgo := one_go (t := (⟨o, d, lf, (S, K)⟩ : Sr LS_)) hal hx hna hbit (fun j z hz => hwt j z (by have := (List.getElem?_eq_some_iff.1 hz).1; omega) hz) hst
         have hq1 : (b72 ≠ mb73 ∧ b72 ≠ kb74 ∧ mb73 ≠ kb74) ∧ b72 ≠ b175 ∧ mb73 ≠ b175 ∧ kb74 ≠ b175 := by omega
         have hyA : ∀ z, StC.At w184 110 (fun i => w1.heap.size ≤ i ∧ i < w184.heap.size ∧ i ≠ b175) (⟨o ++ [na], A171, c172, d ||| 1 <<< i, z, b72, ((doS S K x.c.op), (doK S K x.c.op))⟩ : StC) := fun z => ⟨OwnT.rd hO167, fun i hi => ⟨(World.ownsRow.lt hO167 i hi).1, (World.ownsRow.lt hO167 i hi).2, by have := ob182 i hi; omega⟩, mb73, kb74, m89, H77, Hm94, Hk95, hq1.1, hB96, ⟨ox86, H77.lt, hq1.2.1⟩, ⟨ox87, Hm94.lt, hq1.2.2.1⟩, ⟨ox88, Hk95.lt, hq1.2.2.2⟩⟩
         refine next_tail w184 ln m0 b2 b3 b16 b175 i l.length LA lc x A171 (o ++ [na]).length c172 (d ||| 1 <<< i) b72 lf T (J ((probH (XS l a)).nth (⟨o, d, lf, (S, K)⟩ : Sr LS_) (i + 1))) H37 H185 (by omega) (by omega) (fun W1 k1 => ?_) (fun w9 hj9 k9 => ?_)
         ·rw [Prob.nth_some hgo]
          refine hY _ _ _ W1 hj (hcx.trans k1 (U := none_) (fun _ _ h => h) (fun i hi h => by have h : i = b175 := h; exfalso; omega)) hWw (Prob.nth_lt (by show i < (XS l a).length; rw [xs_len hal]; omega) hgo) ⟨(⟨o ++ [na], A171, c172, d ||| 1 <<< i, (if x.c.told then lf - 1 else lf), b72, ((doS S K x.c.op), (doK S K x.c.op))⟩ : StC), rfl, Prob.nth_at (by show i < (XS l a).length; rw [xs_len hal]; omega) hgo, ?_⟩
          exact ((hyA _).keep k1 (fun i hi h => hi.2.2 h)).mono (fun i hi => ⟨hi.1, Nat.lt_of_lt_of_le hi.2.1 k1.size⟩)
         clear H37 H77 Hm94 Hk95 H119 H158 H185
         replace K31 := K31.trans k9 (U := (fun i => T i)) (fun i h1 h2 => h2) (fun i h1 h2 => by have h2 : T i ∨ i = b175 := h2; rcases h2 with h2 | h2; (exact h2); (exfalso; omega))
         replace H35 := H35.keep k9 (by intro h; change T b2 ∨ b2 = b175 at h; rcases h with h | h; (have := hTb2 b2 h; omega); (omega))
         replace H36 := H36.keep k9 (by intro h; change T b3 ∨ b3 = b175 at h; rcases h with h | h; (have := hTb3 b3 h; omega); (omega))
         replace H32 := H32.keep k9 (by intro h; change T b ∨ b = b175 at h; rcases h with h | h; (have := hTb b h; omega); (omega))
         replace H33 := H33.keep k9 (by intro h; change T mb ∨ mb = b175 at h; rcases h with h | h; (have := hTmb mb h; omega); (omega))
         replace H34 := H34.keep k9 (by intro h; change T kb ∨ kb = b175 at h; rcases h with h | h; (have := hTkb kb h; omega); (omega))
         refine qr_region Open.wide (by kernel_rfl) (by kernel_rfl) ?_
         refine og 1 [(0, (Value.func (Fn.yield ln) #[] #[])), (1, (ptr b2)), (2, (ptr b3)), (12, (Value.slice LA l.length lc)), (13, (i64 ((l.length : Nat) : Int))), (14, (i64 ((i : Nat) : Int))), (95, (i64 (IntKind.i64.wrap (((i : Nat) : Int) + 1))))] 1 ?_
         have e188 : IntKind.i64.wrap (((i : Nat) : Int) + 1) = ((i + 1 : Nat) : Int) := by rw [wrap_i64 (by omega) (by omega)]; omega
         rw [e188]
         clear e188
         refine og 1 [(0, (Value.func (Fn.yield ln) #[] #[])), (1, (ptr b2)), (2, (ptr b3)), (12, (Value.slice LA l.length lc)), (13, (i64 ((l.length : Nat) : Int))), (14, (i64 ((i + 1 : Nat) : Int)))] 2 ?_
         refine Ops.keep (R := [(0, (Value.func (Fn.yield ln) #[] #[])), (1, (ptr b2)), (2, (ptr b3)), (12, (Value.slice LA l.length lc)), (13, (i64 ((l.length : Nat) : Int))), (14, (i64 ((i + 1 : Nat) : Int)))]) (by kernel_rfl) ?_
         refine od ?_
         exact ⟨i + 1, ⟨rfl, rfl, hj9, (by omega), K31, H32, H33, H34, H35, H36⟩, (show l.length - (i + 1) < l.length - i from by omega)⟩
        ·skip
         refine Dr1.new (o := rowL [(Value.slice none 0 0), (Value.int IntKind.u64 0), (i64 0), (Value.pointer none)] 73) (V := fun b => (ptr b)) (by kernel_rfl) (d := (some 10)) (by kernel_rfl) (fun b => rfl) (fun b189 w190 hb191 H192 K193 hs194 => ?_)
         have xb189 : w139.heap.size ≤ b189 := by have := Kb163.size; omega
         have lb189b155 : b155 < b189 := by have := H158.lt; omega
         have nb189 : w.heap.size ≤ b189 := by have := K31.size; omega
         have ox195 : w1.heap.size ≤ b189 := by have := hcx.size; omega
         have ob196 : ∀ i, ((Value.slice A146 o.length c147)).ownBlock = some i → i < b189 := fun i hi => by have := (World.ownsRow.lt O151 i hi).2; omega
         replace H158 := H158.keep K193 (fun h => h)
         replace O151 := own_keep0 O151 K193
         have Kb197 := Kb163.trans K193 (U := none_) (fun _ _ h => h) (fun i h1 h2 => by exact h2.elim)
         clear Kb163
         refine ⟨(SH.nil Kb197), ?_⟩
         clear K193 hs194
         refine DrS.one (i := 9) (by kernel_rfl) ?_
         obtain ⟨v198, w199, hr200, hO201, hK202, hg203⟩ := OwnT.app (ty := 35) iN_one iN_cells tyI O151 (show RdT _ 1 iN _ [na] from Rd.lit H158 (n := 1) rfl (by decide)) (by simp only [List.length_cons, List.length_nil]; omega) (by simp only [List.length_cons, List.length_nil]; omega) (Nat.le_trans hcx.size Kb197.size)
         obtain ⟨A205, c206, rfl⟩ := RdT.form iN_one (by decide) (OwnT.rd hO201)
         have ob207 : ∀ i, ((Value.slice A205 ((o ++ [na]).length) c206)).ownBlock = some i → i ≠ b155 := fun i hi => by rcases hg203 i hi with h | h; (have := ob162 i h; omega); (have := H158.lt; omega)
         have ob208 : ∀ i, ((Value.slice A205 ((o ++ [na]).length) c206)).ownBlock = some i → i ≠ b189 := fun i hi => by rcases hg203 i hi with h | h; (have := ob196 i h; omega); (have := H192.lt; omega)
         have K204 := hK202
         replace H158 := H158.keep K204 (by intro h; change ((Value.slice A146 o.length c147)).ownBlock = some b155 at h; have := ob162 b155 h; omega)
         replace H192 := H192.keep K204 (by intro h; change ((Value.slice A146 o.length c147)).ownBlock = some b189 at h; have := ob196 b189 h; omega)
         clear O151
         have Kb209 := Kb197.trans K204 (U := none_) (fun _ _ h => h) (fun i h1 h2 => by have h2 : ((Value.slice A146 o.length c147)).ownBlock = some i := h2; exfalso; have := oy152 i h2; omega)
         clear Kb197
         refine Dr1.go (v := (Value.slice A205 ((o ++ [na]).length) c206)) (by kernel_rfl) (Runs.append (ts := #[35, 35]) (ty := 35) (vs := [(Value.slice A146 o.length c147), (Value.slice (some ⟨b155, 0, none⟩) 1 1)]) (by kernel_rfl) hr200) (d := (some 75)) (by kernel_rfl) rfl (SH.nil Kb209) ?_
         clear K204 hr200 hK202 hg203
         refine DrS.takes (fuel' := 1) (is' := _) [18] [(0, (Value.func (Fn.yield ln) #[] #[])), (1, (ptr b2)), (2, (ptr b3)), (5, (ptr b16)), (10, (ptr b189)), (12, (Value.slice LA l.length lc)), (13, (i64 ((l.length : Nat) : Int))), (14, (i64 ((i : Nat) : Int))), (28, (i64 ((kk : Nat) : Int))), (84, (agg [(Value.slice A205 ((o ++ [na]).length) c206), (Value.int IntKind.u64 ((d ||| 1 <<< i : Nat) : Int)), (i64 lf), (ptr b72)]))] (by kernel_rfl) rfl (by kernel_rfl) ?_
         refine DrS.one (i := 20) (by kernel_rfl) ?_
         refine Dr1.put (t := 73) (b := b189) (off := 0) (v := (agg [(Value.slice A205 ((o ++ [na]).length) c206), (Value.int IntKind.u64 ((d ||| 1 <<< i : Nat) : Int)), (i64 lf), (ptr b72)])) (ys := [(Value.slice A205 ((o ++ [na]).length) c206), (Value.int IntKind.u64 ((d ||| 1 <<< i : Nat) : Int)), (i64 lf), (ptr b72)]) (by kernel_rfl) (by kernel_rfl) H192 (by kernel_rfl) (d := none) (by kernel_rfl) rfl (fun w210 H211 K212 => ?_)
         clear H192
         replace H158 := H158.k1 K212 (by omega)
         replace hO201 := own_keep hO201 K212 (fun i hi => by have := ob208 i hi; omega)
         have Kb213 := Kb209.trans K212 (U := none_) (fun _ _ h => h) (fun i h1 h2 => by have h2 : i = b189 := h2; exfalso; have := xb189; omega)
         clear Kb209
         refine ⟨(SH.nil Kb213), ?_⟩
         clear K212
         refine DrS.keep (R := [(0, (Value.func (Fn.yield ln) #[] #[])), (1, (ptr b2)), (2, (ptr b3)), (5, (ptr b16)), (10, (ptr b189)), (12, (Value.slice LA l.length lc)), (13, (i64 ((l.length : Nat) : Int))), (14, (i64 ((i : Nat) : Int)))]) (by kernel_rfl) ?_
         refine DrS.done (by kernel_rfl) ?_
         replace K31 := K31.trans Kb213 (U := (fun i => T i)) (fun i h1 h2 => h2) (fun i h1 h2 => by exact h2.elim)
         replace H32 := H32.keep Kb213 (fun h => h)
         replace H33 := H33.keep Kb213 (fun h => h)
         replace H34 := H34.keep Kb213 (fun h => h)
         replace H35 := H35.keep Kb213 (fun h => h)
         replace H36 := H36.keep Kb213 (fun h => h)
         replace H37 := H37.keep Kb213 (fun h => h)
         replace H77 := H77.keep Kb213 (fun h => h)
         replace Hm94 := Hm94.keep Kb213 (fun h => h)
         replace Hk95 := Hk95.keep Kb213 (fun h => h)
         replace H119 := H119.keep Kb213 (fun h => h)
         replace hcx := hcx.trans Kb213 (fun _ _ h => h) (fun _ _ h => h)
         replace hR38 := (Rd.keep0 (by decide) hR38 Kb213)
         replace hR39 := (Rd.keep0 (by decide) hR39 Kb213)
         replace hR40 := (Rd.keep0 (by decide) hR40 Kb213)
         replace O98 := own_keep0 O98 Kb213
         replace hX121 := (Rd.keep0 (by omega) hX121 Kb213)
         have hgo := one_go (t := (⟨o, d, lf, (S, K)⟩ : Sr LS_)) hal hx hna hbit (fun j z hz => hwt j z (by have := (List.getElem?_eq_some_iff.1 hz).1; omega) hz) hst
         have hq1 : (b72 ≠ mb73 ∧ b72 ≠ kb74 ∧ mb73 ≠ kb74) ∧ b72 ≠ b189 ∧ mb73 ≠ b189 ∧ kb74 ≠ b189 := by omega
         have hyA : ∀ z, StC.At w210 110 (fun i => w1.heap.size ≤ i ∧ i < w210.heap.size ∧ i ≠ b189) (⟨o ++ [na], A205, c206, d ||| 1 <<< i, z, b72, ((doS S K x.c.op), (doK S K x.c.op))⟩ : StC) := fun z => ⟨OwnT.rd hO201, fun i hi => ⟨(World.ownsRow.lt hO201 i hi).1, (World.ownsRow.lt hO201 i hi).2, by have := ob208 i hi; omega⟩, mb73, kb74, m89, H77, Hm94, Hk95, hq1.1, hB96, ⟨ox86, H77.lt, hq1.2.1⟩, ⟨ox87, Hm94.lt, hq1.2.2.1⟩, ⟨ox88, Hk95.lt, hq1.2.2.2⟩⟩
         refine next_tail w210 ln m0 b2 b3 b16 b189 i l.length LA lc x A205 (o ++ [na]).length c206 (d ||| 1 <<< i) b72 lf T (J ((probH (XS l a)).nth (⟨o, d, lf, (S, K)⟩ : Sr LS_) (i + 1))) H37 H211 (by omega) (by omega) (fun W1 k1 => ?_) (fun w9 hj9 k9 => ?_)
         ·rw [Prob.nth_some hgo]
          refine hY _ _ _ W1 hj (hcx.trans k1 (U := none_) (fun _ _ h => h) (fun i hi h => by have h : i = b189 := h; exfalso; omega)) hWw (Prob.nth_lt (by show i < (XS l a).length; rw [xs_len hal]; omega) hgo) ⟨(⟨o ++ [na], A205, c206, d ||| 1 <<< i, (if x.c.told then lf - 1 else lf), b72, ((doS S K x.c.op), (doK S K x.c.op))⟩ : StC), rfl, Prob.nth_at (by show i < (XS l a).length; rw [xs_len hal]; omega) hgo, ?_⟩
          exact ((hyA _).keep k1 (fun i hi h => hi.2.2 h)).mono (fun i hi => ⟨hi.1, Nat.lt_of_lt_of_le hi.2.1 k1.size⟩)
         clear H37 H77 Hm94 Hk95 H119 H158 H211
         replace K31 := K31.trans k9 (U := (fun i => T i)) (fun i h1 h2 => h2) (fun i h1 h2 => by have h2 : T i ∨ i = b189 := h2; rcases h2 with h2 | h2; (exact h2); (exfalso; omega))
         replace H35 := H35.keep k9 (by intro h; change T b2 ∨ b2 = b189 at h; rcases h with h | h; (have := hTb2 b2 h; omega); (omega))
         replace H36 := H36.keep k9 (by intro h; change T b3 ∨ b3 = b189 at h; rcases h with h | h; (have := hTb3 b3 h; omega); (omega))
         replace H32 := H32.keep k9 (by intro h; change T b ∨ b = b189 at h; rcases h with h | h; (have := hTb b h; omega); (omega))
         replace H33 := H33.keep k9 (by intro h; change T mb ∨ mb = b189 at h; rcases h with h | h; (have := hTmb mb h; omega); (omega))
         replace H34 := H34.keep k9 (by intro h; change T kb ∨ kb = b189 at h; rcases h with h | h; (have := hTkb kb h; omega); (omega))
         refine qr_region Open.wide (by kernel_rfl) (by kernel_rfl) ?_
         refine og 1 [(0, (Value.func (Fn.yield ln) #[] #[])), (1, (ptr b2)), (2, (ptr b3)), (12, (Value.slice LA l.length lc)), (13, (i64 ((l.length : Nat) : Int))), (14, (i64 ((i : Nat) : Int))), (95, (i64 (IntKind.i64.wrap (((i : Nat) : Int) + 1))))] 1 ?_
         have e214 : IntKind.i64.wrap (((i : Nat) : Int) + 1) = ((i + 1 : Nat) : Int) := by rw [wrap_i64 (by omega) (by omega)]; omega
         rw [e214]
         clear e214
         refine og 1 [(0, (Value.func (Fn.yield ln) #[] #[])), (1, (ptr b2)), (2, (ptr b3)), (12, (Value.slice LA l.length lc)), (13, (i64 ((l.length : Nat) : Int))), (14, (i64 ((i + 1 : Nat) : Int)))] 2 ?_
         refine Ops.keep (R := [(0, (Value.func (Fn.yield ln) #[] #[])), (1, (ptr b2)), (2, (ptr b3)), (12, (Value.slice LA l.length lc)), (13, (i64 ((l.length : Nat) : Int))), (14, (i64 ((i + 1 : Nat) : Int)))]) (by kernel_rfl) ?_
         refine od ?_
         exact ⟨i + 1, ⟨rfl, rfl, hj9, (by omega), K31, H32, H33, H34, H35, H36⟩, (show l.length - (i + 1) < l.length - i from by omega)⟩
       ·skip
        refine Dr1.new (o := rowL [(Value.slice none 0 0), (Value.int IntKind.u64 0), (i64 0), (Value.pointer none)] 73) (V := fun b => (ptr b)) (by kernel_rfl) (d := (some 10)) (by kernel_rfl) (fun b => rfl) (fun b215 w216 hb217 H218 K219 hs220 => ?_)
        have xb215 : w139.heap.size ≤ b215 := by have := Kb154.size; omega
        have nb215 : w.heap.size ≤ b215 := by have := K31.size; omega
        have ox221 : w1.heap.size ≤ b215 := by have := hcx.size; omega
        have ob222 : ∀ i, ((Value.slice A146 o.length c147)).ownBlock = some i → i < b215 := fun i hi => by have := (World.ownsRow.lt O151 i hi).2; omega
        replace O151 := own_keep0 O151 K219
        have Kb223 := Kb154.trans K219 (U := none_) (fun _ _ h => h) (fun i h1 h2 => by exact h2.elim)
        clear Kb154
        refine ⟨(SH.nil Kb223), ?_⟩
        clear K219 hs220
        refine DrS.one (i := 8) (by kernel_rfl) ?_
        refine Dr1.new (o := rowL [(i64 ((na : Nat) : Int))] 3) (V := fun b => (Value.slice (some ⟨b, 0, none⟩) 1 1)) (by kernel_rfl) (d := (some 74)) (by kernel_rfl) (fun b => rfl) (fun b224 w225 hb226 H227 K228 hs229 => ?_)
        have xb224 : w139.heap.size ≤ b224 := by have := Kb223.size; omega
        have lb224b215 : b215 < b224 := by have := H218.lt; omega
        have nb224 : w.heap.size ≤ b224 := by have := K31.size; omega
        have ox230 : w1.heap.size ≤ b224 := by have := hcx.size; omega
        have ob231 : ∀ i, ((Value.slice A146 o.length c147)).ownBlock = some i → i < b224 := fun i hi => by have := (World.ownsRow.lt O151 i hi).2; omega
        replace H218 := H218.keep K228 (fun h => h)
        replace O151 := own_keep0 O151 K228
        have Kb232 := Kb223.trans K228 (U := none_) (fun _ _ h => h) (fun i h1 h2 => by exact h2.elim)
        clear Kb223
        refine ⟨(SH.nil Kb232), ?_⟩
        clear K228 hs229
        refine DrS.one (i := 9) (by kernel_rfl) ?_
        obtain ⟨v233, w234, hr235, hO236, hK237, hg238⟩ := OwnT.app (ty := 35) iN_one iN_cells tyI O151 (show RdT _ 1 iN _ [na] from Rd.lit H227 (n := 1) rfl (by decide)) (by simp only [List.length_cons, List.length_nil]; omega) (by simp only [List.length_cons, List.length_nil]; omega) (Nat.le_trans hcx.size Kb232.size)
        obtain ⟨A240, c241, rfl⟩ := RdT.form iN_one (by decide) (OwnT.rd hO236)
        have ob242 : ∀ i, ((Value.slice A240 ((o ++ [na]).length) c241)).ownBlock = some i → i ≠ b215 := fun i hi => by rcases hg238 i hi with h | h; (have := ob222 i h; omega); (have := H218.lt; omega)
        have ob243 : ∀ i, ((Value.slice A240 ((o ++ [na]).length) c241)).ownBlock = some i → i ≠ b224 := fun i hi => by rcases hg238 i hi with h | h; (have := ob231 i h; omega); (have := H227.lt; omega)
        have K239 := hK237
        replace H218 := H218.keep K239 (by intro h; change ((Value.slice A146 o.length c147)).ownBlock = some b215 at h; have := ob222 b215 h; omega)
        replace H227 := H227.keep K239 (by intro h; change ((Value.slice A146 o.length c147)).ownBlock = some b224 at h; have := ob231 b224 h; omega)
        clear O151
        have Kb244 := Kb232.trans K239 (U := none_) (fun _ _ h => h) (fun i h1 h2 => by have h2 : ((Value.slice A146 o.length c147)).ownBlock = some i := h2; exfalso; have := oy152 i h2; omega)
        clear Kb232
        refine Dr1.go (v := (Value.slice A240 ((o ++ [na]).length) c241)) (by kernel_rfl) (Runs.append (ts := #[35, 35]) (ty := 35) (vs := [(Value.slice A146 o.length c147), (Value.slice (some ⟨b224, 0, none⟩) 1 1)]) (by kernel_rfl) hr235) (d := (some 75)) (by kernel_rfl) rfl (SH.nil Kb244) ?_
        clear K239 hr235 hK237 hg238
        refine DrS.takes (fuel' := 1) (is' := _) [18] [(0, (Value.func (Fn.yield ln) #[] #[])), (1, (ptr b2)), (2, (ptr b3)), (5, (ptr b16)), (10, (ptr b215)), (12, (Value.slice LA l.length lc)), (13, (i64 ((l.length : Nat) : Int))), (14, (i64 ((i : Nat) : Int))), (28, (i64 ((kk : Nat) : Int))), (84, (agg [(Value.slice A240 ((o ++ [na]).length) c241), (Value.int IntKind.u64 ((d ||| 1 <<< i : Nat) : Int)), (i64 lf), (ptr b72)]))] (by kernel_rfl) rfl (by kernel_rfl) ?_
        refine DrS.one (i := 20) (by kernel_rfl) ?_
        refine Dr1.put (t := 73) (b := b215) (off := 0) (v := (agg [(Value.slice A240 ((o ++ [na]).length) c241), (Value.int IntKind.u64 ((d ||| 1 <<< i : Nat) : Int)), (i64 lf), (ptr b72)])) (ys := [(Value.slice A240 ((o ++ [na]).length) c241), (Value.int IntKind.u64 ((d ||| 1 <<< i : Nat) : Int)), (i64 lf), (ptr b72)]) (by kernel_rfl) (by kernel_rfl) H218 (by kernel_rfl) (d := none) (by kernel_rfl) rfl (fun w245 H246 K247 => ?_)
        clear H218
        replace H227 := H227.k1 K247 (by omega)
        replace hO236 := own_keep hO236 K247 (fun i hi => by have := ob242 i hi; omega)
        have Kb248 := Kb244.trans K247 (U := none_) (fun _ _ h => h) (fun i h1 h2 => by have h2 : i = b215 := h2; exfalso; have := xb215; omega)
        clear Kb244
        refine ⟨(SH.nil Kb248), ?_⟩
        clear K247
        refine DrS.keep (R := [(0, (Value.func (Fn.yield ln) #[] #[])), (1, (ptr b2)), (2, (ptr b3)), (5, (ptr b16)), (10, (ptr b215)), (12, (Value.slice LA l.length lc)), (13, (i64 ((l.length : Nat) : Int))), (14, (i64 ((i : Nat) : Int)))]) (by kernel_rfl) ?_
        refine DrS.done (by kernel_rfl) ?_
        replace K31 := K31.trans Kb248 (U := (fun i => T i)) (fun i h1 h2 => h2) (fun i h1 h2 => by exact h2.elim)
        replace H32 := H32.keep Kb248 (fun h => h)
        replace H33 := H33.keep Kb248 (fun h => h)
        replace H34 := H34.keep Kb248 (fun h => h)
        replace H35 := H35.keep Kb248 (fun h => h)
        replace H36 := H36.keep Kb248 (fun h => h)
        replace H37 := H37.keep Kb248 (fun h => h)
        replace H77 := H77.keep Kb248 (fun h => h)
        replace Hm94 := Hm94.keep Kb248 (fun h => h)
        replace Hk95 := Hk95.keep Kb248 (fun h => h)
        replace H119 := H119.keep Kb248 (fun h => h)
        replace hcx := hcx.trans Kb248 (fun _ _ h => h) (fun _ _ h => h)
        replace hR38 := (Rd.keep0 (by decide) hR38 Kb248)
        replace hR39 := (Rd.keep0 (by decide) hR39 Kb248)
        replace hR40 := (Rd.keep0 (by decide) hR40 Kb248)
        replace O98 := own_keep0 O98 Kb248
        replace hX121 := (Rd.keep0 (by omega) hX121 Kb248)
        have hgo := one_go (t := (⟨o, d, lf, (S, K)⟩ : Sr LS_)) hal hx hna hbit (fun j z hz => hwt j z (by have := (List.getElem?_eq_some_iff.1 hz).1; omega) hz) hst
        have hq1 : (b72 ≠ mb73 ∧ b72 ≠ kb74 ∧ mb73 ≠ kb74) ∧ b72 ≠ b215 ∧ mb73 ≠ b215 ∧ kb74 ≠ b215 := by omega
        have hyA : ∀ z, StC.At w245 110 (fun i => w1.heap.size ≤ i ∧ i < w245.heap.size ∧ i ≠ b215) (⟨o ++ [na], A240, c241, d ||| 1 <<< i, z, b72, ((doS S K x.c.op), (doK S K x.c.op))⟩ : StC) := fun z => ⟨OwnT.rd hO236, fun i hi => ⟨(World.ownsRow.lt hO236 i hi).1, (World.ownsRow.lt hO236 i hi).2, by have := ob242 i hi; omega⟩, mb73, kb74, m89, H77, Hm94, Hk95, hq1.1, hB96, ⟨ox86, H77.lt, hq1.2.1⟩, ⟨ox87, Hm94.lt, hq1.2.2.1⟩, ⟨ox88, Hk95.lt, hq1.2.2.2⟩⟩
        refine next_tail w245 ln m0 b2 b3 b16 b215 i l.length LA lc x A240 (o ++ [na]).length c241 (d ||| 1 <<< i) b72 lf T (J ((probH (XS l a)).nth (⟨o, d, lf, (S, K)⟩ : Sr LS_) (i + 1))) H37 H246 (by omega) (by omega) (fun W1 k1 => ?_) (fun w9 hj9 k9 => ?_)
        ·rw [Prob.nth_some hgo]
         refine hY _ _ _ W1 hj (hcx.trans k1 (U := none_) (fun _ _ h => h) (fun i hi h => by have h : i = b215 := h; exfalso; omega)) hWw (Prob.nth_lt (by show i < (XS l a).length; rw [xs_len hal]; omega) hgo) ⟨(⟨o ++ [na], A240, c241, d ||| 1 <<< i, (if x.c.told then lf - 1 else lf), b72, ((doS S K x.c.op), (doK S K x.c.op))⟩ : StC), rfl, Prob.nth_at (by show i < (XS l a).length; rw [xs_len hal]; omega) hgo, ?_⟩
         exact ((hyA _).keep k1 (fun i hi h => hi.2.2 h)).mono (fun i hi => ⟨hi.1, Nat.lt_of_lt_of_le hi.2.1 k1.size⟩)
        clear H37 H77 Hm94 Hk95 H119 H246 H227
        replace K31 := K31.trans k9 (U := (fun i => T i)) (fun i h1 h2 => h2) (fun i h1 h2 => by have h2 : T i ∨ i = b215 := h2; rcases h2 with h2 | h2; (exact h2); (exfalso; omega))
        replace H35 := H35.keep k9 (by intro h; change T b2 ∨ b2 = b215 at h; rcases h with h | h; (have := hTb2 b2 h; omega); (omega))
        replace H36 := H36.keep k9 (by intro h; change T b3 ∨ b3 = b215 at h; rcases h with h | h; (have := hTb3 b3 h; omega); (omega))
        replace H32 := H32.keep k9 (by intro h; change T b ∨ b = b215 at h; rcases h with h | h; (have := hTb b h; omega); (omega))
        replace H33 := H33.keep k9 (by intro h; change T mb ∨ mb = b215 at h; rcases h with h | h; (have := hTmb mb h; omega); (omega))
        replace H34 := H34.keep k9 (by intro h; change T kb ∨ kb = b215 at h; rcases h with h | h; (have := hTkb kb h; omega); (omega))
        refine qr_region Open.wide (by kernel_rfl) (by kernel_rfl) ?_
        refine og 1 [(0, (Value.func (Fn.yield ln) #[] #[])), (1, (ptr b2)), (2, (ptr b3)), (12, (Value.slice LA l.length lc)), (13, (i64 ((l.length : Nat) : Int))), (14, (i64 ((i : Nat) : Int))), (95, (i64 (IntKind.i64.wrap (((i : Nat) : Int) + 1))))] 1 ?_
        have e249 : IntKind.i64.wrap (((i : Nat) : Int) + 1) = ((i + 1 : Nat) : Int) := by rw [wrap_i64 (by omega) (by omega)]; omega
        rw [e249]
        clear e249
        refine og 1 [(0, (Value.func (Fn.yield ln) #[] #[])), (1, (ptr b2)), (2, (ptr b3)), (12, (Value.slice LA l.length lc)), (13, (i64 ((l.length : Nat) : Int))), (14, (i64 ((i + 1 : Nat) : Int)))] 2 ?_
        refine Ops.keep (R := [(0, (Value.func (Fn.yield ln) #[] #[])), (1, (ptr b2)), (2, (ptr b3)), (12, (Value.slice LA l.length lc)), (13, (i64 ((l.length : Nat) : Int))), (14, (i64 ((i + 1 : Nat) : Int)))]) (by kernel_rfl) ?_
        refine od ?_
        exact ⟨i + 1, ⟨rfl, rfl, hj9, (by omega), K31, H32, H33, H34, H35, H36⟩, (show l.length - (i + 1) < l.length - i from by omega)⟩
      ·skip
       refine Dr1.new (o := rowL [(i64 ((na : Nat) : Int))] 3) (V := fun b => (Value.slice (some ⟨b, 0, none⟩) 1 1)) (by kernel_rfl) (d := (some 74)) (by kernel_rfl) (fun b => rfl) (fun b250 w251 hb252 H253 K254 hs255 => ?_)
       have xb250 : w139.heap.size ≤ b250 := by have := Kb141.size; omega
       have nb250 : w.heap.size ≤ b250 := by have := K31.size; omega
       have ox256 : w1.heap.size ≤ b250 := by have := hcx.size; omega
       have Kb257 := Kb141.trans K254 (U := none_) (fun _ _ h => h) (fun i h1 h2 => by exact h2.elim)
       clear Kb141
       refine ⟨(SH.nil Kb257), ?_⟩
       clear K254 hs255
       refine DrS.two (i := 2) (j := 19) (by kernel_rfl) ?_ ?_
       ·skip
        refine Dr1.call (by kernel_rfl) (d := (some 68)) (by kernel_rfl) (CloneI_calls _ OA oc o (Rd.keep0 (by decide) hR40 Kb257) (by omega)) ?_
        rintro _ w260 ⟨A258, c259, rfl, K261, hO262⟩
        have ob264 : ∀ i, ((Value.slice A258 o.length c259)).ownBlock = some i → i ≠ b250 := fun i hi => by have := (World.ownsRow.lt hO262 i hi).1; have := H253.lt; omega
        have oy265 : ∀ i, ((Value.slice A258 o.length c259)).ownBlock = some i → w139.heap.size ≤ i := fun i hi => by have := (World.ownsRow.lt hO262 i hi).1; have := Kb257.size; omega
        have oz266 : ∀ i, ((Value.slice A258 o.length c259)).ownBlock = some i → w1.heap.size ≤ i := fun i hi => by have := (World.ownsRow.lt hO262 i hi).1; have := hcx.size; have := Kb257.size; omega
        have O263 := own_base hO262 (Nat.le_trans hcx.size Kb257.size)
        replace H253 := H253.keep K261 (fun h => h)
        have Kb267 := Kb257.trans K261 (U := none_) (fun _ _ h => h) (fun i h1 h2 => by exact h2.elim)
        clear Kb257
        refine ⟨_, _, rfl, rfl, (SH.nil Kb267), ?_⟩
        clear K261
        refine DrS.two (i := 9) (j := 19) (by kernel_rfl) ?_ ?_
        ·skip
         obtain ⟨v268, w269, hr270, hO271, hK272, hg273⟩ := OwnT.app (ty := 35) iN_one iN_cells tyI O263 (show RdT _ 1 iN _ [na] from Rd.lit H253 (n := 1) rfl (by decide)) (by simp only [List.length_cons, List.length_nil]; omega) (by simp only [List.length_cons, List.length_nil]; omega) (Nat.le_trans hcx.size Kb267.size)
         obtain ⟨A275, c276, rfl⟩ := RdT.form iN_one (by decide) (OwnT.rd hO271)
         have ob277 : ∀ i, ((Value.slice A275 ((o ++ [na]).length) c276)).ownBlock = some i → i ≠ b250 := fun i hi => by rcases hg273 i hi with h | h; (have := ob264 i h; omega); (have := H253.lt; omega)
         have K274 := hK272
         replace H253 := H253.keep K274 (by intro h; change ((Value.slice A258 o.length c259)).ownBlock = some b250 at h; have := ob264 b250 h; omega)
         clear O263
         have Kb278 := Kb267.trans K274 (U := none_) (fun _ _ h => h) (fun i h1 h2 => by have h2 : ((Value.slice A258 o.length c259)).ownBlock = some i := h2; exfalso; have := oy265 i h2; omega)
         clear Kb267
         refine Dr1.go (v := (Value.slice A275 ((o ++ [na]).length) c276)) (by kernel_rfl) (Runs.append (ts := #[35, 35]) (ty := 35) (vs := [(Value.slice A258 o.length c259), (Value.slice (some ⟨b250, 0, none⟩) 1 1)]) (by kernel_rfl) hr270) (d := (some 75)) (by kernel_rfl) rfl (SH.nil Kb278) ?_
         clear K274 hr270 hK272 hg273
         refine DrS.takes (fuel' := 2) (is' := _) [18] [(0, (Value.func (Fn.yield ln) #[] #[])), (1, (ptr b2)), (2, (ptr b3)), (5, (ptr b16)), (12, (Value.slice LA l.length lc)), (13, (i64 ((l.length : Nat) : Int))), (14, (i64 ((i : Nat) : Int))), (28, (i64 ((kk : Nat) : Int))), (84, (agg [(Value.slice A275 ((o ++ [na]).length) c276), (Value.int IntKind.u64 ((d ||| 1 <<< i : Nat) : Int)), (i64 lf), (ptr b72)]))] (by kernel_rfl) rfl (by kernel_rfl) ?_
         refine DrS.one (i := 19) (by kernel_rfl) ?_
         refine Dr1.new (o := rowL [(Value.slice none 0 0), (Value.int IntKind.u64 0), (i64 0), (Value.pointer none)] 73) (V := fun b => (ptr b)) (by kernel_rfl) (d := (some 10)) (by kernel_rfl) (fun b => rfl) (fun b279 w280 hb281 H282 K283 hs284 => ?_)
         have xb279 : w139.heap.size ≤ b279 := by have := Kb278.size; omega
         have lb279b250 : b250 < b279 := by have := H253.lt; omega
         have nb279 : w.heap.size ≤ b279 := by have := K31.size; omega
         have ox285 : w1.heap.size ≤ b279 := by have := hcx.size; omega
         have ob286 : ∀ i, ((Value.slice A275 ((o ++ [na]).length) c276)).ownBlock = some i → i < b279 := fun i hi => by have := (World.ownsRow.lt hO271 i hi).2; omega
         replace H253 := H253.keep K283 (fun h => h)
         replace hO271 := own_keep0 hO271 K283
         have Kb287 := Kb278.trans K283 (U := none_) (fun _ _ h => h) (fun i h1 h2 => by exact h2.elim)
         clear Kb278
         refine ⟨(SH.nil Kb287), ?_⟩
         clear K283 hs284
         refine DrS.one (i := 20) (by kernel_rfl) ?_
         refine Dr1.put (t := 73) (b := b279) (off := 0) (v := (agg [(Value.slice A275 ((o ++ [na]).length) c276), (Value.int IntKind.u64 ((d ||| 1 <<< i : Nat) : Int)), (i64 lf), (ptr b72)])) (ys := [(Value.slice A275 ((o ++ [na]).length) c276), (Value.int IntKind.u64 ((d ||| 1 <<< i : Nat) : Int)), (i64 lf), (ptr b72)]) (by kernel_rfl) (by kernel_rfl) H282 (by kernel_rfl) (d := none) (by kernel_rfl) rfl (fun w288 H289 K290 => ?_)
         clear H282
         replace H253 := H253.k1 K290 (by omega)
         replace hO271 := own_keep hO271 K290 (fun i hi => by have := ob286 i hi; omega)
         have Kb291 := Kb287.trans K290 (U := none_) (fun _ _ h => h) (fun i h1 h2 => by have h2 : i = b279 := h2; exfalso; have := xb279; omega)
         clear Kb287
         refine ⟨(SH.nil Kb291), ?_⟩
         clear K290
         refine DrS.keep (R := [(0, (Value.func (Fn.yield ln) #[] #[])), (1, (ptr b2)), (2, (ptr b3)), (5, (ptr b16)), (10, (ptr b279)), (12, (Value.slice LA l.length lc)), (13, (i64 ((l.length : Nat) : Int))), (14, (i64 ((i : Nat) : Int)))]) (by kernel_rfl) ?_
         refine DrS.done (by kernel_rfl) ?_
         replace K31 := K31.trans Kb291 (U := (fun i => T i)) (fun i h1 h2 => h2) (fun i h1 h2 => by exact h2.elim)
         replace H32 := H32.keep Kb291 (fun h => h)
         replace H33 := H33.keep Kb291 (fun h => h)
         replace H34 := H34.keep Kb291 (fun h => h)
         replace H35 := H35.keep Kb291 (fun h => h)
         replace H36 := H36.keep Kb291 (fun h => h)
         replace H37 := H37.keep Kb291 (fun h => h)
         replace H77 := H77.keep Kb291 (fun h => h)
         replace Hm94 := Hm94.keep Kb291 (fun h => h)
         replace Hk95 := Hk95.keep Kb291 (fun h => h)
         replace H119 := H119.keep Kb291 (fun h => h)
         replace hcx := hcx.trans Kb291 (fun _ _ h => h) (fun _ _ h => h)
         replace hR38 := (Rd.keep0 (by decide) hR38 Kb291)
         replace hR39 := (Rd.keep0 (by decide) hR39 Kb291)
         replace hR40 := (Rd.keep0 (by decide) hR40 Kb291)
         replace O98 := own_keep0 O98 Kb291
         replace hX121 := (Rd.keep0 (by omega) hX121 Kb291)
         have hgo := one_go (t := (⟨o, d, lf, (S, K)⟩ : Sr LS_)) hal hx hna hbit (fun j z hz => hwt j z (by have := (List.getElem?_eq_some_iff.1 hz).1; omega) hz) hst
         have hq1 : (b72 ≠ mb73 ∧ b72 ≠ kb74 ∧ mb73 ≠ kb74) ∧ b72 ≠ b279 ∧ mb73 ≠ b279 ∧ kb74 ≠ b279 := by omega
         have hyA : ∀ z, StC.At w288 110 (fun i => w1.heap.size ≤ i ∧ i < w288.heap.size ∧ i ≠ b279) (⟨o ++ [na], A275, c276, d ||| 1 <<< i, z, b72, ((doS S K x.c.op), (doK S K x.c.op))⟩ : StC) := fun z => ⟨OwnT.rd hO271, fun i hi => ⟨(World.ownsRow.lt hO271 i hi).1, (World.ownsRow.lt hO271 i hi).2, by have := ob286 i hi; omega⟩, mb73, kb74, m89, H77, Hm94, Hk95, hq1.1, hB96, ⟨ox86, H77.lt, hq1.2.1⟩, ⟨ox87, Hm94.lt, hq1.2.2.1⟩, ⟨ox88, Hk95.lt, hq1.2.2.2⟩⟩
         refine next_tail w288 ln m0 b2 b3 b16 b279 i l.length LA lc x A275 (o ++ [na]).length c276 (d ||| 1 <<< i) b72 lf T (J ((probH (XS l a)).nth (⟨o, d, lf, (S, K)⟩ : Sr LS_) (i + 1))) H37 H289 (by omega) (by omega) (fun W1 k1 => ?_) (fun w9 hj9 k9 => ?_)
         ·rw [Prob.nth_some hgo]
          refine hY _ _ _ W1 hj (hcx.trans k1 (U := none_) (fun _ _ h => h) (fun i hi h => by have h : i = b279 := h; exfalso; omega)) hWw (Prob.nth_lt (by show i < (XS l a).length; rw [xs_len hal]; omega) hgo) ⟨(⟨o ++ [na], A275, c276, d ||| 1 <<< i, (if x.c.told then lf - 1 else lf), b72, ((doS S K x.c.op), (doK S K x.c.op))⟩ : StC), rfl, Prob.nth_at (by show i < (XS l a).length; rw [xs_len hal]; omega) hgo, ?_⟩
          exact ((hyA _).keep k1 (fun i hi h => hi.2.2 h)).mono (fun i hi => ⟨hi.1, Nat.lt_of_lt_of_le hi.2.1 k1.size⟩)
         clear H37 H77 Hm94 Hk95 H119 H253 H289
         replace K31 := K31.trans k9 (U := (fun i => T i)) (fun i h1 h2 => h2) (fun i h1 h2 => by have h2 : T i ∨ i = b279 := h2; rcases h2 with h2 | h2; (exact h2); (exfalso; omega))
         replace H35 := H35.keep k9 (by intro h; change T b2 ∨ b2 = b279 at h; rcases h with h | h; (have := hTb2 b2 h; omega); (omega))
         replace H36 := H36.keep k9 (by intro h; change T b3 ∨ b3 = b279 at h; rcases h with h | h; (have := hTb3 b3 h; omega); (omega))
         replace H32 := H32.keep k9 (by intro h; change T b ∨ b = b279 at h; rcases h with h | h; (have := hTb b h; omega); (omega))
         replace H33 := H33.keep k9 (by intro h; change T mb ∨ mb = b279 at h; rcases h with h | h; (have := hTmb mb h; omega); (omega))
         replace H34 := H34.keep k9 (by intro h; change T kb ∨ kb = b279 at h; rcases h with h | h; (have := hTkb kb h; omega); (omega))
         refine qr_region Open.wide (by kernel_rfl) (by kernel_rfl) ?_
         refine og 1 [(0, (Value.func (Fn.yield ln) #[] #[])), (1, (ptr b2)), (2, (ptr b3)), (12, (Value.slice LA l.length lc)), (13, (i64 ((l.length : Nat) : Int))), (14, (i64 ((i : Nat) : Int))), (95, (i64 (IntKind.i64.wrap (((i : Nat) : Int) + 1))))] 1 ?_
         have e292 : IntKind.i64.wrap (((i : Nat) : Int) + 1) = ((i + 1 : Nat) : Int) := by rw [wrap_i64 (by omega) (by omega)]; omega
         rw [e292]
         clear e292
         refine og 1 [(0, (Value.func (Fn.yield ln) #[] #[])), (1, (ptr b2)), (2, (ptr b3)), (12, (Value.slice LA l.length lc)), (13, (i64 ((l.length : Nat) : Int))), (14, (i64 ((i + 1 : Nat) : Int)))] 2 ?_
         refine Ops.keep (R := [(0, (Value.func (Fn.yield ln) #[] #[])), (1, (ptr b2)), (2, (ptr b3)), (12, (Value.slice LA l.length lc)), (13, (i64 ((l.length : Nat) : Int))), (14, (i64 ((i + 1 : Nat) : Int)))]) (by kernel_rfl) ?_
         refine od ?_
         exact ⟨i + 1, ⟨rfl, rfl, hj9, (by omega), K31, H32, H33, H34, H35, H36⟩, (show l.length - (i + 1) < l.length - i from by omega)⟩
        ·skip
         refine Dr1.new (o := rowL [(Value.slice none 0 0), (Value.int IntKind.u64 0), (i64 0), (Value.pointer none)] 73) (V := fun b => (ptr b)) (by kernel_rfl) (d := (some 10)) (by kernel_rfl) (fun b => rfl) (fun b293 w294 hb295 H296 K297 hs298 => ?_)
         have xb293 : w139.heap.size ≤ b293 := by have := Kb267.size; omega
         have lb293b250 : b250 < b293 := by have := H253.lt; omega
         have nb293 : w.heap.size ≤ b293 := by have := K31.size; omega
         have ox299 : w1.heap.size ≤ b293 := by have := hcx.size; omega
         have ob300 : ∀ i, ((Value.slice A258 o.length c259)).ownBlock = some i → i < b293 := fun i hi => by have := (World.ownsRow.lt O263 i hi).2; omega
         replace H253 := H253.keep K297 (fun h => h)
         replace O263 := own_keep0 O263 K297
         have Kb301 := Kb267.trans K297 (U := none_) (fun _ _ h => h) (fun i h1 h2 => by exact h2.elim)
         clear Kb267
         refine ⟨(SH.nil Kb301), ?_⟩
         clear K297 hs298
         refine DrS.one (i := 9) (by kernel_rfl) ?_
         obtain ⟨v302, w303, hr304, hO305, hK306, hg307⟩ := OwnT.app (ty := 35) iN_one iN_cells tyI O263 (show RdT _ 1 iN _ [na] from Rd.lit H253 (n := 1) rfl (by decide)) (by simp only [List.length_cons, List.length_nil]; omega) (by simp only [List.length_cons, List.length_nil]; omega) (Nat.le_trans hcx.size Kb301.size)
         obtain ⟨A309, c310, rfl⟩ := RdT.form iN_one (by decide) (OwnT.rd hO305)
         have ob311 : ∀ i, ((Value.slice A309 ((o ++ [na]).length) c310)).ownBlock = some i → i ≠ b250 := fun i hi => by rcases hg307 i hi with h | h; (have := ob264 i h; omega); (have := H253.lt; omega)
         have ob312 : ∀ i, ((Value.slice A309 ((o ++ [na]).length) c310)).ownBlock = some i → i ≠ b293 := fun i hi => by rcases hg307 i hi with h | h; (have := ob300 i h; omega); (have := H296.lt; omega)
         have K308 := hK306
         replace H253 := H253.keep K308 (by intro h; change ((Value.slice A258 o.length c259)).ownBlock = some b250 at h; have := ob264 b250 h; omega)
         replace H296 := H296.keep K308 (by intro h; change ((Value.slice A258 o.length c259)).ownBlock = some b293 at h; have := ob300 b293 h; omega)
         clear O263
         have Kb313 := Kb301.trans K308 (U := none_) (fun _ _ h => h) (fun i h1 h2 => by have h2 : ((Value.slice A258 o.length c259)).ownBlock = some i := h2; exfalso; have := oy265 i h2; omega)
         clear Kb301
         refine Dr1.go (v := (Value.slice A309 ((o ++ [na]).length) c310)) (by kernel_rfl) (Runs.append (ts := #[35, 35]) (ty := 35) (vs := [(Value.slice A258 o.length c259), (Value.slice (some ⟨b250, 0, none⟩) 1 1)]) (by kernel_rfl) hr304) (d := (some 75)) (by kernel_rfl) rfl (SH.nil Kb313) ?_
         clear K308 hr304 hK306 hg307
         refine DrS.takes (fuel' := 1) (is' := _) [18] [(0, (Value.func (Fn.yield ln) #[] #[])), (1, (ptr b2)), (2, (ptr b3)), (5, (ptr b16)), (10, (ptr b293)), (12, (Value.slice LA l.length lc)), (13, (i64 ((l.length : Nat) : Int))), (14, (i64 ((i : Nat) : Int))), (28, (i64 ((kk : Nat) : Int))), (84, (agg [(Value.slice A309 ((o ++ [na]).length) c310), (Value.int IntKind.u64 ((d ||| 1 <<< i : Nat) : Int)), (i64 lf), (ptr b72)]))] (by kernel_rfl) rfl (by kernel_rfl) ?_
         refine DrS.one (i := 20) (by kernel_rfl) ?_
         refine Dr1.put (t := 73) (b := b293) (off := 0) (v := (agg [(Value.slice A309 ((o ++ [na]).length) c310), (Value.int IntKind.u64 ((d ||| 1 <<< i : Nat) : Int)), (i64 lf), (ptr b72)])) (ys := [(Value.slice A309 ((o ++ [na]).length) c310), (Value.int IntKind.u64 ((d ||| 1 <<< i : Nat) : Int)), (i64 lf), (ptr b72)]) (by kernel_rfl) (by kernel_rfl) H296 (by kernel_rfl) (d := none) (by kernel_rfl) rfl (fun w314 H315 K316 => ?_)
         clear H296
         replace H253 := H253.k1 K316 (by omega)
         replace hO305 := own_keep hO305 K316 (fun i hi => by have := ob312 i hi; omega)
         have Kb317 := Kb313.trans K316 (U := none_) (fun _ _ h => h) (fun i h1 h2 => by have h2 : i = b293 := h2; exfalso; have := xb293; omega)
         clear Kb313
         refine ⟨(SH.nil Kb317), ?_⟩
         clear K316
         refine DrS.keep (R := [(0, (Value.func (Fn.yield ln) #[] #[])), (1, (ptr b2)), (2, (ptr b3)), (5, (ptr b16)), (10, (ptr b293)), (12, (Value.slice LA l.length lc)), (13, (i64 ((l.length : Nat) : Int))), (14, (i64 ((i : Nat) : Int)))]) (by kernel_rfl) ?_
         refine DrS.done (by kernel_rfl) ?_
         replace K31 := K31.trans Kb317 (U := (fun i => T i)) (fun i h1 h2 => h2) (fun i h1 h2 => by exact h2.elim)
         replace H32 := H32.keep Kb317 (fun h => h)
         replace H33 := H33.keep Kb317 (fun h => h)
         replace H34 := H34.keep Kb317 (fun h => h)
         replace H35 := H35.keep Kb317 (fun h => h)
         replace H36 := H36.keep Kb317 (fun h => h)
         replace H37 := H37.keep Kb317 (fun h => h)
         replace H77 := H77.keep Kb317 (fun h => h)
         replace Hm94 := Hm94.keep Kb317 (fun h => h)
         replace Hk95 := Hk95.keep Kb317 (fun h => h)
         replace H119 := H119.keep Kb317 (fun h => h)
         replace hcx := hcx.trans Kb317 (fun _ _ h => h) (fun _ _ h => h)
         replace hR38 := (Rd.keep0 (by decide) hR38 Kb317)
         replace hR39 := (Rd.keep0 (by decide) hR39 Kb317)
         replace hR40 := (Rd.keep0 (by decide) hR40 Kb317)
         replace O98 := own_keep0 O98 Kb317
         replace hX121 := (Rd.keep0 (by omega) hX121 Kb317)
         have hgo := one_go (t := (⟨o, d, lf, (S, K)⟩ : Sr LS_)) hal hx hna hbit (fun j z hz => hwt j z (by have := (List.getElem?_eq_some_iff.1 hz).1; omega) hz) hst
         have hq1 : (b72 ≠ mb73 ∧ b72 ≠ kb74 ∧ mb73 ≠ kb74) ∧ b72 ≠ b293 ∧ mb73 ≠ b293 ∧ kb74 ≠ b293 := by omega
         have hyA : ∀ z, StC.At w314 110 (fun i => w1.heap.size ≤ i ∧ i < w314.heap.size ∧ i ≠ b293) (⟨o ++ [na], A309, c310, d ||| 1 <<< i, z, b72, ((doS S K x.c.op), (doK S K x.c.op))⟩ : StC) := fun z => ⟨OwnT.rd hO305, fun i hi => ⟨(World.ownsRow.lt hO305 i hi).1, (World.ownsRow.lt hO305 i hi).2, by have := ob312 i hi; omega⟩, mb73, kb74, m89, H77, Hm94, Hk95, hq1.1, hB96, ⟨ox86, H77.lt, hq1.2.1⟩, ⟨ox87, Hm94.lt, hq1.2.2.1⟩, ⟨ox88, Hk95.lt, hq1.2.2.2⟩⟩
         refine next_tail w314 ln m0 b2 b3 b16 b293 i l.length LA lc x A309 (o ++ [na]).length c310 (d ||| 1 <<< i) b72 lf T (J ((probH (XS l a)).nth (⟨o, d, lf, (S, K)⟩ : Sr LS_) (i + 1))) H37 H315 (by omega) (by omega) (fun W1 k1 => ?_) (fun w9 hj9 k9 => ?_)
         ·rw [Prob.nth_some hgo]
          refine hY _ _ _ W1 hj (hcx.trans k1 (U := none_) (fun _ _ h => h) (fun i hi h => by have h : i = b293 := h; exfalso; omega)) hWw (Prob.nth_lt (by show i < (XS l a).length; rw [xs_len hal]; omega) hgo) ⟨(⟨o ++ [na], A309, c310, d ||| 1 <<< i, (if x.c.told then lf - 1 else lf), b72, ((doS S K x.c.op), (doK S K x.c.op))⟩ : StC), rfl, Prob.nth_at (by show i < (XS l a).length; rw [xs_len hal]; omega) hgo, ?_⟩
          exact ((hyA _).keep k1 (fun i hi h => hi.2.2 h)).mono (fun i hi => ⟨hi.1, Nat.lt_of_lt_of_le hi.2.1 k1.size⟩)
         clear H37 H77 Hm94 Hk95 H119 H253 H315
         replace K31 := K31.trans k9 (U := (fun i => T i)) (fun i h1 h2 => h2) (fun i h1 h2 => by have h2 : T i ∨ i = b293 := h2; rcases h2 with h2 | h2; (exact h2); (exfalso; omega))
         replace H35 := H35.keep k9 (by intro h; change T b2 ∨ b2 = b293 at h; rcases h with h | h; (have := hTb2 b2 h; omega); (omega))
         replace H36 := H36.keep k9 (by intro h; change T b3 ∨ b3 = b293 at h; rcases h with h | h; (have := hTb3 b3 h; omega); (omega))
         replace H32 := H32.keep k9 (by intro h; change T b ∨ b = b293 at h; rcases h with h | h; (have := hTb b h; omega); (omega))
         replace H33 := H33.keep k9 (by intro h; change T mb ∨ mb = b293 at h; rcases h with h | h; (have := hTmb mb h; omega); (omega))
         replace H34 := H34.keep k9 (by intro h; change T kb ∨ kb = b293 at h; rcases h with h | h; (have := hTkb kb h; omega); (omega))
         refine qr_region Open.wide (by kernel_rfl) (by kernel_rfl) ?_
         refine og 1 [(0, (Value.func (Fn.yield ln) #[] #[])), (1, (ptr b2)), (2, (ptr b3)), (12, (Value.slice LA l.length lc)), (13, (i64 ((l.length : Nat) : Int))), (14, (i64 ((i : Nat) : Int))), (95, (i64 (IntKind.i64.wrap (((i : Nat) : Int) + 1))))] 1 ?_
         have e318 : IntKind.i64.wrap (((i : Nat) : Int) + 1) = ((i + 1 : Nat) : Int) := by rw [wrap_i64 (by omega) (by omega)]; omega
         rw [e318]
         clear e318
         refine og 1 [(0, (Value.func (Fn.yield ln) #[] #[])), (1, (ptr b2)), (2, (ptr b3)), (12, (Value.slice LA l.length lc)), (13, (i64 ((l.length : Nat) : Int))), (14, (i64 ((i + 1 : Nat) : Int)))] 2 ?_
         refine Ops.keep (R := [(0, (Value.func (Fn.yield ln) #[] #[])), (1, (ptr b2)), (2, (ptr b3)), (12, (Value.slice LA l.length lc)), (13, (i64 ((l.length : Nat) : Int))), (14, (i64 ((i + 1 : Nat) : Int)))]) (by kernel_rfl) ?_
         refine od ?_
         exact ⟨i + 1, ⟨rfl, rfl, hj9, (by omega), K31, H32, H33, H34, H35, H36⟩, (show l.length - (i + 1) < l.length - i from by omega)⟩
       ·skip
        refine Dr1.new (o := rowL [(Value.slice none 0 0), (Value.int IntKind.u64 0), (i64 0), (Value.pointer none)] 73) (V := fun b => (ptr b)) (by kernel_rfl) (d := (some 10)) (by kernel_rfl) (fun b => rfl) (fun b319 w320 hb321 H322 K323 hs324 => ?_)
        have xb319 : w139.heap.size ≤ b319 := by have := Kb257.size; omega
        have lb319b250 : b250 < b319 := by have := H253.lt; omega
        have nb319 : w.heap.size ≤ b319 := by have := K31.size; omega
        have ox325 : w1.heap.size ≤ b319 := by have := hcx.size; omega
        replace H253 := H253.keep K323 (fun h => h)
        have Kb326 := Kb257.trans K323 (U := none_) (fun _ _ h => h) (fun i h1 h2 => by exact h2.elim)
        clear Kb257
        refine ⟨(SH.nil Kb326), ?_⟩
        clear K323 hs324
        refine DrS.one (i := 2) (by kernel_rfl) ?_
        refine Dr1.call (by kernel_rfl) (d := (some 68)) (by kernel_rfl) (CloneI_calls _ OA oc o (Rd.keep0 (by decide) hR40 Kb326) (by omega)) ?_
        rintro _ w329 ⟨A327, c328, rfl, K330, hO331⟩
        have ob333 : ∀ i, ((Value.slice A327 o.length c328)).ownBlock = some i → i ≠ b250 := fun i hi => by have := (World.ownsRow.lt hO331 i hi).1; have := H253.lt; omega
        have ob334 : ∀ i, ((Value.slice A327 o.length c328)).ownBlock = some i → i ≠ b319 := fun i hi => by have := (World.ownsRow.lt hO331 i hi).1; have := H322.lt; omega
        have oy335 : ∀ i, ((Value.slice A327 o.length c328)).ownBlock = some i → w139.heap.size ≤ i := fun i hi => by have := (World.ownsRow.lt hO331 i hi).1; have := Kb326.size; omega
        have oz336 : ∀ i, ((Value.slice A327 o.length c328)).ownBlock = some i → w1.heap.size ≤ i := fun i hi => by have := (World.ownsRow.lt hO331 i hi).1; have := hcx.size; have := Kb326.size; omega
        have O332 := own_base hO331 (Nat.le_trans hcx.size Kb326.size)
        replace H253 := H253.keep K330 (fun h => h)
        replace H322 := H322.keep K330 (fun h => h)
        have Kb337 := Kb326.trans K330 (U := none_) (fun _ _ h => h) (fun i h1 h2 => by exact h2.elim)
        clear Kb326
        refine ⟨_, _, rfl, rfl, (SH.nil Kb337), ?_⟩
        clear K330
        refine DrS.one (i := 9) (by kernel_rfl) ?_
        obtain ⟨v338, w339, hr340, hO341, hK342, hg343⟩ := OwnT.app (ty := 35) iN_one iN_cells tyI O332 (show RdT _ 1 iN _ [na] from Rd.lit H253 (n := 1) rfl (by decide)) (by simp only [List.length_cons, List.length_nil]; omega) (by simp only [List.length_cons, List.length_nil]; omega) (Nat.le_trans hcx.size Kb337.size)
        obtain ⟨A345, c346, rfl⟩ := RdT.form iN_one (by decide) (OwnT.rd hO341)
        have ob347 : ∀ i, ((Value.slice A345 ((o ++ [na]).length) c346)).ownBlock = some i → i ≠ b250 := fun i hi => by rcases hg343 i hi with h | h; (have := ob333 i h; omega); (have := H253.lt; omega)
        have ob348 : ∀ i, ((Value.slice A345 ((o ++ [na]).length) c346)).ownBlock = some i → i ≠ b319 := fun i hi => by rcases hg343 i hi with h | h; (have := ob334 i h; omega); (have := H322.lt; omega)
        have K344 := hK342
        replace H253 := H253.keep K344 (by intro h; change ((Value.slice A327 o.length c328)).ownBlock = some b250 at h; have := ob333 b250 h; omega)
        replace H322 := H322.keep K344 (by intro h; change ((Value.slice A327 o.length c328)).ownBlock = some b319 at h; have := ob334 b319 h; omega)
        clear O332
        have Kb349 := Kb337.trans K344 (U := none_) (fun _ _ h => h) (fun i h1 h2 => by have h2 : ((Value.slice A327 o.length c328)).ownBlock = some i := h2; exfalso; have := oy335 i h2; omega)
        clear Kb337
        refine Dr1.go (v := (Value.slice A345 ((o ++ [na]).length) c346)) (by kernel_rfl) (Runs.append (ts := #[35, 35]) (ty := 35) (vs := [(Value.slice A327 o.length c328), (Value.slice (some ⟨b250, 0, none⟩) 1 1)]) (by kernel_rfl) hr340) (d := (some 75)) (by kernel_rfl) rfl (SH.nil Kb349) ?_
        clear K344 hr340 hK342 hg343
        refine DrS.takes (fuel' := 1) (is' := _) [18] [(0, (Value.func (Fn.yield ln) #[] #[])), (1, (ptr b2)), (2, (ptr b3)), (5, (ptr b16)), (10, (ptr b319)), (12, (Value.slice LA l.length lc)), (13, (i64 ((l.length : Nat) : Int))), (14, (i64 ((i : Nat) : Int))), (28, (i64 ((kk : Nat) : Int))), (84, (agg [(Value.slice A345 ((o ++ [na]).length) c346), (Value.int IntKind.u64 ((d ||| 1 <<< i : Nat) : Int)), (i64 lf), (ptr b72)]))] (by kernel_rfl) rfl (by kernel_rfl) ?_
        refine DrS.one (i := 20) (by kernel_rfl) ?_
        refine Dr1.put (t := 73) (b := b319) (off := 0) (v := (agg [(Value.slice A345 ((o ++ [na]).length) c346), (Value.int IntKind.u64 ((d ||| 1 <<< i : Nat) : Int)), (i64 lf), (ptr b72)])) (ys := [(Value.slice A345 ((o ++ [na]).length) c346), (Value.int IntKind.u64 ((d ||| 1 <<< i : Nat) : Int)), (i64 lf), (ptr b72)]) (by kernel_rfl) (by kernel_rfl) H322 (by kernel_rfl) (d := none) (by kernel_rfl) rfl (fun w350 H351 K352 => ?_)
        clear H322
        replace H253 := H253.k1 K352 (by omega)
        replace hO341 := own_keep hO341 K352 (fun i hi => by have := ob348 i hi; omega)
        have Kb353 := Kb349.trans K352 (U := none_) (fun _ _ h => h) (fun i h1 h2 => by have h2 : i = b319 := h2; exfalso; have := xb319; omega)
        clear Kb349
        refine ⟨(SH.nil Kb353), ?_⟩
        clear K352
        refine DrS.keep (R := [(0, (Value.func (Fn.yield ln) #[] #[])), (1, (ptr b2)), (2, (ptr b3)), (5, (ptr b16)), (10, (ptr b319)), (12, (Value.slice LA l.length lc)), (13, (i64 ((l.length : Nat) : Int))), (14, (i64 ((i : Nat) : Int)))]) (by kernel_rfl) ?_
        refine DrS.done (by kernel_rfl) ?_
        replace K31 := K31.trans Kb353 (U := (fun i => T i)) (fun i h1 h2 => h2) (fun i h1 h2 => by exact h2.elim)
        replace H32 := H32.keep Kb353 (fun h => h)
        replace H33 := H33.keep Kb353 (fun h => h)
        replace H34 := H34.keep Kb353 (fun h => h)
        replace H35 := H35.keep Kb353 (fun h => h)
        replace H36 := H36.keep Kb353 (fun h => h)
        replace H37 := H37.keep Kb353 (fun h => h)
        replace H77 := H77.keep Kb353 (fun h => h)
        replace Hm94 := Hm94.keep Kb353 (fun h => h)
        replace Hk95 := Hk95.keep Kb353 (fun h => h)
        replace H119 := H119.keep Kb353 (fun h => h)
        replace hcx := hcx.trans Kb353 (fun _ _ h => h) (fun _ _ h => h)
        replace hR38 := (Rd.keep0 (by decide) hR38 Kb353)
        replace hR39 := (Rd.keep0 (by decide) hR39 Kb353)
        replace hR40 := (Rd.keep0 (by decide) hR40 Kb353)
        replace O98 := own_keep0 O98 Kb353
        replace hX121 := (Rd.keep0 (by omega) hX121 Kb353)
        have hgo := one_go (t := (⟨o, d, lf, (S, K)⟩ : Sr LS_)) hal hx hna hbit (fun j z hz => hwt j z (by have := (List.getElem?_eq_some_iff.1 hz).1; omega) hz) hst
        have hq1 : (b72 ≠ mb73 ∧ b72 ≠ kb74 ∧ mb73 ≠ kb74) ∧ b72 ≠ b319 ∧ mb73 ≠ b319 ∧ kb74 ≠ b319 := by omega
        have hyA : ∀ z, StC.At w350 110 (fun i => w1.heap.size ≤ i ∧ i < w350.heap.size ∧ i ≠ b319) (⟨o ++ [na], A345, c346, d ||| 1 <<< i, z, b72, ((doS S K x.c.op), (doK S K x.c.op))⟩ : StC) := fun z => ⟨OwnT.rd hO341, fun i hi => ⟨(World.ownsRow.lt hO341 i hi).1, (World.ownsRow.lt hO341 i hi).2, by have := ob348 i hi; omega⟩, mb73, kb74, m89, H77, Hm94, Hk95, hq1.1, hB96, ⟨ox86, H77.lt, hq1.2.1⟩, ⟨ox87, Hm94.lt, hq1.2.2.1⟩, ⟨ox88, Hk95.lt, hq1.2.2.2⟩⟩
        refine next_tail w350 ln m0 b2 b3 b16 b319 i l.length LA lc x A345 (o ++ [na]).length c346 (d ||| 1 <<< i) b72 lf T (J ((probH (XS l a)).nth (⟨o, d, lf, (S, K)⟩ : Sr LS_) (i + 1))) H37 H351 (by omega) (by omega) (fun W1 k1 => ?_) (fun w9 hj9 k9 => ?_)
        ·rw [Prob.nth_some hgo]
         refine hY _ _ _ W1 hj (hcx.trans k1 (U := none_) (fun _ _ h => h) (fun i hi h => by have h : i = b319 := h; exfalso; omega)) hWw (Prob.nth_lt (by show i < (XS l a).length; rw [xs_len hal]; omega) hgo) ⟨(⟨o ++ [na], A345, c346, d ||| 1 <<< i, (if x.c.told then lf - 1 else lf), b72, ((doS S K x.c.op), (doK S K x.c.op))⟩ : StC), rfl, Prob.nth_at (by show i < (XS l a).length; rw [xs_len hal]; omega) hgo, ?_⟩
         exact ((hyA _).keep k1 (fun i hi h => hi.2.2 h)).mono (fun i hi => ⟨hi.1, Nat.lt_of_lt_of_le hi.2.1 k1.size⟩)
        clear H37 H77 Hm94 Hk95 H119 H253 H351
        replace K31 := K31.trans k9 (U := (fun i => T i)) (fun i h1 h2 => h2) (fun i h1 h2 => by have h2 : T i ∨ i = b319 := h2; rcases h2 with h2 | h2; (exact h2); (exfalso; omega))
        replace H35 := H35.keep k9 (by intro h; change T b2 ∨ b2 = b319 at h; rcases h with h | h; (have := hTb2 b2 h; omega); (omega))
        replace H36 := H36.keep k9 (by intro h; change T b3 ∨ b3 = b319 at h; rcases h with h | h; (have := hTb3 b3 h; omega); (omega))
        replace H32 := H32.keep k9 (by intro h; change T b ∨ b = b319 at h; rcases h with h | h; (have := hTb b h; omega); (omega))
        replace H33 := H33.keep k9 (by intro h; change T mb ∨ mb = b319 at h; rcases h with h | h; (have := hTmb mb h; omega); (omega))
        replace H34 := H34.keep k9 (by intro h; change T kb ∨ kb = b319 at h; rcases h with h | h; (have := hTkb kb h; omega); (omega))
        refine qr_region Open.wide (by kernel_rfl) (by kernel_rfl) ?_
        refine og 1 [(0, (Value.func (Fn.yield ln) #[] #[])), (1, (ptr b2)), (2, (ptr b3)), (12, (Value.slice LA l.length lc)), (13, (i64 ((l.length : Nat) : Int))), (14, (i64 ((i : Nat) : Int))), (95, (i64 (IntKind.i64.wrap (((i : Nat) : Int) + 1))))] 1 ?_
        have e354 : IntKind.i64.wrap (((i : Nat) : Int) + 1) = ((i + 1 : Nat) : Int) := by rw [wrap_i64 (by omega) (by omega)]; omega
        rw [e354]
        clear e354
        refine og 1 [(0, (Value.func (Fn.yield ln) #[] #[])), (1, (ptr b2)), (2, (ptr b3)), (12, (Value.slice LA l.length lc)), (13, (i64 ((l.length : Nat) : Int))), (14, (i64 ((i + 1 : Nat) : Int)))] 2 ?_
        refine Ops.keep (R := [(0, (Value.func (Fn.yield ln) #[] #[])), (1, (ptr b2)), (2, (ptr b3)), (12, (Value.slice LA l.length lc)), (13, (i64 ((l.length : Nat) : Int))), (14, (i64 ((i + 1 : Nat) : Int)))]) (by kernel_rfl) ?_
        refine od ?_
        exact ⟨i + 1, ⟨rfl, rfl, hj9, (by omega), K31, H32, H33, H34, H35, H36⟩, (show l.length - (i + 1) < l.length - i from by omega)⟩
      ·skip
       refine Dr1.new (o := rowL [(Value.slice none 0 0), (Value.int IntKind.u64 0), (i64 0), (Value.pointer none)] 73) (V := fun b => (ptr b)) (by kernel_rfl) (d := (some 10)) (by kernel_rfl) (fun b => rfl) (fun b355 w356 hb357 H358 K359 hs360 => ?_)
       have xb355 : w139.heap.size ≤ b355 := by have := Kb141.size; omega
       have nb355 : w.heap.size ≤ b355 := by have := K31.size; omega
       have ox361 : w1.heap.size ≤ b355 := by have := hcx.size; omega
       have Kb362 := Kb141.trans K359 (U := none_) (fun _ _ h => h) (fun i h1 h2 => by exact h2.elim)
       clear Kb141
       refine ⟨(SH.nil Kb362), ?_⟩
       clear K359 hs360
       refine DrS.two (i := 2) (j := 8) (by kernel_rfl) ?_ ?_
       ·skip
        refine Dr1.call (by kernel_rfl) (d := (some 68)) (by kernel_rfl) (CloneI_calls _ OA oc o (Rd.keep0 (by decide) hR40 Kb362) (by omega)) ?_
        rintro _ w365 ⟨A363, c364, rfl, K366, hO367⟩
        have ob369 : ∀ i, ((Value.slice A363 o.length c364)).ownBlock = some i → i ≠ b355 := fun i hi => by have := (World.ownsRow.lt hO367 i hi).1; have := H358.lt; omega
        have oy370 : ∀ i, ((Value.slice A363 o.length c364)).ownBlock = some i → w139.heap.size ≤ i := fun i hi => by have := (World.ownsRow.lt hO367 i hi).1; have := Kb362.size; omega
        have oz371 : ∀ i, ((Value.slice A363 o.length c364)).ownBlock = some i → w1.heap.size ≤ i := fun i hi => by have := (World.ownsRow.lt hO367 i hi).1; have := hcx.size; have := Kb362.size; omega
        have O368 := own_base hO367 (Nat.le_trans hcx.size Kb362.size)
        replace H358 := H358.keep K366 (fun h => h)
        have Kb372 := Kb362.trans K366 (U := none_) (fun _ _ h => h) (fun i h1 h2 => by exact h2.elim)
        clear Kb362
        refine ⟨_, _, rfl, rfl, (SH.nil Kb372), ?_⟩
        clear K366
        refine DrS.one (i := 8) (by kernel_rfl) ?_
        refine Dr1.new (o := rowL [(i64 ((na : Nat) : Int))] 3) (V := fun b => (Value.slice (some ⟨b, 0, none⟩) 1 1)) (by kernel_rfl) (d := (some 74)) (by kernel_rfl) (fun b => rfl) (fun b373 w374 hb375 H376 K377 hs378 => ?_)
        have xb373 : w139.heap.size ≤ b373 := by have := Kb372.size; omega
        have lb373b355 : b355 < b373 := by have := H358.lt; omega
        have nb373 : w.heap.size ≤ b373 := by have := K31.size; omega
        have ox379 : w1.heap.size ≤ b373 := by have := hcx.size; omega
        have ob380 : ∀ i, ((Value.slice A363 o.length c364)).ownBlock = some i → i < b373 := fun i hi => by have := (World.ownsRow.lt O368 i hi).2; omega
        replace H358 := H358.keep K377 (fun h => h)
        replace O368 := own_keep0 O368 K377
        have Kb381 := Kb372.trans K377 (U := none_) (fun _ _ h => h) (fun i h1 h2 => by exact h2.elim)
        clear Kb372
        refine ⟨(SH.nil Kb381), ?_⟩
        clear K377 hs378
        refine DrS.one (i := 9) (by kernel_rfl) ?_
        obtain ⟨v382, w383, hr384, hO385, hK386, hg387⟩ := OwnT.app (ty := 35) iN_one iN_cells tyI O368 (show RdT _ 1 iN _ [na] from Rd.lit H376 (n := 1) rfl (by decide)) (by simp only [List.length_cons, List.length_nil]; omega) (by simp only [List.length_cons, List.length_nil]; omega) (Nat.le_trans hcx.size Kb381.size)
        obtain ⟨A389, c390, rfl⟩ := RdT.form iN_one (by decide) (OwnT.rd hO385)
        have ob391 : ∀ i, ((Value.slice A389 ((o ++ [na]).length) c390)).ownBlock = some i → i ≠ b355 := fun i hi => by rcases hg387 i hi with h | h; (have := ob369 i h; omega); (have := H358.lt; omega)
        have ob392 : ∀ i, ((Value.slice A389 ((o ++ [na]).length) c390)).ownBlock = some i → i ≠ b373 := fun i hi => by rcases hg387 i hi with h | h; (have := ob380 i h; omega); (have := H376.lt; omega)
        have K388 := hK386
        replace H358 := H358.keep K388 (by intro h; change ((Value.slice A363 o.length c364)).ownBlock = some b355 at h; have := ob369 b355 h; omega)
        replace H376 := H376.keep K388 (by intro h; change ((Value.slice A363 o.length c364)).ownBlock = some b373 at h; have := ob380 b373 h; omega)
        clear O368
        have Kb393 := Kb381.trans K388 (U := none_) (fun _ _ h => h) (fun i h1 h2 => by have h2 : ((Value.slice A363 o.length c364)).ownBlock = some i := h2; exfalso; have := oy370 i h2; omega)
        clear Kb381
        refine Dr1.go (v := (Value.slice A389 ((o ++ [na]).length) c390)) (by kernel_rfl) (Runs.append (ts := #[35, 35]) (ty := 35) (vs := [(Value.slice A363 o.length c364), (Value.slice (some ⟨b373, 0, none⟩) 1 1)]) (by kernel_rfl) hr384) (d := (some 75)) (by kernel_rfl) rfl (SH.nil Kb393) ?_
        clear K388 hr384 hK386 hg387
        refine DrS.takes (fuel' := 1) (is' := _) [18] [(0, (Value.func (Fn.yield ln) #[] #[])), (1, (ptr b2)), (2, (ptr b3)), (5, (ptr b16)), (10, (ptr b355)), (12, (Value.slice LA l.length lc)), (13, (i64 ((l.length : Nat) : Int))), (14, (i64 ((i : Nat) : Int))), (28, (i64 ((kk : Nat) : Int))), (84, (agg [(Value.slice A389 ((o ++ [na]).length) c390), (Value.int IntKind.u64 ((d ||| 1 <<< i : Nat) : Int)), (i64 lf), (ptr b72)]))] (by kernel_rfl) rfl (by kernel_rfl) ?_
        refine DrS.one (i := 20) (by kernel_rfl) ?_
        refine Dr1.put (t := 73) (b := b355) (off := 0) (v := (agg [(Value.slice A389 ((o ++ [na]).length) c390), (Value.int IntKind.u64 ((d ||| 1 <<< i : Nat) : Int)), (i64 lf), (ptr b72)])) (ys := [(Value.slice A389 ((o ++ [na]).length) c390), (Value.int IntKind.u64 ((d ||| 1 <<< i : Nat) : Int)), (i64 lf), (ptr b72)]) (by kernel_rfl) (by kernel_rfl) H358 (by kernel_rfl) (d := none) (by kernel_rfl) rfl (fun w394 H395 K396 => ?_)
        clear H358
        replace H376 := H376.k1 K396 (by omega)
        replace hO385 := own_keep hO385 K396 (fun i hi => by have := ob391 i hi; omega)
        have Kb397 := Kb393.trans K396 (U := none_) (fun _ _ h => h) (fun i h1 h2 => by have h2 : i = b355 := h2; exfalso; have := xb355; omega)
        clear Kb393
        refine ⟨(SH.nil Kb397), ?_⟩
        clear K396
        refine DrS.keep (R := [(0, (Value.func (Fn.yield ln) #[] #[])), (1, (ptr b2)), (2, (ptr b3)), (5, (ptr b16)), (10, (ptr b355)), (12, (Value.slice LA l.length lc)), (13, (i64 ((l.length : Nat) : Int))), (14, (i64 ((i : Nat) : Int)))]) (by kernel_rfl) ?_
        refine DrS.done (by kernel_rfl) ?_
        replace K31 := K31.trans Kb397 (U := (fun i => T i)) (fun i h1 h2 => h2) (fun i h1 h2 => by exact h2.elim)
        replace H32 := H32.keep Kb397 (fun h => h)
        replace H33 := H33.keep Kb397 (fun h => h)
        replace H34 := H34.keep Kb397 (fun h => h)
        replace H35 := H35.keep Kb397 (fun h => h)
        replace H36 := H36.keep Kb397 (fun h => h)
        replace H37 := H37.keep Kb397 (fun h => h)
        replace H77 := H77.keep Kb397 (fun h => h)
        replace Hm94 := Hm94.keep Kb397 (fun h => h)
        replace Hk95 := Hk95.keep Kb397 (fun h => h)
        replace H119 := H119.keep Kb397 (fun h => h)
        replace hcx := hcx.trans Kb397 (fun _ _ h => h) (fun _ _ h => h)
        replace hR38 := (Rd.keep0 (by decide) hR38 Kb397)
        replace hR39 := (Rd.keep0 (by decide) hR39 Kb397)
        replace hR40 := (Rd.keep0 (by decide) hR40 Kb397)
        replace O98 := own_keep0 O98 Kb397
        replace hX121 := (Rd.keep0 (by omega) hX121 Kb397)
        have hgo := one_go (t := (⟨o, d, lf, (S, K)⟩ : Sr LS_)) hal hx hna hbit (fun j z hz => hwt j z (by have := (List.getElem?_eq_some_iff.1 hz).1; omega) hz) hst
        have hq1 : (b72 ≠ mb73 ∧ b72 ≠ kb74 ∧ mb73 ≠ kb74) ∧ b72 ≠ b355 ∧ mb73 ≠ b355 ∧ kb74 ≠ b355 := by omega
        have hyA : ∀ z, StC.At w394 110 (fun i => w1.heap.size ≤ i ∧ i < w394.heap.size ∧ i ≠ b355) (⟨o ++ [na], A389, c390, d ||| 1 <<< i, z, b72, ((doS S K x.c.op), (doK S K x.c.op))⟩ : StC) := fun z => ⟨OwnT.rd hO385, fun i hi => ⟨(World.ownsRow.lt hO385 i hi).1, (World.ownsRow.lt hO385 i hi).2, by have := ob391 i hi; omega⟩, mb73, kb74, m89, H77, Hm94, Hk95, hq1.1, hB96, ⟨ox86, H77.lt, hq1.2.1⟩, ⟨ox87, Hm94.lt, hq1.2.2.1⟩, ⟨ox88, Hk95.lt, hq1.2.2.2⟩⟩
        refine next_tail w394 ln m0 b2 b3 b16 b355 i l.length LA lc x A389 (o ++ [na]).length c390 (d ||| 1 <<< i) b72 lf T (J ((probH (XS l a)).nth (⟨o, d, lf, (S, K)⟩ : Sr LS_) (i + 1))) H37 H395 (by omega) (by omega) (fun W1 k1 => ?_) (fun w9 hj9 k9 => ?_)
        ·rw [Prob.nth_some hgo]
         refine hY _ _ _ W1 hj (hcx.trans k1 (U := none_) (fun _ _ h => h) (fun i hi h => by have h : i = b355 := h; exfalso; omega)) hWw (Prob.nth_lt (by show i < (XS l a).length; rw [xs_len hal]; omega) hgo) ⟨(⟨o ++ [na], A389, c390, d ||| 1 <<< i, (if x.c.told then lf - 1 else lf), b72, ((doS S K x.c.op), (doK S K x.c.op))⟩ : StC), rfl, Prob.nth_at (by show i < (XS l a).length; rw [xs_len hal]; omega) hgo, ?_⟩
         exact ((hyA _).keep k1 (fun i hi h => hi.2.2 h)).mono (fun i hi => ⟨hi.1, Nat.lt_of_lt_of_le hi.2.1 k1.size⟩)
        clear H37 H77 Hm94 Hk95 H119 H395 H376
        replace K31 := K31.trans k9 (U := (fun i => T i)) (fun i h1 h2 => h2) (fun i h1 h2 => by have h2 : T i ∨ i = b355 := h2; rcases h2 with h2 | h2; (exact h2); (exfalso; omega))
        replace H35 := H35.keep k9 (by intro h; change T b2 ∨ b2 = b355 at h; rcases h with h | h; (have := hTb2 b2 h; omega); (omega))
        replace H36 := H36.keep k9 (by intro h; change T b3 ∨ b3 = b355 at h; rcases h with h | h; (have := hTb3 b3 h; omega); (omega))
        replace H32 := H32.keep k9 (by intro h; change T b ∨ b = b355 at h; rcases h with h | h; (have := hTb b h; omega); (omega))
        replace H33 := H33.keep k9 (by intro h; change T mb ∨ mb = b355 at h; rcases h with h | h; (have := hTmb mb h; omega); (omega))
        replace H34 := H34.keep k9 (by intro h; change T kb ∨ kb = b355 at h; rcases h with h | h; (have := hTkb kb h; omega); (omega))
        refine qr_region Open.wide (by kernel_rfl) (by kernel_rfl) ?_
        refine og 1 [(0, (Value.func (Fn.yield ln) #[] #[])), (1, (ptr b2)), (2, (ptr b3)), (12, (Value.slice LA l.length lc)), (13, (i64 ((l.length : Nat) : Int))), (14, (i64 ((i : Nat) : Int))), (95, (i64 (IntKind.i64.wrap (((i : Nat) : Int) + 1))))] 1 ?_
        have e398 : IntKind.i64.wrap (((i : Nat) : Int) + 1) = ((i + 1 : Nat) : Int) := by rw [wrap_i64 (by omega) (by omega)]; omega
        rw [e398]
        clear e398
        refine og 1 [(0, (Value.func (Fn.yield ln) #[] #[])), (1, (ptr b2)), (2, (ptr b3)), (12, (Value.slice LA l.length lc)), (13, (i64 ((l.length : Nat) : Int))), (14, (i64 ((i + 1 : Nat) : Int)))] 2 ?_
        refine Ops.keep (R := [(0, (Value.func (Fn.yield ln) #[] #[])), (1, (ptr b2)), (2, (ptr b3)), (12, (Value.slice LA l.length lc)), (13, (i64 ((l.length : Nat) : Int))), (14, (i64 ((i + 1 : Nat) : Int)))]) (by kernel_rfl) ?_
        refine od ?_
        exact ⟨i + 1, ⟨rfl, rfl, hj9, (by omega), K31, H32, H33, H34, H35, H36⟩, (show l.length - (i + 1) < l.length - i from by omega)⟩
       ·skip
        refine Dr1.new (o := rowL [(i64 ((na : Nat) : Int))] 3) (V := fun b => (Value.slice (some ⟨b, 0, none⟩) 1 1)) (by kernel_rfl) (d := (some 74)) (by kernel_rfl) (fun b => rfl) (fun b399 w400 hb401 H402 K403 hs404 => ?_)
        have xb399 : w139.heap.size ≤ b399 := by have := Kb362.size; omega
        have lb399b355 : b355 < b399 := by have := H358.lt; omega
        have nb399 : w.heap.size ≤ b399 := by have := K31.size; omega
        have ox405 : w1.heap.size ≤ b399 := by have := hcx.size; omega
        replace H358 := H358.keep K403 (fun h => h)
        have Kb406 := Kb362.trans K403 (U := none_) (fun _ _ h => h) (fun i h1 h2 => by exact h2.elim)
        clear Kb362
        refine ⟨(SH.nil Kb406), ?_⟩
        clear K403 hs404
        refine DrS.one (i := 2) (by kernel_rfl) ?_
        refine Dr1.call (by kernel_rfl) (d := (some 68)) (by kernel_rfl) (CloneI_calls _ OA oc o (Rd.keep0 (by decide) hR40 Kb406) (by omega)) ?_
        rintro _ w409 ⟨A407, c408, rfl, K410, hO411⟩
        have ob413 : ∀ i, ((Value.slice A407 o.length c408)).ownBlock = some i → i ≠ b355 := fun i hi => by have := (World.ownsRow.lt hO411 i hi).1; have := H358.lt; omega
        have ob414 : ∀ i, ((Value.slice A407 o.length c408)).ownBlock = some i → i ≠ b399 := fun i hi => by have := (World.ownsRow.lt hO411 i hi).1; have := H402.lt; omega
        have oy415 : ∀ i, ((Value.slice A407 o.length c408)).ownBlock = some i → w139.heap.size ≤ i := fun i hi => by have := (World.ownsRow.lt hO411 i hi).1; have := Kb406.size; omega
        have oz416 : ∀ i, ((Value.slice A407 o.length c408)).ownBlock = some i → w1.heap.size ≤ i := fun i hi => by have := (World.ownsRow.lt hO411 i hi).1; have := hcx.size; have := Kb406.size; omega
        have O412 := own_base hO411 (Nat.le_trans hcx.size Kb406.size)
        replace H358 := H358.keep K410 (fun h => h)
        replace H402 := H402.keep K410 (fun h => h)
        have Kb417 := Kb406.trans K410 (U := none_) (fun _ _ h => h) (fun i h1 h2 => by exact h2.elim)
        clear Kb406
        refine ⟨_, _, rfl, rfl, (SH.nil Kb417), ?_⟩
        clear K410
        refine DrS.one (i := 9) (by kernel_rfl) ?_
        obtain ⟨v418, w419, hr420, hO421, hK422, hg423⟩ := OwnT.app (ty := 35) iN_one iN_cells tyI O412 (show RdT _ 1 iN _ [na] from Rd.lit H402 (n := 1) rfl (by decide)) (by simp only [List.length_cons, List.length_nil]; omega) (by simp only [List.length_cons, List.length_nil]; omega) (Nat.le_trans hcx.size Kb417.size)
        obtain ⟨A425, c426, rfl⟩ := RdT.form iN_one (by decide) (OwnT.rd hO421)
        have ob427 : ∀ i, ((Value.slice A425 ((o ++ [na]).length) c426)).ownBlock = some i → i ≠ b355 := fun i hi => by rcases hg423 i hi with h | h; (have := ob413 i h; omega); (have := H358.lt; omega)
        have ob428 : ∀ i, ((Value.slice A425 ((o ++ [na]).length) c426)).ownBlock = some i → i ≠ b399 := fun i hi => by rcases hg423 i hi with h | h; (have := ob414 i h; omega); (have := H402.lt; omega)
        have K424 := hK422
        replace H358 := H358.keep K424 (by intro h; change ((Value.slice A407 o.length c408)).ownBlock = some b355 at h; have := ob413 b355 h; omega)
        replace H402 := H402.keep K424 (by intro h; change ((Value.slice A407 o.length c408)).ownBlock = some b399 at h; have := ob414 b399 h; omega)
        clear O412
        have Kb429 := Kb417.trans K424 (U := none_) (fun _ _ h => h) (fun i h1 h2 => by have h2 : ((Value.slice A407 o.length c408)).ownBlock = some i := h2; exfalso; have := oy415 i h2; omega)
        clear Kb417
        refine Dr1.go (v := (Value.slice A425 ((o ++ [na]).length) c426)) (by kernel_rfl) (Runs.append (ts := #[35, 35]) (ty := 35) (vs := [(Value.slice A407 o.length c408), (Value.slice (some ⟨b399, 0, none⟩) 1 1)]) (by kernel_rfl) hr420) (d := (some 75)) (by kernel_rfl) rfl (SH.nil Kb429) ?_
        clear K424 hr420 hK422 hg423
        refine DrS.takes (fuel' := 1) (is' := _) [18] [(0, (Value.func (Fn.yield ln) #[] #[])), (1, (ptr b2)), (2, (ptr b3)), (5, (ptr b16)), (10, (ptr b355)), (12, (Value.slice LA l.length lc)), (13, (i64 ((l.length : Nat) : Int))), (14, (i64 ((i : Nat) : Int))), (28, (i64 ((kk : Nat) : Int))), (84, (agg [(Value.slice A425 ((o ++ [na]).length) c426), (Value.int IntKind.u64 ((d ||| 1 <<< i : Nat) : Int)), (i64 lf), (ptr b72)]))] (by kernel_rfl) rfl (by kernel_rfl) ?_
        refine DrS.one (i := 20) (by kernel_rfl) ?_
        refine Dr1.put (t := 73) (b := b355) (off := 0) (v := (agg [(Value.slice A425 ((o ++ [na]).length) c426), (Value.int IntKind.u64 ((d ||| 1 <<< i : Nat) : Int)), (i64 lf), (ptr b72)])) (ys := [(Value.slice A425 ((o ++ [na]).length) c426), (Value.int IntKind.u64 ((d ||| 1 <<< i : Nat) : Int)), (i64 lf), (ptr b72)]) (by kernel_rfl) (by kernel_rfl) H358 (by kernel_rfl) (d := none) (by kernel_rfl) rfl (fun w430 H431 K432 => ?_)
        clear H358
        replace H402 := H402.k1 K432 (by omega)
        replace hO421 := own_keep hO421 K432 (fun i hi => by have := ob427 i hi; omega)
        have Kb433 := Kb429.trans K432 (U := none_) (fun _ _ h => h) (fun i h1 h2 => by have h2 : i = b355 := h2; exfalso; have := xb355; omega)
        clear Kb429
        refine ⟨(SH.nil Kb433), ?_⟩
        clear K432
        refine DrS.keep (R := [(0, (Value.func (Fn.yield ln) #[] #[])), (1, (ptr b2)), (2, (ptr b3)), (5, (ptr b16)), (10, (ptr b355)), (12, (Value.slice LA l.length lc)), (13, (i64 ((l.length : Nat) : Int))), (14, (i64 ((i : Nat) : Int)))]) (by kernel_rfl) ?_
        refine DrS.done (by kernel_rfl) ?_
        replace K31 := K31.trans Kb433 (U := (fun i => T i)) (fun i h1 h2 => h2) (fun i h1 h2 => by exact h2.elim)
        replace H32 := H32.keep Kb433 (fun h => h)
        replace H33 := H33.keep Kb433 (fun h => h)
        replace H34 := H34.keep Kb433 (fun h => h)
        replace H35 := H35.keep Kb433 (fun h => h)
        replace H36 := H36.keep Kb433 (fun h => h)
        replace H37 := H37.keep Kb433 (fun h => h)
        replace H77 := H77.keep Kb433 (fun h => h)
        replace Hm94 := Hm94.keep Kb433 (fun h => h)
        replace Hk95 := Hk95.keep Kb433 (fun h => h)
        replace H119 := H119.keep Kb433 (fun h => h)
        replace hcx := hcx.trans Kb433 (fun _ _ h => h) (fun _ _ h => h)
        replace hR38 := (Rd.keep0 (by decide) hR38 Kb433)
        replace hR39 := (Rd.keep0 (by decide) hR39 Kb433)
        replace hR40 := (Rd.keep0 (by decide) hR40 Kb433)
        replace O98 := own_keep0 O98 Kb433
        replace hX121 := (Rd.keep0 (by omega) hX121 Kb433)
        have hgo := one_go (t := (⟨o, d, lf, (S, K)⟩ : Sr LS_)) hal hx hna hbit (fun j z hz => hwt j z (by have := (List.getElem?_eq_some_iff.1 hz).1; omega) hz) hst
        have hq1 : (b72 ≠ mb73 ∧ b72 ≠ kb74 ∧ mb73 ≠ kb74) ∧ b72 ≠ b355 ∧ mb73 ≠ b355 ∧ kb74 ≠ b355 := by omega
        have hyA : ∀ z, StC.At w430 110 (fun i => w1.heap.size ≤ i ∧ i < w430.heap.size ∧ i ≠ b355) (⟨o ++ [na], A425, c426, d ||| 1 <<< i, z, b72, ((doS S K x.c.op), (doK S K x.c.op))⟩ : StC) := fun z => ⟨OwnT.rd hO421, fun i hi => ⟨(World.ownsRow.lt hO421 i hi).1, (World.ownsRow.lt hO421 i hi).2, by have := ob427 i hi; omega⟩, mb73, kb74, m89, H77, Hm94, Hk95, hq1.1, hB96, ⟨ox86, H77.lt, hq1.2.1⟩, ⟨ox87, Hm94.lt, hq1.2.2.1⟩, ⟨ox88, Hk95.lt, hq1.2.2.2⟩⟩
        refine next_tail w430 ln m0 b2 b3 b16 b355 i l.length LA lc x A425 (o ++ [na]).length c426 (d ||| 1 <<< i) b72 lf T (J ((probH (XS l a)).nth (⟨o, d, lf, (S, K)⟩ : Sr LS_) (i + 1))) H37 H431 (by omega) (by omega) (fun W1 k1 => ?_) (fun w9 hj9 k9 => ?_)
        ·rw [Prob.nth_some hgo]
         refine hY _ _ _ W1 hj (hcx.trans k1 (U := none_) (fun _ _ h => h) (fun i hi h => by have h : i = b355 := h; exfalso; omega)) hWw (Prob.nth_lt (by show i < (XS l a).length; rw [xs_len hal]; omega) hgo) ⟨(⟨o ++ [na], A425, c426, d ||| 1 <<< i, (if x.c.told then lf - 1 else lf), b72, ((doS S K x.c.op), (doK S K x.c.op))⟩ : StC), rfl, Prob.nth_at (by show i < (XS l a).length; rw [xs_len hal]; omega) hgo, ?_⟩
         exact ((hyA _).keep k1 (fun i hi h => hi.2.2 h)).mono (fun i hi => ⟨hi.1, Nat.lt_of_lt_of_le hi.2.1 k1.size⟩)
        clear H37 H77 Hm94 Hk95 H119 H431 H402
        replace K31 := K31.trans k9 (U := (fun i => T i)) (fun i h1 h2 => h2) (fun i h1 h2 => by have h2 : T i ∨ i = b355 := h2; rcases h2 with h2 | h2; (exact h2); (exfalso; omega))
        replace H35 := H35.keep k9 (by intro h; change T b2 ∨ b2 = b355 at h; rcases h with h | h; (have := hTb2 b2 h; omega); (omega))
        replace H36 := H36.keep k9 (by intro h; change T b3 ∨ b3 = b355 at h; rcases h with h | h; (have := hTb3 b3 h; omega); (omega))
        replace H32 := H32.keep k9 (by intro h; change T b ∨ b = b355 at h; rcases h with h | h; (have := hTb b h; omega); (omega))
        replace H33 := H33.keep k9 (by intro h; change T mb ∨ mb = b355 at h; rcases h with h | h; (have := hTmb mb h; omega); (omega))
        replace H34 := H34.keep k9 (by intro h; change T kb ∨ kb = b355 at h; rcases h with h | h; (have := hTkb kb h; omega); (omega))
        refine qr_region Open.wide (by kernel_rfl) (by kernel_rfl) ?_
        refine og 1 [(0, (Value.func (Fn.yield ln) #[] #[])), (1, (ptr b2)), (2, (ptr b3)), (12, (Value.slice LA l.length lc)), (13, (i64 ((l.length : Nat) : Int))), (14, (i64 ((i : Nat) : Int))), (95, (i64 (IntKind.i64.wrap (((i : Nat) : Int) + 1))))] 1 ?_
        have e434 : IntKind.i64.wrap (((i : Nat) : Int) + 1) = ((i + 1 : Nat) : Int) := by rw [wrap_i64 (by omega) (by omega)]; omega
        rw [e434]
        clear e434
        refine og 1 [(0, (Value.func (Fn.yield ln) #[] #[])), (1, (ptr b2)), (2, (ptr b3)), (12, (Value.slice LA l.length lc)), (13, (i64 ((l.length : Nat) : Int))), (14, (i64 ((i + 1 : Nat) : Int)))] 2 ?_
        refine Ops.keep (R := [(0, (Value.func (Fn.yield ln) #[] #[])), (1, (ptr b2)), (2, (ptr b3)), (12, (Value.slice LA l.length lc)), (13, (i64 ((l.length : Nat) : Int))), (14, (i64 ((i + 1 : Nat) : Int)))]) (by kernel_rfl) ?_
        refine od ?_
        exact ⟨i + 1, ⟨rfl, rfl, hj9, (by omega), K31, H32, H33, H34, H35, H36⟩, (show l.length - (i + 1) < l.length - i from by omega)⟩
 ·rw [h11]
  have p435 : ¬ (((i : Nat) : Int) < ((l.length : Nat) : Int)) := of_decide_eq_false h11
  refine qr_exit (id := 0) (by kernel_rfl) ?_
  refine retR_norm (v := (Value.tuple #[])) (retv_none rfl) ?_
  exact ⟨⟨_, rfl⟩, by rw [← Prob.nth_end (P := (probH (XS l a))) (t := (⟨o, d, lf, (S, K)⟩ : Sr LS_)) (i := i) (by show i = (XS l a).length; rw [xs_len hal]; omega)]; exact hJ _ _ _ hj hcx⟩
end Go.Proofs.YtnbcghbgeiocbaaDoor
namespace Go.Q
open Go.RowKit
section
variable {α : Type} {f : α → List Value} {sz : Nat}
theorem OwnT.flat (hf : ∀ x, (f x).length = sz) {w : World} {base e n c : Nat} {A : Option Addr} {l : List α} (h : OwnT w base e sz f (.slice A n c) l) (h0 : l ≠ []) :
    ∃ g rest, A = some ⟨g, 0, none⟩ ∧ base ≤ g ∧ Has w g (rowL (l.flatMap f ++ rest) e) ∧ ∀ (m : List α) w', m.length = l.length → Has w' g (rowL (m.flatMap f ++ rest) e) → OwnT w' base e sz f (.slice A n c) m := by
  obtain ⟨hl, h⟩ := h
  rcases h with ⟨_, hn⟩ | ⟨g, cap, cur, hv, hb, hg, h1, h2, h3, h4⟩
  · exact absurd (List.eq_nil_of_length_eq_zero hn) h0
  · injection hv with e1 e2 e3
    subst e1; subst e2; subst e3
    refine ⟨g, cur.toList.drop (l.length * sz), rfl, hb, ?_, fun m w' hm H => ?_⟩
    · rw [← h4, List.take_append_drop]; exact hg
    · refine ⟨by rw [flat_len hf, hm], .inr ⟨g, c, ⟨m.flatMap f ++ cur.toList.drop (l.length * sz)⟩, by rw [hm], hb, H, by rw [hm]; exact h1, h2, ?_, ?_⟩⟩
      · have : (l.flatMap f).length = l.length * sz := flat_len hf l
        have h5 : cur.toList.length = c * sz := by simpa using h3
        have h6 : l.length * sz ≤ c * sz := Nat.mul_le_mul_right _ h1
        show (m.flatMap f ++ cur.toList.drop (l.length * sz)).length = _
        rw [List.length_append, flat_len hf, List.length_drop, hm, h5]; omega
      · show List.take (m.length * sz) (m.flatMap f ++ _) = _
        rw [← flat_len hf m, List.take_left]
theorem flat_len_at (hf : ∀ x, (f x).length = sz) {l : List α} {k : Nat} {x : α} {rest : List Value} (h : l[k]? = some x) : k * sz + (f x).length ≤ (l.flatMap f ++ rest).length := by
  have hk := (List.getElem?_eq_some_iff.1 h).1
  have : (k + 1) * sz ≤ l.length * sz := Nat.mul_le_mul_right _ hk
  rw [List.length_append, flat_len hf, hf]
  rw [Nat.add_mul] at this
  omega
theorem flat_len_set (hf : ∀ x, (f x).length = sz) {l : List α} {k : Nat} {x : α} {rest : List Value} (y : α) (h : l[k]? = some x) : k * sz + (f y).length ≤ (l.flatMap f ++ rest).length := by
  have := flat_len_at hf (rest := rest) h
  rw [hf] at this ⊢; exact this
theorem flat_load (hf : ∀ x, (f x).length = sz) {l : List α} {k : Nat} {x : α} {rest : List Value} (h : l[k]? = some x) : ((l.flatMap f ++ rest).drop (k * sz)).take (f x).length = f x := by
  have hk := (List.getElem?_eq_some_iff.1 h).1
  rw [flat_split h]
  have e : k * sz = ((l.take k).flatMap f).length := by rw [flat_len hf, List.length_take]; congr 1; omega
  rw [e, List.append_assoc, List.append_assoc, List.drop_left, List.take_left]
theorem flat_store (hf : ∀ x, (f x).length = sz) {l : List α} {k : Nat} {x : α} {rest : List Value} (y : α) (h : l[k]? = some x) : (l.flatMap f ++ rest).take (k * sz) ++ f y ++ (l.flatMap f ++ rest).drop (k * sz + (f y).length) = (l.set k y).flatMap f ++ rest := by
  have hk := (List.getElem?_eq_some_iff.1 h).1
  rw [flat_setx h, flat_split h]
  have e : k * sz = ((l.take k).flatMap f).length := by rw [flat_len hf, List.length_take]; congr 1; omega
  have e2 : k * sz + (f y).length = ((l.take k).flatMap f ++ f x).length := by rw [List.length_append, e, hf, hf]
  rw [e2, e]
  simp only [List.append_assoc]
  rw [List.take_left, ← List.append_assoc (List.flatMap f (List.take k l)) (f x), List.drop_left]
end
/-! ### turned round in place -/
section
variable {α : Type}
/-- The first i elements and the last i have been exchanged. -/
def RevI (l m : List α) (i : Nat) : Prop := m.length = l.length ∧ ∀ k, k < l.length → m[k]? = if k < i ∨ l.length ≤ k + i then l[l.length - 1 - k]? else l[k]?
theorem RevI.zero (l : List α) : RevI l l 0 := ⟨rfl, fun k hk => by rw [if_neg (by omega)]⟩
theorem RevI.step {l m : List α} {i j : Nat} {x y : α} (h : RevI l m i) (hj : i + j + 1 = l.length) (hij : i < j) (hx : m[i]? = some x) (hy : m[j]? = some y) : RevI l ((m.set i y).set j x) (i + 1) := by
  refine ⟨by rw [List.length_set, List.length_set]; exact h.1, fun k hk => ?_⟩
  have hml := h.1
  have hxi := h.2 i (by omega)
  have hyj := h.2 j (by omega)
  rw [hx, if_neg (by omega)] at hxi
  rw [hy, if_neg (by omega)] at hyj
  by_cases h1 : k = j
  · subst h1
    rw [List.getElem?_set_self (by rw [List.length_set]; omega), if_pos (by omega), hxi]
    congr 1; omega
  · rw [List.getElem?_set_ne (fun q => h1 q.symm)]
    by_cases h2 : k = i
    · subst h2
      rw [List.getElem?_set_self (by omega), if_pos (by omega), hyj]
      congr 1; omega
    · rw [List.getElem?_set_ne (fun q => h2 q.symm), h.2 k hk]
      by_cases h3 : k < i ∨ l.length ≤ k + i
      · rw [if_pos h3, if_pos (by omega)]
      · rw [if_neg h3, if_neg (by omega)]
theorem RevI.done {l m : List α} {i : Nat} (h : RevI l m i) (hi : l.length ≤ 2 * i + 1) : m = l.reverse := by
  apply List.ext_getElem?
  intro k
  by_cases hk : k < l.length
  · rw [h.2 k hk, List.getElem?_reverse hk]
    by_cases h3 : k < i ∨ l.length ≤ k + i
    · rw [if_pos h3]
    · rw [if_neg h3]; congr 1; omega
  · rw [List.getElem?_eq_none (by rw [h.1]; omega), List.getElem?_eq_none (by rw [List.length_reverse]; omega)]
end
/-! ### what led nowhere -/
/-- A state's ledger, as a row of ledgers has it. -/
def StC.led (x : StC) : List Value := [.pointer (some ⟨x.b, 0, none⟩)]
theorem StC.led1 (x : StC) : x.led.length = 1 := rfl
theorem StC.led1c (x : StC) : oneCells x.led = true := rfl
noncomputable def sameB (a b : LS_) : Bool := @decide (sameL a b) (Classical.propDecidable _)
theorem sameB_iff (a b : LS_) : sameB a b = true ↔ sameL a b := by unfold sameB; exact @decide_eq_true_iff _ (Classical.propDecidable _)
section
variable {σ : Type} {P : Prob σ} {same : σ → σ → Bool} {f : Nat} {t : Sr σ} {st : List (Sr σ)} {D : List (Nat × σ)} {R : List Nat × Bool}
theorem run_end (h : P.run same f [] D = some R) : R = ([], false) := by
  cases f with
  | zero => cases h
  | succ f => exact (Option.some.inj h).symm
theorem run_left0 (h : P.run same f (t :: st) D = some R) (h0 : t.left = 0) : R = (t.order, true) := by
  cases f with
  | zero => cases h
  | succ f =>
    have h : (if t.left = 0 then some (t.order, true) else if dullS same D t then P.run same f st D else P.run same f (P.nexts t ++ st) ((t.done, t.s) :: D)) = some R := h
    rw [if_pos h0] at h
    exact (Option.some.inj h).symm
theorem run_dull (h : P.run same f (t :: st) D = some R) (h0 : t.left ≠ 0) (hd : dullS same D t = true) : ∃ f', f' < f ∧ P.run same f' st D = some R := by
  cases f with
  | zero => cases h
  | succ f =>
    have h : (if t.left = 0 then some (t.order, true) else if dullS same D t then P.run same f st D else P.run same f (P.nexts t ++ st) ((t.done, t.s) :: D)) = some R := h
    rw [if_neg h0, if_pos hd] at h
    exact ⟨f, Nat.lt_succ_self _, h⟩
theorem run_go (h : P.run same f (t :: st) D = some R) (h0 : t.left ≠ 0) (hd : ¬ dullS same D t = true) : ∃ f', f' < f ∧ P.run same f' (P.nexts t ++ st) ((t.done, t.s) :: D) = some R := by
  cases f with
  | zero => cases h
  | succ f =>
    have h : (if t.left = 0 then some (t.order, true) else if dullS same D t then P.run same f st D else P.run same f (P.nexts t ++ st) ((t.done, t.s) :: D)) = some R := h
    rw [if_neg h0, if_neg hd] at h
    exact ⟨f, Nat.lt_succ_self _, h⟩
end
theorem eq_nil_or_snoc {α : Type} : ∀ l : List α, l = [] ∨ ∃ m x, l = m ++ [x]
  | [] => .inl rfl
  | a :: l => .inr ⟨(a :: l).dropLast, (a :: l).getLast (by simp), (List.dropLast_concat_getLast (by simp)).symm⟩
theorem ownN {A : Option Addr} {n m c d : Nat} : (Value.slice A n c).ownBlock = (Value.slice A m d).ownBlock := by cases A <;> rfl
end Go.Q
namespace Go.Proofs.YtnbcghbgeiocbaaDoor
open Go.Q Go.RowKit

theorem pop_nil (w : World) (s : Nat) (A : Option Addr) (c : Nat) (Hs : Has w s (rowL [.slice A 0 c] 77)) : Calls Tryd.prog 30 ⟨[(ptr s)]⟩ w (fun e w' => e = .returned (.tuple #[agg [(Value.slice none 0 0), (Value.int IntKind.u64 0), (i64 0), (Value.pointer none)], .bool false]) ∧ Keeps none_ w w') := by
 have Hsl := Hs.lt
 have K0 : Keeps none_ w w := Keeps.refl w
 refine q_calls Tryd.func30 (by kernel_rfl) (by kernel_rfl) ?_
 refine qs ?_
 refine qg ?_
 refine Ops.new (o := rowL [(Value.slice none 0 0), (Value.int IntKind.u64 0), (i64 0), (Value.pointer none)] 73) (V := fun b => (ptr b)) (by kernel_rfl) (d := (some 2)) (by kernel_rfl) (fun b => rfl) (fun b1 w2 hb3 H4 K5 hs6 => ?_)
 have lb1s : s < b1 := by have := Hs.lt; omega
 have nb1 : w.heap.size ≤ b1 := by have := K0.size; omega
 replace K0 := K0.t0 K5
 replace Hs := Hs.keep K5 (fun h => h)
 clear K5 hs6
 refine og 1 [(0, (ptr s)), (2, (ptr b1)), (3, (Value.bool false))] 2 ?_
 refine od ?_
 refine qs ?_
 refine qg ?_
 refine Ops.new (o := rowL [(Value.slice none 0 0), (Value.int IntKind.u64 0), (i64 0), (Value.pointer none)] 73) (V := fun b => (ptr b)) (by kernel_rfl) (d := (some 4)) (by kernel_rfl) (fun b => rfl) (fun b7 w8 hb9 H10 K11 hs12 => ?_)
 have lb7s : s < b7 := by have := Hs.lt; omega
 have lb7b1 : b1 < b7 := by have := H4.lt; omega
 have nb7 : w.heap.size ≤ b7 := by have := K0.size; omega
 replace K0 := K0.t0 K11
 replace Hs := Hs.keep K11 (fun h => h)
 replace H4 := H4.keep K11 (fun h => h)
 clear K11 hs12
 refine od ?_
 refine qs ?_
 refine qs ?_
 refine qg ?_
 refine og 3 [(0, (ptr s)), (2, (ptr b1)), (3, (Value.bool false)), (4, (ptr b7)), (8, (ptr s))] 3 ?_
 refine Ops.go (v := (Value.slice A 0 c)) (by kernel_rfl) (Runs.load (t := 75) (a := ⟨s, 0, none⟩) (by kernel_rfl) (Hs.loads (by kernel_rfl))) (d := (some 9)) (by kernel_rfl) rfl ?_
 refine og 2 [(0, (ptr s)), (2, (ptr b1)), (3, (Value.bool false)), (4, (ptr b7)), (11, (Value.bool true))] 6 ?_
 refine od ?_
 refine q_then (o := .tmp 11) (by kernel_rfl) rfl ?_
 refine qs ?_
 refine qg ?_
 refine Ops.go (v := (agg [(Value.slice none 0 0), (Value.int IntKind.u64 0), (i64 0), (Value.pointer none)])) (by kernel_rfl) (Runs.load (t := 73) (a := ⟨b7, 0, none⟩) (by kernel_rfl) (H10.loads (by kernel_rfl))) (d := (some 12)) (by kernel_rfl) rfl ?_
 refine Ops.put (t := 73) (b := b1) (off := 0) (v := (agg [(Value.slice none 0 0), (Value.int IntKind.u64 0), (i64 0), (Value.pointer none)])) (ys := [(Value.slice none 0 0), (Value.int IntKind.u64 0), (i64 0), (Value.pointer none)]) (by kernel_rfl) (by kernel_rfl) H4 (by kernel_rfl) (d := none) (by kernel_rfl) rfl (fun w13 H14 K15 => ?_)
 clear H4
 replace K0 := K0.trans K15 (U := none_) (fun i h1 h2 => h2) (fun i h1 h2 => by have h2 : i = b1 := h2; exfalso; omega)
 replace Hs := Hs.k1 K15 (by omega)
 replace H10 := H10.k1 K15 (by omega)
 clear K15
 refine og 1 [(0, (ptr s)), (2, (ptr b1)), (3, (Value.bool false))] 3 ?_
 refine od ?_
 refine q_ret (by kernel_rfl) ?_
 refine ⟨(Value.tuple #[(agg [(Value.slice none 0 0), (Value.int IntKind.u64 0), (i64 0), (Value.pointer none)]), (Value.bool false)]), retv_cell_tmp rfl rfl (H14.loads (by kernel_rfl)) rfl, ?_⟩
 exact ⟨rfl, K0⟩

theorem pop_some (w : World) (s base : Nat) (A : Option Addr) (c n : Nat) (l : List StC) (x : StC) (Hs : Has w s (rowL [(Value.slice A n c)] 77)) (hO : OwnT w base 73 4 StC.cells (Value.slice A n c) (l ++ [x])) (hn : n = l.length + 1) (hVs : ∀ i, ((Value.slice A n c)).ownBlock = some i → i ≠ s) (hl : l.length ≤ 1000000000) : Calls Tryd.prog 30 ⟨[(ptr s)]⟩ w (fun e w' => e = .returned (.tuple #[agg [(Value.slice x.A x.order.length x.k), (Value.int IntKind.u64 ((x.done : Nat) : Int)), (i64 x.left), (ptr x.b)], .bool true]) ∧ Keeps (fun i => i = s) w w' ∧ Has w' s (rowL [(Value.slice A l.length c)] 77) ∧ OwnT w' base 73 4 StC.cells (Value.slice A l.length c) l) := by
 have Hsl := Hs.lt
 have hcap := RdT.len StC.two (by decide) (OwnT.rd hO)
 have K0 : Keeps (fun i => i = s) w w := (Keeps.refl w).mono (fun _ _ h => h.elim)
 refine q_calls Tryd.func30 (by kernel_rfl) (by kernel_rfl) ?_
 refine qs ?_
 refine qg ?_
 refine Ops.new (o := rowL [(Value.slice none 0 0), (Value.int IntKind.u64 0), (i64 0), (Value.pointer none)] 73) (V := fun b => (ptr b)) (by kernel_rfl) (d := (some 2)) (by kernel_rfl) (fun b => rfl) (fun b1 w2 hb3 H4 K5 hs6 => ?_)
 have lb1s : s < b1 := by have := Hs.lt; omega
 have nb1 : w.heap.size ≤ b1 := by have := K0.size; omega
 have ob7 : ∀ i, ((Value.slice A n c)).ownBlock = some i → i < b1 := fun i hi => by have := (World.ownsRow.lt hO i hi).2; omega
 replace K0 := K0.tn K5
 replace Hs := Hs.keep K5 (fun h => h)
 replace hO := own_keep0 hO K5
 clear K5 hs6
 refine og 1 [(0, (ptr s)), (2, (ptr b1)), (3, (Value.bool false))] 2 ?_
 refine od ?_
 refine qs ?_
 refine qg ?_
 refine Ops.new (o := rowL [(Value.slice none 0 0), (Value.int IntKind.u64 0), (i64 0), (Value.pointer none)] 73) (V := fun b => (ptr b)) (by kernel_rfl) (d := (some 4)) (by kernel_rfl) (fun b => rfl) (fun b8 w9 hb10 H11 K12 hs13 => ?_)
 have lb8s : s < b8 := by have := Hs.lt; omega
 have lb8b1 : b1 < b8 := by have := H4.lt; omega
 have nb8 : w.heap.size ≤ b8 := by have := K0.size; omega
 have ob14 : ∀ i, ((Value.slice A n c)).ownBlock = some i → i < b8 := fun i hi => by have := (World.ownsRow.lt hO i hi).2; omega
 replace K0 := K0.tn K12
 replace Hs := Hs.keep K12 (fun h => h)
 replace H4 := H4.keep K12 (fun h => h)
 replace hO := own_keep0 hO K12
 clear K12 hs13
 refine od ?_
 refine qs ?_
 refine qs ?_
 refine qg ?_
 refine og 3 [(0, (ptr s)), (2, (ptr b1)), (3, (Value.bool false)), (4, (ptr b8)), (8, (ptr s))] 3 ?_
 refine Ops.go (v := (Value.slice A n c)) (by kernel_rfl) (Runs.load (t := 75) (a := ⟨s, 0, none⟩) (by kernel_rfl) (Hs.loads (by kernel_rfl))) (d := (some 9)) (by kernel_rfl) rfl ?_
 refine og 2 [(0, (ptr s)), (2, (ptr b1)), (3, (Value.bool false)), (4, (ptr b8)), (11, (Value.bool (((n : Nat) : Int) == 0)))] 6 ?_
 refine od ?_
 have h15 : (((n : Nat) : Int) == 0) = false := beq_f (by omega)
 rw [h15]
 refine q_else (o := .tmp 11) (by kernel_rfl) rfl ?_
 refine q_skip (by kernel_rfl) ?_
 refine qs ?_
 refine q_drawS 14 (by kernel_rfl) (by kernel_rfl) (by kernel_rfl) (fun w16 K17 _ _ => ?_)
 replace K0 := K0.tn K17
 replace Hs := Hs.keep K17 (fun h => h)
 replace H4 := H4.keep K17 (fun h => h)
 replace H11 := H11.keep K17 (fun h => h)
 replace hO := own_keep0 hO K17
 clear K17
 have Kb18 : Keeps none_ w16 w16 := Keeps.refl w16
 refine ⟨fun wz => Keeps none_ w16 wz, [], (SH.nil Kb18), ?_⟩
 refine DrS.takes (fuel' := 11) (is' := _) [0, 1, 2] [(0, (ptr s)), (2, (ptr b1)), (3, (Value.bool false)), (15, (ptr s))] (by kernel_rfl) rfl (by kernel_rfl) ?_
 refine DrS.take (i := 3) (v := (Value.slice A n c)) (by kernel_rfl) (by kernel_rfl) (fun wz hS => Runs.load (t := 75) (a := ⟨s, 0, none⟩) (by kernel_rfl) ((Hs.keep hS (fun h => h)).loads (by kernel_rfl))) (d := (some 16)) (by kernel_rfl) rfl ?_
 refine DrS.takes (fuel' := 7) (is' := _) [4, 5, 6] [(0, (ptr s)), (2, (ptr b1)), (3, (Value.bool false)), (16, (Value.slice A n c)), (19, (ptr s))] (by kernel_rfl) rfl (by kernel_rfl) ?_
 refine DrS.take (i := 7) (v := (Value.slice A n c)) (by kernel_rfl) (by kernel_rfl) (fun wz hS => Runs.load (t := 75) (a := ⟨s, 0, none⟩) (by kernel_rfl) ((Hs.keep hS (fun h => h)).loads (by kernel_rfl))) (d := (some 20)) (by kernel_rfl) rfl ?_
 refine DrS.takes (fuel' := 4) (is' := _) [8, 9] [(0, (ptr s)), (2, (ptr b1)), (3, (Value.bool false)), (16, (Value.slice A n c)), (22, (i64 (IntKind.i64.wrap (((n : Nat) : Int) - 1))))] (by kernel_rfl) rfl (by kernel_rfl) ?_
 have e19 : IntKind.i64.wrap (((n : Nat) : Int) - 1) = ((l.length : Nat) : Int) := by rw [wrap_i64 (by omega) (by omega)]; omega
 rw [e19]
 obtain ⟨rb20, ro21, hA22⟩ := Rd.addr (OwnT.rd hO) (by omega)
 refine DrS.take (i := 10) (v := (Value.pointer (some ⟨rb20, ro21 + l.length * 4, none⟩))) (by kernel_rfl) (by kernel_rfl) (fun wz hS => Runs.ixSliceE (k := IntKind.i64) (t := 75) (len := n) (cap := c) (s := 4) (off' := ro21 + l.length * 4) (i := ((l.length : Nat) : Int)) hA22 (by kernel_rfl) (by kernel_rfl) (by omega) (by omega) (by omega)) (d := (some 23)) (by kernel_rfl) rfl ?_
 refine DrS.take (i := 11) (v := (agg [(Value.slice x.A x.order.length x.k), (Value.int IntKind.u64 ((x.done : Nat) : Int)), (i64 x.left), (ptr x.b)])) (by kernel_rfl) (by kernel_rfl) (fun wz hS => Runs.load (t := 73) (a := ⟨rb20, ro21 + l.length * 4, none⟩) (by kernel_rfl) (RdT.ld (f := StC.cells) (x := x) StC.two (Rd.keep0 (by decide) (OwnT.rd hO) hS) (by kernel_rfl) (by kernel_rfl) hA22 (List.getElem?_concat_length ..))) (d := (some 24)) (by kernel_rfl) rfl ?_
 refine DrS.one (i := 12) (by kernel_rfl) ?_
 refine Dr1.new (o := rowL [(Value.slice none 0 0), (Value.int IntKind.u64 0), (i64 0), (Value.pointer none)] 73) (V := fun b => (ptr b)) (by kernel_rfl) (d := (some 5)) (by kernel_rfl) (fun b => rfl) (fun b23 w24 hb25 H26 K27 hs28 => ?_)
 have lb23s : s < b23 := by have := Hs.lt; omega
 have lb23b1 : b1 < b23 := by have := H4.lt; omega
 have lb23b8 : b8 < b23 := by have := H11.lt; omega
 have nb23 : w.heap.size ≤ b23 := by have := K0.size; omega
 have ob29 : ∀ i, ((Value.slice A n c)).ownBlock = some i → i < b23 := fun i hi => by have := (World.ownsRow.lt hO i hi).2; omega
 have xb23 : w16.heap.size ≤ b23 := by have := Kb18.size; omega
 replace K0 := K0.tn K27
 replace Hs := Hs.keep K27 (fun h => h)
 replace H4 := H4.keep K27 (fun h => h)
 replace H11 := H11.keep K27 (fun h => h)
 replace hO := own_keep0 hO K27
 have Kb30 := Kb18.trans K27 (U := none_) (fun _ _ h => h) (fun i h1 h2 => by exact h2.elim)
 clear Kb18
 refine ⟨(SH.nil Kb30), ?_⟩
 clear K27 hs28
 refine DrS.one (i := 13) (by kernel_rfl) ?_
 refine Dr1.put (t := 73) (b := b23) (off := 0) (v := (agg [(Value.slice x.A x.order.length x.k), (Value.int IntKind.u64 ((x.done : Nat) : Int)), (i64 x.left), (ptr x.b)])) (ys := [(Value.slice x.A x.order.length x.k), (Value.int IntKind.u64 ((x.done : Nat) : Int)), (i64 x.left), (ptr x.b)]) (by kernel_rfl) (by kernel_rfl) H26 (by kernel_rfl) (d := none) (by kernel_rfl) rfl (fun w31 H32 K33 => ?_)
 clear H26
 replace K0 := K0.trans K33 (U := (fun i => i = s)) (fun i h1 h2 => h2) (fun i h1 h2 => by have h2 : i = b23 := h2; show i = s; omega)
 replace Hs := Hs.k1 K33 (by omega)
 replace H4 := H4.k1 K33 (by omega)
 replace H11 := H11.k1 K33 (by omega)
 replace hO := own_keep hO K33 (fun i hi => by have := ob29 i hi; omega)
 have Kb34 := Kb30.trans K33 (U := none_) (fun _ _ h => h) (fun i h1 h2 => by have h2 : i = b23 := h2; exfalso; have := xb23; omega)
 clear Kb30
 refine ⟨(SH.nil Kb34), ?_⟩
 clear K33
 refine DrS.done (by kernel_rfl) ?_
 refine qs ?_
 refine q_drawS 15 (by kernel_rfl) (by kernel_rfl) (by kernel_rfl) (fun w35 K36 _ _ => ?_)
 replace K0 := K0.tn K36
 replace Hs := Hs.keep K36 (fun h => h)
 replace H4 := H4.keep K36 (fun h => h)
 replace H11 := H11.keep K36 (fun h => h)
 replace H32 := H32.keep K36 (fun h => h)
 replace hO := own_keep0 hO K36
 clear K36
 have Kb37 : Keeps (fun i => i = s) w35 w35 := (Keeps.refl w35).mono (fun _ _ h => h.elim)
 refine ⟨fun wz => Keeps (fun i => i = s) w35 wz, [(14, fun wz => Loads Tryd.prog wz 75 ⟨s, 0, none⟩ (Value.slice A n c))], (SH.cons (SH.nil Kb37) (.inr (Hs.loads (by kernel_rfl)))), ?_⟩
 refine DrS.takes (fuel' := 11) (is' := _) [0, 1, 2, 3] [(0, (ptr s)), (2, (ptr b1)), (3, (Value.bool false)), (5, (ptr b23)), (25, (ptr s)), (28, (ptr s))] (by kernel_rfl) rfl (by kernel_rfl) ?_
 refine DrS.takeH (s := 14) (.head _) (i := 4) (v := (Value.slice A n c)) (by kernel_rfl) (by kernel_rfl) (by kernel_rfl) (fun wz hB hp => Runs.load (t := 75) (a := ⟨s, 0, none⟩) (by kernel_rfl) hp) (d := (some 29)) (by kernel_rfl) rfl ?_
 refine DrS.takes (fuel' := 7) (is' := _) [5, 6, 7] [(2, (ptr b1)), (3, (Value.bool false)), (5, (ptr b23)), (25, (ptr s)), (29, (Value.slice A n c)), (32, (ptr s))] (by kernel_rfl) rfl (by kernel_rfl) ?_
 refine DrS.takeH (s := 14) (.head _) (i := 8) (v := (Value.slice A n c)) (by kernel_rfl) (by kernel_rfl) (by kernel_rfl) (fun wz hB hp => Runs.load (t := 75) (a := ⟨s, 0, none⟩) (by kernel_rfl) hp) (d := (some 33)) (by kernel_rfl) rfl ?_
 refine DrS.takes (fuel' := 4) (is' := _) [9, 10] [(2, (ptr b1)), (3, (Value.bool false)), (5, (ptr b23)), (25, (ptr s)), (29, (Value.slice A n c)), (35, (i64 (IntKind.i64.wrap (((n : Nat) : Int) - 1))))] (by kernel_rfl) rfl (by kernel_rfl) ?_
 have e38 : IntKind.i64.wrap (((n : Nat) : Int) - 1) = ((l.length : Nat) : Int) := by rw [wrap_i64 (by omega) (by omega)]; omega
 rw [e38]
 have hc39 := fun wz => run_cut (sz := 4) (P := Tryd.prog) (w := wz) (t := 75) (A := A) (n := n) (c := c) 0 l.length c (lo := none) (hi := some (i64 ((l.length : Nat) : Int))) (mx := none) tySt.slice (by kernel_rfl) (.inl ⟨rfl, rfl⟩) (.inr ⟨_, rfl⟩) (.inl ⟨rfl, rfl⟩) (by omega) (by omega) (by omega)
 have hA0 : (if c = 0 then A else Option.map (fun q => Addr.add q (0 * 4)) A) = A := by cases A <;> simp [Addr.add]
 simp only [hA0, Nat.sub_zero] at hc39
 refine DrS.take (i := 11) (v := (Value.slice A l.length c)) (by kernel_rfl) (by kernel_rfl) (fun wz hS => Runs.slice (by kernel_rfl) (hc39 _)) (d := (some 36)) (by kernel_rfl) rfl ?_
 refine DrS.takes (fuel' := 1) (is' := _) [12, 13] [(2, (ptr b1)), (3, (Value.bool false)), (5, (ptr b23)), (36, (Value.slice A l.length c)), (38, (ptr s))] (by kernel_rfl) rfl (by kernel_rfl) ?_
 refine DrS.one (i := 14) (by kernel_rfl) ?_
 refine Dr1.put (t := 75) (b := s) (off := 0) (v := (Value.slice A l.length c)) (ys := [(Value.slice A l.length c)]) (by kernel_rfl) (by kernel_rfl) Hs (by kernel_rfl) (d := none) (by kernel_rfl) rfl (fun w40 H41 K42 => ?_)
 clear Hs
 replace K0 := K0.t1 K42 (fun _ => rfl)
 replace H4 := H4.k1 K42 (by omega)
 replace H11 := H11.k1 K42 (by omega)
 replace H32 := H32.k1 K42 (by omega)
 replace hO := own_keep hO K42 (fun i hi => by have := hVs i hi; omega)
 have Kb43 := Kb37.trans K42 (U := (fun i => i = s)) (fun _ _ h => h) (fun i h1 h2 => by have h2 : i = s := h2; exact h2)
 clear Kb37
 refine ⟨(SH.cons (SH.nil Kb43) (.inl (by kernel_rfl))), ?_⟩
 clear K42
 refine DrS.done (by kernel_rfl) ?_
 refine qs ?_
 refine qg ?_
 refine Ops.go (v := (agg [(Value.slice x.A x.order.length x.k), (Value.int IntKind.u64 ((x.done : Nat) : Int)), (i64 x.left), (ptr x.b)])) (by kernel_rfl) (Runs.load (t := 73) (a := ⟨b23, 0, none⟩) (by kernel_rfl) (H32.loads (by kernel_rfl))) (d := (some 39)) (by kernel_rfl) rfl ?_
 refine Ops.put (t := 73) (b := b1) (off := 0) (v := (agg [(Value.slice x.A x.order.length x.k), (Value.int IntKind.u64 ((x.done : Nat) : Int)), (i64 x.left), (ptr x.b)])) (ys := [(Value.slice x.A x.order.length x.k), (Value.int IntKind.u64 ((x.done : Nat) : Int)), (i64 x.left), (ptr x.b)]) (by kernel_rfl) (by kernel_rfl) H4 (by kernel_rfl) (d := none) (by kernel_rfl) rfl (fun w44 H45 K46 => ?_)
 clear H4
 replace K0 := K0.trans K46 (U := (fun i => i = s)) (fun i h1 h2 => h2) (fun i h1 h2 => by have h2 : i = b1 := h2; show i = s; omega)
 replace H41 := H41.k1 K46 (by omega)
 replace H11 := H11.k1 K46 (by omega)
 replace H32 := H32.k1 K46 (by omega)
 replace hO := own_keep hO K46 (fun i hi => by have := ob7 i hi; omega)
 clear K46
 refine og 1 [(2, (ptr b1)), (3, (Value.bool true))] 3 ?_
 refine od ?_
 refine q_ret (by kernel_rfl) ?_
 refine ⟨(Value.tuple #[(agg [(Value.slice x.A x.order.length x.k), (Value.int IntKind.u64 ((x.done : Nat) : Int)), (i64 x.left), (ptr x.b)]), (Value.bool true)]), retv_cell_tmp rfl rfl (H45.loads (by kernel_rfl)) rfl, ?_⟩
 exact ⟨rfl, K0, H41, OwnT.init StC.two hO Nat.one_pos⟩

theorem Rev_walk (w : World) (gb : Nat) (A : Option Addr) (c : Nat) (l : List StC) (rest : List Value) (hA : A = some ⟨gb, 0, none⟩) (Hg : Has w gb (rowL (l.flatMap StC.cells ++ rest) 73)) (hcap : l.length ≤ c ∧ c ≤ maxLen) : Calls Tryd.prog 34 ⟨[(Value.slice A l.length c)]⟩ w (fun e w' => e = .returned (.tuple #[]) ∧ Keeps (fun i => i = gb) w w' ∧ Has w' gb (rowL (l.reverse.flatMap StC.cells ++ rest) 73)) := by
 have Hgl := Hg.lt
 have hcap1 := hcap.2
 unfold maxLen at hcap1
 have K0 : Keeps (fun i => i = gb) w w := (Keeps.refl w).mono (fun _ _ h => h.elim)
 refine q_calls Tryd.func34 (by kernel_rfl) (by kernel_rfl) ?_
 refine qs ?_
 refine qg ?_
 refine og 3 [(0, (Value.slice A l.length c)), (6, (i64 (IntKind.i64.wrap (((l.length : Nat) : Int) - 1))))] 3 ?_
 have e1 : IntKind.i64.wrap (((l.length : Nat) : Int) - 1) = ((l.length : Nat) : Int) - 1 := wrap_i64 (by omega) (by omega)
 rw [e1]
 refine og 2 [(0, (Value.slice A l.length c)), (2, (i64 0)), (3, (i64 (((l.length : Nat) : Int) - 1)))] 5 ?_
 refine od ?_
 refine q_block (id := 0) (by kernel_rfl) ?_
 refine q_keep (R := [(0, (Value.slice A l.length c)), (2, (i64 0)), (3, (i64 (((l.length : Nat) : Int) - 1)))]) (by kernel_rfl) ?_
 refine q_loop (fun (gs : Nat × (List StC)) L (wx : World) => match gs with | (i, m) => L = [(0, (Value.slice A l.length c)), (2, (i64 ((i : Nat) : Int))), (3, (i64 (((l.length : Nat) : Int) - ((i + 1 : Nat) : Int))))] ∧ RevI l m i ∧ 2 * i ≤ l.length + 1 ∧ Keeps (fun i => i = gb) w wx ∧ Has wx gb (rowL (m.flatMap StC.cells ++ rest) 73)) (fun (gs : Nat × (List StC)) => match gs with | (i, m) => l.length - 2 * i) (0, l) (by kernel_rfl) ⟨rfl, (RevI.zero l), Nat.zero_le _, K0, Hg⟩ ?_
 clear Hg K0
 rintro ⟨i, m⟩ _ w2 ⟨rfl, hm, hi, K3, H4⟩
 have hml := hm.1
 refine qs ?_
 refine qs ?_
 refine qg ?_
 refine og 3 [(0, (Value.slice A l.length c)), (2, (i64 ((i : Nat) : Int))), (3, (i64 (((l.length : Nat) : Int) - ((i + 1 : Nat) : Int)))), (9, (Value.bool (decide (((i : Nat) : Int) < ((l.length : Nat) : Int) - ((i + 1 : Nat) : Int)))))] 3 ?_
 refine od ?_
 refine q_cond (o := .tmp 9) (b := (decide (((i : Nat) : Int) < ((l.length : Nat) : Int) - ((i + 1 : Nat) : Int)))) (by kernel_rfl) rfl (fun h5 => ?_) (fun h5 => ?_)
 ·rw [h5]
  have p6 : ((i : Nat) : Int) < ((l.length : Nat) : Int) - ((i + 1 : Nat) : Int) := of_decide_eq_true h5
  obtain ⟨j, hj⟩ : ∃ j : Nat, i + j + 1 = l.length := ⟨l.length - 1 - i, by omega⟩
  have hje : (((l.length : Nat) : Int) - ((i + 1 : Nat) : Int)) = ((j : Nat) : Int) := by omega
  rw [hje]
  obtain ⟨x, hx⟩ : ∃ x, m[i]? = some x := ⟨_, List.getElem?_eq_getElem (by omega)⟩
  obtain ⟨y, hy⟩ : ∃ y, m[j]? = some y := ⟨_, List.getElem?_eq_getElem (by omega)⟩
  have hij : i < j := by omega
  refine q_skip (by kernel_rfl) ?_
  refine qs ?_
  refine q_block (id := 1) (by kernel_rfl) ?_
  refine q_drawS 16 (by kernel_rfl) (by kernel_rfl) (by kernel_rfl) (fun w7 K8 _ _ => ?_)
  replace K3 := K3.tn K8
  replace H4 := H4.keep K8 (fun h => h)
  clear K8
  have Kb9 : Keeps (fun i => i = gb) w7 w7 := (Keeps.refl w7).mono (fun _ _ h => h.elim)
  refine ⟨fun wz => Keeps (fun i => i = gb) w7 wz, [(13, fun wz => Loads Tryd.prog wz 73 ⟨gb, j * 4, none⟩ (agg [(Value.slice y.A y.order.length y.k), (Value.int IntKind.u64 ((y.done : Nat) : Int)), (i64 y.left), (ptr y.b)])), (13, fun wz => Loads Tryd.prog wz 73 ⟨gb, i * 4, none⟩ (agg [(Value.slice x.A x.order.length x.k), (Value.int IntKind.u64 ((x.done : Nat) : Int)), (i64 x.left), (ptr x.b)]))], (SH.cons (SH.cons (SH.nil Kb9) (.inr (H4.loads (loadCN (vs := x.cells) (by kernel_rfl) (by kernel_rfl) (flat_load StC.two hx) (flat_len_at StC.two hx))))) (.inr (H4.loads (loadCN (vs := y.cells) (by kernel_rfl) (by kernel_rfl) (flat_load StC.two hy) (flat_len_at StC.two hy))))), ?_⟩
  refine DrS.takes (fuel' := 10) (is' := _) [0, 1, 2, 3, 4, 5] [(0, (Value.slice A l.length c)), (2, (i64 ((i : Nat) : Int))), (3, (i64 ((j : Nat) : Int))), (14, (Value.slice A l.length c)), (15, (i64 ((i : Nat) : Int))), (16, (Value.slice A l.length c)), (17, (i64 ((j : Nat) : Int))), (18, (Value.slice A l.length c)), (19, (i64 ((j : Nat) : Int)))] (by kernel_rfl) rfl (by kernel_rfl) ?_
  refine DrS.take (i := 6) (v := (Value.pointer (some ⟨gb, j * 4, none⟩))) (by kernel_rfl) (by kernel_rfl) (fun wz hS => Runs.ixSliceE (k := IntKind.i64) (t := 75) (len := l.length) (cap := c) (s := 4) (off' := j * 4) (i := ((j : Nat) : Int)) hA (by kernel_rfl) (by kernel_rfl) (by omega) (by omega) (by omega)) (d := (some 20)) (by kernel_rfl) rfl ?_
  refine DrS.takeH (s := 13) (.head _) (i := 7) (v := (agg [(Value.slice y.A y.order.length y.k), (Value.int IntKind.u64 ((y.done : Nat) : Int)), (i64 y.left), (ptr y.b)])) (by kernel_rfl) (by kernel_rfl) (by kernel_rfl) (fun wz hB hp => Runs.load (t := 73) (a := ⟨gb, j * 4, none⟩) (by kernel_rfl) hp) (d := (some 21)) (by kernel_rfl) rfl ?_
  refine DrS.takes (fuel' := 6) (is' := _) [8, 9] [(0, (Value.slice A l.length c)), (2, (i64 ((i : Nat) : Int))), (3, (i64 ((j : Nat) : Int))), (14, (Value.slice A l.length c)), (15, (i64 ((i : Nat) : Int))), (16, (Value.slice A l.length c)), (17, (i64 ((j : Nat) : Int))), (21, (agg [(Value.slice y.A y.order.length y.k), (Value.int IntKind.u64 ((y.done : Nat) : Int)), (i64 y.left), (ptr y.b)])), (22, (Value.slice A l.length c)), (23, (i64 ((i : Nat) : Int)))] (by kernel_rfl) rfl (by kernel_rfl) ?_
  refine DrS.take (i := 10) (v := (Value.pointer (some ⟨gb, i * 4, none⟩))) (by kernel_rfl) (by kernel_rfl) (fun wz hS => Runs.ixSliceE (k := IntKind.i64) (t := 75) (len := l.length) (cap := c) (s := 4) (off' := i * 4) (i := ((i : Nat) : Int)) hA (by kernel_rfl) (by kernel_rfl) (by omega) (by omega) (by omega)) (d := (some 24)) (by kernel_rfl) rfl ?_
  refine DrS.takeH (s := 13) (.tail _ (.head _)) (i := 11) (v := (agg [(Value.slice x.A x.order.length x.k), (Value.int IntKind.u64 ((x.done : Nat) : Int)), (i64 x.left), (ptr x.b)])) (by kernel_rfl) (by kernel_rfl) (by kernel_rfl) (fun wz hB hp => Runs.load (t := 73) (a := ⟨gb, i * 4, none⟩) (by kernel_rfl) hp) (d := (some 25)) (by kernel_rfl) rfl ?_
  refine DrS.take (i := 12) (v := (Value.pointer (some ⟨gb, i * 4, none⟩))) (by kernel_rfl) (by kernel_rfl) (fun wz hS => Runs.ixSliceE (k := IntKind.i64) (t := 75) (len := l.length) (cap := c) (s := 4) (off' := i * 4) (i := ((i : Nat) : Int)) hA (by kernel_rfl) (by kernel_rfl) (by omega) (by omega) (by omega)) (d := (some 26)) (by kernel_rfl) rfl ?_
  refine DrS.one (i := 13) (by kernel_rfl) ?_
  refine Dr1.put (t := 73) (b := gb) (off := i * 4) (v := (agg [(Value.slice y.A y.order.length y.k), (Value.int IntKind.u64 ((y.done : Nat) : Int)), (i64 y.left), (ptr y.b)])) (ys := ((m.set i y).flatMap StC.cells ++ rest)) (by kernel_rfl) (by kernel_rfl) H4 (storeCN (vs := y.cells) (by kernel_rfl) (by kernel_rfl) (flat_len_set StC.two y hx) (flat_store StC.two y hx)) (d := none) (by kernel_rfl) rfl (fun w10 H11 K12 => ?_)
  clear H4
  replace K3 := K3.t1 K12 (fun _ => rfl)
  have Kb13 := Kb9.trans K12 (U := (fun i => i = gb)) (fun _ _ h => h) (fun i h1 h2 => by have h2 : i = gb := h2; exact h2)
  clear Kb9
  refine ⟨(SH.cons (SH.cons (SH.nil Kb13) (.inl (by kernel_rfl))) (.inl (by kernel_rfl))), ?_⟩
  clear K12
  refine DrS.take (i := 14) (v := (Value.pointer (some ⟨gb, j * 4, none⟩))) (by kernel_rfl) (by kernel_rfl) (fun wz hS => Runs.ixSliceE (k := IntKind.i64) (t := 75) (len := l.length) (cap := c) (s := 4) (off' := j * 4) (i := ((j : Nat) : Int)) hA (by kernel_rfl) (by kernel_rfl) (by omega) (by omega) (by omega)) (d := (some 27)) (by kernel_rfl) rfl ?_
  refine DrS.one (i := 15) (by kernel_rfl) ?_
  refine Dr1.put (t := 73) (b := gb) (off := j * 4) (v := (agg [(Value.slice x.A x.order.length x.k), (Value.int IntKind.u64 ((x.done : Nat) : Int)), (i64 x.left), (ptr x.b)])) (ys := (((m.set i y).set j x).flatMap StC.cells ++ rest)) (by kernel_rfl) (by kernel_rfl) H11 (storeCN (vs := x.cells) (by kernel_rfl) (by kernel_rfl) (flat_len_set StC.two x ((List.getElem?_set_ne (by omega)).trans hy)) (flat_store StC.two x ((List.getElem?_set_ne (by omega)).trans hy))) (d := none) (by kernel_rfl) rfl (fun w14 H15 K16 => ?_)
  clear H11
  replace K3 := K3.t1 K16 (fun _ => rfl)
  have Kb17 := Kb13.trans K16 (U := (fun i => i = gb)) (fun _ _ h => h) (fun i h1 h2 => by have h2 : i = gb := h2; exact h2)
  clear Kb13
  refine ⟨(SH.cons (SH.cons (SH.nil Kb17) (.inl (by kernel_rfl))) (.inl (by kernel_rfl))), ?_⟩
  clear K16
  refine DrS.done (by kernel_rfl) ?_
  refine qg ?_
  refine og 2 [(0, (Value.slice A l.length c)), (2, (i64 ((i : Nat) : Int))), (3, (i64 ((j : Nat) : Int))), (11, (i64 (IntKind.i64.wrap (((i : Nat) : Int) + 1))))] 2 ?_
  have e18 : IntKind.i64.wrap (((i : Nat) : Int) + 1) = ((i + 1 : Nat) : Int) := by rw [wrap_i64 (by omega) (by omega)]; omega
  rw [e18]
  clear e18
  refine og 2 [(0, (Value.slice A l.length c)), (2, (i64 ((i : Nat) : Int))), (3, (i64 ((j : Nat) : Int))), (11, (i64 ((i + 1 : Nat) : Int))), (13, (i64 (IntKind.i64.wrap (((j : Nat) : Int) - 1))))] 4 ?_
  have e19 : IntKind.i64.wrap (((j : Nat) : Int) - 1) = ((j : Nat) : Int) - 1 := wrap_i64 (by omega) (by omega)
  rw [e19]
  refine og 2 [(0, (Value.slice A l.length c)), (2, (i64 ((i + 1 : Nat) : Int))), (3, (i64 (((j : Nat) : Int) - 1)))] 6 ?_
  rw [show (((j : Nat) : Int) - 1) = (((l.length : Nat) : Int) - ((i + 1 + 1 : Nat) : Int)) from by omega]
  refine Ops.keep (R := [(0, (Value.slice A l.length c)), (2, (i64 ((i + 1 : Nat) : Int))), (3, (i64 (((l.length : Nat) : Int) - ((i + 1 + 1 : Nat) : Int))))]) (by kernel_rfl) ?_
  refine od ?_
  exact ⟨(i + 1, (m.set i y).set j x), ⟨rfl, (hm.step hj hij hx hy), (by omega), K3, H15⟩, (show l.length - 2 * (i + 1) < l.length - 2 * i from by omega)⟩
 ·rw [h5]
  have p20 : ¬ (((i : Nat) : Int) < ((l.length : Nat) : Int) - ((i + 1 : Nat) : Int)) := of_decide_eq_false h5
  refine q_exit (id := 0) (by kernel_rfl) ?_
  refine ⟨(Value.tuple #[]), retv_none rfl, ?_⟩
  have hrev := hm.done (by omega)
  have H9 := H4
  rw [hrev] at H9
  exact ⟨rfl, K3, H9⟩
end Go.Proofs.YtnbcghbgeiocbaaDoor
namespace Go.Proofs.YtnbcghbgeiocbaaDoor
open Go.Q Go.RowKit

theorem Rev_nil (w : World) (A : Option Addr) (c : Nat)  : Calls Tryd.prog 34 ⟨[(Value.slice A 0 c)]⟩ w (fun e w' => e = .returned (.tuple #[]) ∧ Keeps none_ w w') := by
 have K0 : Keeps none_ w w := Keeps.refl w
 refine q_calls Tryd.func34 (by kernel_rfl) (by kernel_rfl) ?_
 refine qs ?_
 refine qg ?_
 refine og 5 [(0, (Value.slice A 0 c)), (2, (i64 0)), (3, (i64 (-1)))] 5 ?_
 refine od ?_
 refine q_block (id := 0) (by kernel_rfl) ?_
 refine q_roll 1 (by kernel_rfl) ?_
 refine Go.Q.roll_step ?_
 refine qs ?_
 refine qs ?_
 refine qg ?_
 refine og 3 [(0, (Value.slice A 0 c)), (2, (i64 0)), (3, (i64 (-1))), (9, (Value.bool false))] 3 ?_
 refine od ?_
 refine q_else (o := .tmp 9) (by kernel_rfl) rfl ?_
 refine q_exit (id := 0) (by kernel_rfl) ?_
 refine ⟨(Value.tuple #[]), retv_none rfl, ?_⟩
 exact ⟨rfl, K0⟩

theorem Rev_calls (w : World) (base : Nat) (A : Option Addr) (c : Nat) (l : List StC) (hO : OwnT w base 73 4 StC.cells (.slice A l.length c) l) : Calls Tryd.prog 34 ⟨[.slice A l.length c]⟩ w (fun e w' => e = .returned (.tuple #[]) ∧ Keeps (fun i => (Value.slice A l.length c).ownBlock = some i) w w' ∧ OwnT w' base 73 4 StC.cells (.slice A l.length c) l.reverse) := by
 by_cases h0 : l = []
 ·subst h0
  refine (Rev_nil w A c).mono ?_
  rintro e w' ⟨he, hk⟩
  exact ⟨he, hk.mono (fun _ _ h => h.elim), own_keep0 hO hk⟩
 ·have hcap := RdT.len StC.two (by decide) (OwnT.rd hO)
  obtain ⟨gb, rest, hA, hg, H, hput⟩ := OwnT.flat StC.two hO h0
  refine (Rev_walk w gb A c l rest hA H hcap.2).mono ?_
  rintro e w' ⟨he, hk, H2⟩
  exact ⟨he, hk.mono (fun i _ h => by have h : i = gb := h; subst h; subst hA; rfl), hput _ _ (List.length_reverse ..) H2⟩

theorem next_tells (w0 : World) (m0 b2 b3 : Nat) (LA : Option Addr) (lc : Nat) (l : List HC) (AA : Option Addr) (ac : Nat) (a : List Nat) (x : StC) (F T G : Nat → Prop) (H2 : Has w0 b2 (rowL [(Value.slice LA l.length lc), (Value.slice AA a.length ac)] 68)) (H3 : Has w0 b3 (rowL x.cells 73)) (hx : x.At w0 110 F)
  (hL : RdT w0 13 HC.cells (Value.slice LA l.length lc) l) (hA : RdT w0 1 iN (Value.slice AA a.length ac) a) (hal : a.length = l.length) (hG : RowsE w0 HC.rv HC.rows G l) (ho : ∀ x ∈ l, -9223372036854775808 ≤ x.c.op.amount ∧ x.c.op.amount ≤ 9223372036854775807)
  (hF : ∀ i, (((Value.slice LA l.length lc)).ownBlock = some i ∨ ((Value.slice AA a.length ac)).ownBlock = some i ∨ F i ∨ G i) → i < w0.heap.size ∧ i ≠ b2 ∧ i ≠ b3 ∧ ¬ T i) (hTb : ¬ T b2 ∧ ¬ T b3) (hb23 : b2 ≠ b3) (h8 : l.length ≤ 8) (hok : SrOk (XS l a) x.m) :
  TellsW Tryd.prog m0 47 [ptr b2, ptr b3] (nextA 110 (XS l a) x.m) T ((probH (XS l a)).nexts x.m).length w0 := by
 intro ln J W hW hJ hY h0
 obtain ⟨o, OA, oc, d, lf, b, S, K⟩ := x
 obtain ⟨mb, kb, m, h1, h2, h3, hne, hB, f1, f2, f3⟩ := hx.led
 have q1 := hF b (.inr (.inr (.inl f1)))
 have q2 := hF mb (.inr (.inr (.inl f2)))
 have q3 := hF kb (.inr (.inr (.inl f3)))
 have hsz := hW.size
 refine (next_walk W ln m0 b2 b3 LA lc l AA ac a OA oc o d lf b mb kb m S K T G J (H2.keep hW hTb.1) (H3.keep hW hTb.2) (h1.keep hW q1.2.2.2) (h2.keep hW q2.2.2.2) (h3.keep hW q3.2.2.2) hne hB ⟨hb23, q1.2.1, q1.2.2.1⟩
  (Rd.keep (by decide) hL hW fun i hi => (hF i (.inl hi)).2.2.2) (Rd.keep (by decide) hA hW fun i hi => (hF i (.inr (.inl hi))).2.2.2) hal (Rd.keep (by decide) hx.row hW fun i hi => (hF i (.inr (.inr (.inl (hx.inF i hi))))).2.2.2) (hG.keep hW fun i hi => (hF i (.inr (.inr (.inr hi)))).2.2.2) ho
  (fun i hi => ⟨fun e => hTb.1 (e ▸ hi), fun e => hTb.2 (e ▸ hi), fun e => q1.2.2.2 (e ▸ hi), fun e => q2.2.2.2 (e ▸ hi), fun e => q3.2.2.2 (e ▸ hi)⟩)
  (fun i hi => ?_) h8 hok hJ hY h0)
 rcases hi with hi | hi | hi | hi
 ·have := hF i (.inl hi); exact ⟨by omega, this.2.2.2⟩
 ·have := hF i (.inr (.inl hi)); exact ⟨by omega, this.2.2.2⟩
 ·have := hF i (.inr (.inr (.inl (hx.inF i hi)))); exact ⟨by omega, this.2.2.2⟩
 ·have := hF i (.inr (.inr (.inr hi))); exact ⟨by omega, this.2.2.2⟩
end Go.Proofs.YtnbcghbgeiocbaaDoor
namespace Go.Proofs.YtnbcghbgeiocbaaDoor
open Go.Q Go.RowKit

theorem keptNest : ∃ f1 f2, NestTy Tryd.prog 118 f1 f2 7 ∧ f1.type = 24 ∧ f2.type = 25 := ⟨_, _, { und := Tryd.underlying118, n1 := by decide, n2 := by decide, o1 := rfl, o2 := rfl, a1 := by kernel_rfl, z1 := Tryd.sizeOf24, held := by kernel_rfl, guard := by kernel_rfl }, rfl, rfl⟩

theorem EqualM_calls (w : World) (m1 m2 : Nat) (M1 M2 : List (List UInt8 × Int)) (S1 S2 : List RowM) (H1 : HasMap w m1 kstr ki64 (M1)) (H2 : HasMap w m2 kstr ki64 (M2)) (hL1 : LMap M1 S1) (hL2 : LMap M2 S2) : Calls Tryd.prog 45 ⟨[(Value.map (some m1)), (Value.map (some m2))]⟩ w (fun e w' => ∃ t, e = .returned (.bool t) ∧ (t = true ↔ S1 = S2) ∧ Keeps none_ w w') := by
 have H1l := H1.lt
 have H2l := H2.lt
 have hl1 := hL1.len
 have hl2 := hL2.len
 have K0 : Keeps none_ w w := Keeps.refl w
 refine q_calls Tryd.func45 (by kernel_rfl) (by kernel_rfl) ?_
 refine qs ?_
 refine qg ?_
 refine og 1 [(0, (Value.map (some m1))), (1, (Value.map (some m2))), (4, (Value.bool false))] 1 ?_
 refine od ?_
 refine qs ?_
 refine qs ?_
 refine qg ?_
 refine og 1 [(0, (Value.map (some m1))), (1, (Value.map (some m2))), (4, (Value.bool false)), (9, (Value.map (some m1)))] 1 ?_
 refine Ops.go (v := (i64 ((M1.length : Nat) : Int))) (by kernel_rfl) (Runs.maplen (ts := #[107]) (t0 := 107) (ty := 3) rfl Tryd.underlying107 H1 (by kernel_rfl)) (d := (some 10)) (by kernel_rfl) rfl ?_
 refine og 1 [(0, (Value.map (some m1))), (1, (Value.map (some m2))), (4, (Value.bool false)), (10, (i64 ((M1.length : Nat) : Int))), (11, (Value.map (some m2)))] 3 ?_
 refine Ops.go (v := (i64 ((M2.length : Nat) : Int))) (by kernel_rfl) (Runs.maplen (ts := #[107]) (t0 := 107) (ty := 3) rfl Tryd.underlying107 H2 (by kernel_rfl)) (d := (some 12)) (by kernel_rfl) rfl ?_
 refine og 1 [(0, (Value.map (some m1))), (1, (Value.map (some m2))), (4, (Value.bool false)), (13, (Value.bool (((M1.length : Nat) : Int) != ((M2.length : Nat) : Int))))] 5 ?_
 refine od ?_
 refine q_cond (o := .tmp 13) (b := (((M1.length : Nat) : Int) != ((M2.length : Nat) : Int))) (by kernel_rfl) rfl (fun h1 => ?_) (fun h1 => ?_)
 ·rw [h1]
  have p2 : ¬ (((M1.length : Nat) : Int) = ((M2.length : Nat) : Int)) := of_bne_t h1
  refine qs ?_
  refine qg ?_
  refine og 1 [(0, (Value.map (some m1))), (1, (Value.map (some m2))), (4, (Value.bool false))] 1 ?_
  refine od ?_
  refine q_ret (by kernel_rfl) ?_
  refine ⟨(Value.bool false), retv_tmp rfl rfl, ?_⟩
  exact ⟨false, rfl, ⟨fun h => (by cases h), fun h => absurd h fun h => (by subst h; have := hL1.len; have := hL2.len; omega)⟩, K0⟩
 ·rw [h1]
  have p3 : ((M1.length : Nat) : Int) = ((M2.length : Nat) : Int) := of_bne_f h1
  refine q_skip (by kernel_rfl) ?_
  refine qs ?_
  refine qs ?_
  refine qg ?_
  refine og 1 [(1, (Value.map (some m2))), (4, (Value.bool false)), (14, (Value.map (some m1)))] 1 ?_
  obtain ⟨it4, w5, hr6, K7, hq8, H9⟩ := HasMap.range (P := Tryd.prog) (t := 107) Tryd.underlying107 H1
  refine Ops.go (v := (ptr it4)) (by kernel_rfl) (Runs.of_range (by kernel_rfl) hr6) (d := (some 15)) (by kernel_rfl) rfl ?_
  have lit4m1 : m1 < it4 := by have := H1.lt; omega
  have lit4m2 : m2 < it4 := by have := H2.lt; omega
  have nit4 : w.heap.size ≤ it4 := by have := K0.size; omega
  replace K0 := K0.t0 K7
  replace H1 := H1.keep K7 (fun h => h)
  replace H2 := H2.keep K7 (fun h => h)
  clear K7 hr6
  refine od ?_
  refine q_block (id := 0) (by kernel_rfl) ?_
  refine q_keep (R := [(1, (Value.map (some m2))), (15, (ptr it4))]) (by kernel_rfl) ?_
  refine q_loop (fun (gs : (List (List UInt8 × Int)) × (List (List UInt8 × Int)) × (Option (List UInt8 × Int))) L (wx : World) => match gs with | (came, rest, last) => L = [(1, (Value.map (some m2))), (15, (ptr it4))] ∧ (came ++ rest).Perm (M1) ∧ (∀ y ∈ came, getM (M2) y.1 = some y.2) ∧ Keeps none_ w wx ∧ HasMap wx m1 kstr ki64 M1 ∧ HasMap wx m2 kstr ki64 M2 ∧ IterM wx it4 m1 kstr ki64 M1 rest last) (fun (gs : (List (List UInt8 × Int)) × (List (List UInt8 × Int)) × (Option (List UInt8 × Int))) => match gs with | (came, rest, last) => rest.length) ([], M1, none) (by kernel_rfl) ⟨rfl, (List.Perm.refl _), (fun y hy => by cases hy), K0, H1, H2, H9⟩ ?_
  clear H1 H2 H9 K0
  rintro ⟨came, rest, last⟩ _ w10 ⟨rfl, hp, hall, K11, H12, H13, H14⟩
  refine qs ?_
  refine qg ?_
  rcases IterM.next (P := Tryd.prog) H14 0 with ⟨hn24, hr21⟩ | ⟨x15, a16, p17, q18, w19, hs20, hr21, K22, H23⟩
  ·skip
   refine Ops.go (v := (Value.tuple #[(Value.bool false)])) (by kernel_rfl) (Runs.of_next (by kernel_rfl) hr21) (d := (some 16)) (by kernel_rfl) rfl ?_
   clear hr21
   refine og 1 [(1, (Value.map (some m2))), (15, (ptr it4)), (17, (Value.bool false))] 2 ?_
   refine od ?_
   refine qs ?_
   refine q_else (o := .tmp 17) (by kernel_rfl) rfl ?_
   refine q_exit (id := 0) (by kernel_rfl) ?_
   refine qs ?_
   refine qg ?_
   refine og 1 [(4, (Value.bool true))] 1 ?_
   refine od ?_
   refine q_ret (by kernel_rfl) ?_
   refine ⟨(Value.bool true), retv_tmp rfl rfl, ?_⟩
   exact ⟨true, rfl, ⟨fun _ => hL1.eq hL2 (by omega) (by rw [hn24, List.append_nil] at hp; exact hp) hall, fun _ => rfl⟩, K11⟩
  ·skip
   refine Ops.go (v := (Value.tuple #[(Value.bool true), (Value.string (str x15)), (i64 a16)])) (by kernel_rfl) (Runs.of_next (by kernel_rfl) hr21) (d := (some 16)) (by kernel_rfl) rfl ?_
   replace H23 := H23 (by omega)
   clear H14
   replace K11 := K11.trans K22 (U := none_) (fun i h1 h2 => h2) (fun i h1 h2 => by have h2 : i = it4 := h2; exfalso; omega)
   replace H12 := H12.k1 K22 (by omega)
   replace H13 := H13.k1 K22 (by omega)
   clear K22 hr21
   have hmem : (x15, a16) ∈ M1 := hp.mem_iff.1 (by rw [hs20]; simp)
   have hsm : S1 = S2 → getM (M2) x15 = some a16 := fun h => hL1.same (h ▸ hL2) hmem
   have hln := congrArg List.length hs20
   rw [List.length_append, List.length_cons] at hln
   rcases hg25 : getM (M2) x15 with _ | v26
   ·skip
    refine og 1 [(1, (Value.map (some m2))), (15, (ptr it4)), (17, (Value.bool true))] 2 ?_
    refine od ?_
    refine qs ?_
    refine q_then (o := .tmp 17) (by kernel_rfl) rfl ?_
    refine q_skip (by kernel_rfl) ?_
    refine q_block (id := 1) (by kernel_rfl) ?_
    refine qs ?_
    refine qg ?_
    refine Ops.go (v := (Value.tuple #[(Value.string (str x15)), (i64 a16)])) (by kernel_rfl) (Runs.of_entry (by kernel_rfl) (IterM.entry (kf := kstr) (vf := ki64) (x := x15) (a := a16) H23)) (d := (some 18)) (by kernel_rfl) rfl ?_
    refine og 4 [(1, (Value.map (some m2))), (5, (Value.string (str x15))), (6, (i64 a16)), (15, (ptr it4))] 5 ?_
    refine od ?_
    refine qs ?_
    refine qg ?_
    refine og 2 [(1, (Value.map (some m2))), (6, (i64 a16)), (15, (ptr it4)), (22, (Value.map (some m2))), (23, (Value.string (str x15)))] 2 ?_
    refine Ops.go (v := (Value.tuple #[(i64 0), (Value.bool false)])) (by kernel_rfl) (Runs.lookup_none (ok := true) (z := (i64 0)) KT Tryd.underlying107 (by kernel_rfl) H13 hg25 (by kernel_rfl)) (d := (some 24)) (by kernel_rfl) rfl ?_
    refine og 5 [(1, (Value.map (some m2))), (6, (i64 a16)), (7, (i64 0)), (8, (Value.bool false)), (15, (ptr it4))] 8 ?_
    refine od ?_
    refine qs ?_
    refine qg ?_
    refine og 7 [(1, (Value.map (some m2))), (15, (ptr it4)), (33, (Value.bool true))] 7 ?_
    refine od ?_
    refine q_then (o := .tmp 33) (by kernel_rfl) rfl ?_
    refine qs ?_
    refine qg ?_
    refine og 1 [(1, (Value.map (some m2))), (4, (Value.bool false)), (15, (ptr it4))] 1 ?_
    refine od ?_
    refine q_ret (by kernel_rfl) ?_
    refine ⟨(Value.bool false), retv_tmp rfl rfl, ?_⟩
    exact ⟨false, rfl, ⟨fun h => (by cases h), fun h => absurd h fun h => (by have q := hsm h; rw [hg25] at q; cases q)⟩, K11⟩
   ·skip
    refine og 1 [(1, (Value.map (some m2))), (15, (ptr it4)), (17, (Value.bool true))] 2 ?_
    refine od ?_
    refine qs ?_
    refine q_then (o := .tmp 17) (by kernel_rfl) rfl ?_
    refine q_skip (by kernel_rfl) ?_
    refine q_block (id := 1) (by kernel_rfl) ?_
    refine qs ?_
    refine qg ?_
    refine Ops.go (v := (Value.tuple #[(Value.string (str x15)), (i64 a16)])) (by kernel_rfl) (Runs.of_entry (by kernel_rfl) (IterM.entry (kf := kstr) (vf := ki64) (x := x15) (a := a16) H23)) (d := (some 18)) (by kernel_rfl) rfl ?_
    refine og 4 [(1, (Value.map (some m2))), (5, (Value.string (str x15))), (6, (i64 a16)), (15, (ptr it4))] 5 ?_
    refine od ?_
    refine qs ?_
    refine qg ?_
    refine og 2 [(1, (Value.map (some m2))), (6, (i64 a16)), (15, (ptr it4)), (22, (Value.map (some m2))), (23, (Value.string (str x15)))] 2 ?_
    refine Ops.go (v := (Value.tuple #[(i64 v26), (Value.bool true)])) (by kernel_rfl) (Runs.lookup_some (ok := true) (vf := ki64) (a := v26) KT Tryd.underlying107 H13 hg25 (by kernel_rfl)) (d := (some 24)) (by kernel_rfl) rfl ?_
    refine og 5 [(1, (Value.map (some m2))), (6, (i64 a16)), (7, (i64 v26)), (8, (Value.bool true)), (15, (ptr it4))] 8 ?_
    refine od ?_
    refine qs ?_
    refine qg ?_
    refine og 7 [(1, (Value.map (some m2))), (15, (ptr it4)), (33, (Value.bool (a16 != v26)))] 7 ?_
    refine od ?_
    refine q_cond (o := .tmp 33) (b := (a16 != v26)) (by kernel_rfl) rfl (fun h27 => ?_) (fun h27 => ?_)
    ·rw [h27]
     have p28 : ¬ (a16 = v26) := of_bne_t h27
     have hav : a16 ≠ v26 := by omega
     refine qs ?_
     refine qg ?_
     refine og 1 [(1, (Value.map (some m2))), (4, (Value.bool false)), (15, (ptr it4))] 1 ?_
     refine od ?_
     refine q_ret (by kernel_rfl) ?_
     refine ⟨(Value.bool false), retv_tmp rfl rfl, ?_⟩
     exact ⟨false, rfl, ⟨fun h => (by cases h), fun h => absurd h fun h => (by have q := hsm h; rw [hg25] at q; exact hav (Option.some.inj q).symm)⟩, K11⟩
    ·rw [h27]
     have p29 : a16 = v26 := of_bne_f h27
     have hav : a16 = v26 := by omega
     refine q_keep (R := [(1, (Value.map (some m2))), (15, (ptr it4))]) (by kernel_rfl) ?_
     refine q_skip (by kernel_rfl) ?_
     exact ⟨(came ++ [(x15, a16)], p17 ++ q18, some (x15, a16)), ⟨rfl, (came_perm (by rw [← hs20]; exact hp)), (fun y hy => by rcases List.mem_append.1 hy with hy | hy; (exact hall y hy); (rw [List.mem_singleton.1 hy, hav]; exact hg25)), K11, H12, H13, H23⟩, (show (p17 ++ q18).length < rest.length from by rw [List.length_append]; omega)⟩

theorem EqualK_calls (w : World) (m1 m2 : Nat)  (K1 K2 : List KeptM) (H1 : HasMap w m1 kpair keptv (K1.map KeptM.kv)) (H2 : HasMap w m2 kpair keptv (K2.map KeptM.kv)) (hN1 : (K1.map KeptM.id).Nodup) (hN2 : (K2.map KeptM.id).Nodup) : Calls Tryd.prog 46 ⟨[(Value.map (some m1)), (Value.map (some m2))]⟩ w (fun e w' => ∃ t, e = .returned (.bool t) ∧ (t = true ↔ K1.Perm K2) ∧ Keeps none_ w w') := by
 have H1l := H1.lt
 have H2l := H2.lt
 have K0 : Keeps none_ w w := Keeps.refl w
 refine q_calls Tryd.func46 (by kernel_rfl) (by kernel_rfl) ?_
 refine qs ?_
 refine qg ?_
 refine og 1 [(0, (Value.map (some m1))), (1, (Value.map (some m2))), (4, (Value.bool false))] 1 ?_
 refine od ?_
 refine qs ?_
 refine qs ?_
 refine qg ?_
 refine og 1 [(0, (Value.map (some m1))), (1, (Value.map (some m2))), (4, (Value.bool false)), (9, (Value.map (some m1)))] 1 ?_
 refine Ops.go (v := (i64 (((K1.map KeptM.kv).length : Nat) : Int))) (by kernel_rfl) (Runs.maplen (ts := #[108]) (t0 := 108) (ty := 3) rfl Tryd.underlying108 H1 (by kernel_rfl)) (d := (some 10)) (by kernel_rfl) rfl ?_
 refine og 1 [(0, (Value.map (some m1))), (1, (Value.map (some m2))), (4, (Value.bool false)), (10, (i64 (((K1.map KeptM.kv).length : Nat) : Int))), (11, (Value.map (some m2)))] 3 ?_
 refine Ops.go (v := (i64 (((K2.map KeptM.kv).length : Nat) : Int))) (by kernel_rfl) (Runs.maplen (ts := #[108]) (t0 := 108) (ty := 3) rfl Tryd.underlying108 H2 (by kernel_rfl)) (d := (some 12)) (by kernel_rfl) rfl ?_
 refine og 1 [(0, (Value.map (some m1))), (1, (Value.map (some m2))), (4, (Value.bool false)), (13, (Value.bool ((((K1.map KeptM.kv).length : Nat) : Int) != (((K2.map KeptM.kv).length : Nat) : Int))))] 5 ?_
 refine od ?_
 refine q_cond (o := .tmp 13) (b := ((((K1.map KeptM.kv).length : Nat) : Int) != (((K2.map KeptM.kv).length : Nat) : Int))) (by kernel_rfl) rfl (fun h1 => ?_) (fun h1 => ?_)
 ·rw [h1]
  have p2 : ¬ ((((K1.map KeptM.kv).length : Nat) : Int) = (((K2.map KeptM.kv).length : Nat) : Int)) := of_bne_t h1
  refine qs ?_
  refine qg ?_
  refine og 1 [(0, (Value.map (some m1))), (1, (Value.map (some m2))), (4, (Value.bool false))] 1 ?_
  refine od ?_
  refine q_ret (by kernel_rfl) ?_
  refine ⟨(Value.bool false), retv_tmp rfl rfl, ?_⟩
  exact ⟨false, rfl, ⟨fun h => (by cases h), fun h => absurd h fun h => (by have hq := h.length_eq; simp only [List.length_map] at *; omega)⟩, K0⟩
 ·rw [h1]
  have p3 : (((K1.map KeptM.kv).length : Nat) : Int) = (((K2.map KeptM.kv).length : Nat) : Int) := of_bne_f h1
  refine q_skip (by kernel_rfl) ?_
  refine qs ?_
  refine qs ?_
  refine qg ?_
  refine og 1 [(1, (Value.map (some m2))), (4, (Value.bool false)), (14, (Value.map (some m1)))] 1 ?_
  obtain ⟨it4, w5, hr6, K7, hq8, H9⟩ := HasMap.range (P := Tryd.prog) (t := 108) Tryd.underlying108 H1
  refine Ops.go (v := (ptr it4)) (by kernel_rfl) (Runs.of_range (by kernel_rfl) hr6) (d := (some 15)) (by kernel_rfl) rfl ?_
  have lit4m1 : m1 < it4 := by have := H1.lt; omega
  have lit4m2 : m2 < it4 := by have := H2.lt; omega
  have nit4 : w.heap.size ≤ it4 := by have := K0.size; omega
  replace K0 := K0.t0 K7
  replace H1 := H1.keep K7 (fun h => h)
  replace H2 := H2.keep K7 (fun h => h)
  clear K7 hr6
  refine od ?_
  refine q_block (id := 0) (by kernel_rfl) ?_
  refine q_keep (R := [(1, (Value.map (some m2))), (15, (ptr it4))]) (by kernel_rfl) ?_
  refine q_loop (fun (gs : (List ((List UInt8 × List UInt8) × KeptM)) × (List ((List UInt8 × List UInt8) × KeptM)) × (Option ((List UInt8 × List UInt8) × KeptM))) L (wx : World) => match gs with | (came, rest, last) => L = [(1, (Value.map (some m2))), (15, (ptr it4))] ∧ (came ++ rest).Perm (K1.map KeptM.kv) ∧ (∀ y ∈ came, getM (K2.map KeptM.kv) y.1 = some y.2) ∧ Keeps none_ w wx ∧ HasMap wx m1 kpair keptv (K1.map KeptM.kv) ∧ HasMap wx m2 kpair keptv (K2.map KeptM.kv) ∧ IterM wx it4 m1 kpair keptv (K1.map KeptM.kv) rest last) (fun (gs : (List ((List UInt8 × List UInt8) × KeptM)) × (List ((List UInt8 × List UInt8) × KeptM)) × (Option ((List UInt8 × List UInt8) × KeptM))) => match gs with | (came, rest, last) => rest.length) ([], K1.map KeptM.kv, none) (by kernel_rfl) ⟨rfl, (List.Perm.refl _), (fun y hy => by cases hy), K0, H1, H2, H9⟩ ?_
  clear H1 H2 H9 K0
  rintro ⟨came, rest, last⟩ _ w10 ⟨rfl, hp, hall, K11, H12, H13, H14⟩
  refine qs ?_
  refine qg ?_
  rcases IterM.next (P := Tryd.prog) H14 0 with ⟨hn24, hr21⟩ | ⟨x15, a16, p17, q18, w19, hs20, hr21, K22, H23⟩
  ·skip
   refine Ops.go (v := (Value.tuple #[(Value.bool false)])) (by kernel_rfl) (Runs.of_next (by kernel_rfl) hr21) (d := (some 16)) (by kernel_rfl) rfl ?_
   clear hr21
   refine og 1 [(1, (Value.map (some m2))), (15, (ptr it4)), (17, (Value.bool false))] 2 ?_
   refine od ?_
   refine qs ?_
   refine q_else (o := .tmp 17) (by kernel_rfl) rfl ?_
   refine q_exit (id := 0) (by kernel_rfl) ?_
   refine qs ?_
   refine qg ?_
   refine og 1 [(4, (Value.bool true))] 1 ?_
   refine od ?_
   refine q_ret (by kernel_rfl) ?_
   refine ⟨(Value.bool true), retv_tmp rfl rfl, ?_⟩
   exact ⟨true, rfl, ⟨fun _ => kept_eq hN1 (by simp only [List.length_map] at *; omega) (by rw [hn24, List.append_nil] at hp; exact hp) hall, fun _ => rfl⟩, K11⟩
  ·skip
   refine Ops.go (v := (Value.tuple #[(Value.bool true), (agg [(Value.string (str x15.1)), (Value.string (str x15.2))]), (agg [(i64 a16.op.kind), (Value.string (str a16.op.frm)), (Value.string (str a16.op.to)), (i64 a16.op.amount), (Value.string (str a16.op.key)), (i64 a16.op.slot), (i64 a16.op.shard), (i64 a16.why)])])) (by kernel_rfl) (Runs.of_next (by kernel_rfl) hr21) (d := (some 16)) (by kernel_rfl) rfl ?_
   replace H23 := H23 (by omega)
   clear H14
   replace K11 := K11.trans K22 (U := none_) (fun i h1 h2 => h2) (fun i h1 h2 => by have h2 : i = it4 := h2; exfalso; omega)
   replace H12 := H12.k1 K22 (by omega)
   replace H13 := H13.k1 K22 (by omega)
   clear K22 hr21
   have hmem : (x15, a16) ∈ K1.map KeptM.kv := hp.mem_iff.1 (by rw [hs20]; simp)
   have hsm : K1.Perm K2 → getM (K2.map KeptM.kv) x15 = some a16 := fun h => kept_same hN2 h hmem
   have hln := congrArg List.length hs20
   rw [List.length_append, List.length_cons] at hln
   rcases hg25 : getM (K2.map KeptM.kv) x15 with _ | v26
   ·skip
    refine og 1 [(1, (Value.map (some m2))), (15, (ptr it4)), (17, (Value.bool true))] 2 ?_
    refine od ?_
    refine qs ?_
    refine q_then (o := .tmp 17) (by kernel_rfl) rfl ?_
    refine q_skip (by kernel_rfl) ?_
    refine q_block (id := 1) (by kernel_rfl) ?_
    refine qs ?_
    refine qg ?_
    refine Ops.go (v := (Value.tuple #[(agg [(Value.string (str x15.1)), (Value.string (str x15.2))]), (agg [(i64 a16.op.kind), (Value.string (str a16.op.frm)), (Value.string (str a16.op.to)), (i64 a16.op.amount), (Value.string (str a16.op.key)), (i64 a16.op.slot), (i64 a16.op.shard), (i64 a16.why)])])) (by kernel_rfl) (Runs.of_entry (by kernel_rfl) (IterM.entry (kf := kpair) (vf := keptv) (x := x15) (a := a16) H23)) (d := (some 18)) (by kernel_rfl) rfl ?_
    refine og 2 [(1, (Value.map (some m2))), (15, (ptr it4)), (19, (agg [(Value.string (str x15.1)), (Value.string (str x15.2))])), (20, (agg [(i64 a16.op.kind), (Value.string (str a16.op.frm)), (Value.string (str a16.op.to)), (i64 a16.op.amount), (Value.string (str a16.op.key)), (i64 a16.op.slot), (i64 a16.op.shard), (i64 a16.why)]))] 3 ?_
    refine Ops.new (o := rowL [(Value.string ByteArray.empty), (Value.string ByteArray.empty)] 116) (V := fun b => (ptr b)) (by kernel_rfl) (d := (some 5)) (by kernel_rfl) (fun b => rfl) (fun b27 w28 hb29 H30 K31 hs32 => ?_)
    have lb27m1 : m1 < b27 := by have := H12.lt; omega
    have lb27m2 : m2 < b27 := by have := H13.lt; omega
    have lb27it4 : it4 < b27 := by have := H23.lt; omega
    have nb27 : w.heap.size ≤ b27 := by have := K11.size; omega
    replace K11 := K11.trans K31 (U := none_) (fun i h1 h2 => h2) (fun i h1 h2 => by exact h2)
    replace H12 := H12.keep K31 (fun h => h)
    replace H13 := H13.keep K31 (fun h => h)
    replace H23 := H23.keep K31 (fun h => h) (fun h => h)
    clear K31 hs32
    refine Ops.new (o := rowL [(i64 0), (Value.string ByteArray.empty), (Value.string ByteArray.empty), (i64 0), (Value.string ByteArray.empty), (i64 0), (i64 0), (i64 0)] 118) (V := fun b => (ptr b)) (by kernel_rfl) (d := (some 6)) (by kernel_rfl) (fun b => rfl) (fun b33 w34 hb35 H36 K37 hs38 => ?_)
    have lb33m1 : m1 < b33 := by have := H12.lt; omega
    have lb33m2 : m2 < b33 := by have := H13.lt; omega
    have lb33it4 : it4 < b33 := by have := H23.lt; omega
    have lb33b27 : b27 < b33 := by have := H30.lt; omega
    have nb33 : w.heap.size ≤ b33 := by have := K11.size; omega
    replace K11 := K11.trans K37 (U := none_) (fun i h1 h2 => h2) (fun i h1 h2 => by exact h2)
    replace H12 := H12.keep K37 (fun h => h)
    replace H13 := H13.keep K37 (fun h => h)
    replace H23 := H23.keep K37 (fun h => h) (fun h => h)
    replace H30 := H30.keep K37 (fun h => h)
    clear K37 hs38
    refine Ops.put (t := 116) (b := b27) (off := 0) (v := (agg [(Value.string (str x15.1)), (Value.string (str x15.2))])) (ys := [(Value.string (str x15.1)), (Value.string (str x15.2))]) (by kernel_rfl) (by kernel_rfl) H30 (by kernel_rfl) (d := none) (by kernel_rfl) rfl (fun w39 H40 K41 => ?_)
    clear H30
    replace K11 := K11.trans K41 (U := none_) (fun i h1 h2 => h2) (fun i h1 h2 => by have h2 : i = b27 := h2; exfalso; omega)
    replace H12 := H12.k1 K41 (by omega)
    replace H13 := H13.k1 K41 (by omega)
    replace H23 := H23.keep K41 (by intro h; change it4 = b27 at h; omega) (by intro h; change m1 = b27 at h; omega)
    replace H36 := H36.k1 K41 (by omega)
    clear K41
    refine Ops.put (t := 118) (b := b33) (off := 0) (v := (agg [(i64 a16.op.kind), (Value.string (str a16.op.frm)), (Value.string (str a16.op.to)), (i64 a16.op.amount), (Value.string (str a16.op.key)), (i64 a16.op.slot), (i64 a16.op.shard), (i64 a16.why)])) (ys := [(i64 a16.op.kind), (Value.string (str a16.op.frm)), (Value.string (str a16.op.to)), (i64 a16.op.amount), (Value.string (str a16.op.key)), (i64 a16.op.slot), (i64 a16.op.shard), (i64 a16.why)]) (by kernel_rfl) (by kernel_rfl) H36 (by kernel_rfl) (d := none) (by kernel_rfl) rfl (fun w42 H43 K44 => ?_)
    clear H36
    replace K11 := K11.trans K44 (U := none_) (fun i h1 h2 => h2) (fun i h1 h2 => by have h2 : i = b33 := h2; exfalso; omega)
    replace H12 := H12.k1 K44 (by omega)
    replace H13 := H13.k1 K44 (by omega)
    replace H23 := H23.keep K44 (by intro h; change it4 = b33 at h; omega) (by intro h; change m1 = b33 at h; omega)
    replace H40 := H40.k1 K44 (by omega)
    clear K44
    refine od ?_
    refine qs ?_
    refine qg ?_
    refine og 1 [(1, (Value.map (some m2))), (5, (ptr b27)), (6, (ptr b33)), (15, (ptr it4)), (22, (Value.map (some m2)))] 1 ?_
    refine Ops.go (v := (agg [(Value.string (str x15.1)), (Value.string (str x15.2))])) (by kernel_rfl) (Runs.load (t := 116) (a := ⟨b27, 0, none⟩) (by kernel_rfl) (H40.loads (by kernel_rfl))) (d := (some 23)) (by kernel_rfl) rfl ?_
    refine Ops.go (v := (Value.tuple #[(agg [(i64 0), (Value.string ByteArray.empty), (Value.string ByteArray.empty), (i64 0), (Value.string ByteArray.empty), (i64 0), (i64 0), (i64 0)]), (Value.bool false)])) (by kernel_rfl) (Runs.lookup_none (ok := true) (z := (agg [(i64 0), (Value.string ByteArray.empty), (Value.string ByteArray.empty), (i64 0), (Value.string ByteArray.empty), (i64 0), (i64 0), (i64 0)])) KT2 Tryd.underlying108 (by kernel_rfl) H13 hg25 (by kernel_rfl)) (d := (some 24)) (by kernel_rfl) rfl ?_
    refine og 3 [(1, (Value.map (some m2))), (6, (ptr b33)), (15, (ptr it4)), (25, (agg [(i64 0), (Value.string ByteArray.empty), (Value.string ByteArray.empty), (i64 0), (Value.string ByteArray.empty), (i64 0), (i64 0), (i64 0)])), (26, (Value.bool false))] 6 ?_
    refine Ops.new (o := rowL [(i64 0), (Value.string ByteArray.empty), (Value.string ByteArray.empty), (i64 0), (Value.string ByteArray.empty), (i64 0), (i64 0), (i64 0)] 118) (V := fun b => (ptr b)) (by kernel_rfl) (d := (some 7)) (by kernel_rfl) (fun b => rfl) (fun b45 w46 hb47 H48 K49 hs50 => ?_)
    have lb45m1 : m1 < b45 := by have := H12.lt; omega
    have lb45m2 : m2 < b45 := by have := H13.lt; omega
    have lb45it4 : it4 < b45 := by have := H23.lt; omega
    have lb45b27 : b27 < b45 := by have := H40.lt; omega
    have lb45b33 : b33 < b45 := by have := H43.lt; omega
    have nb45 : w.heap.size ≤ b45 := by have := K11.size; omega
    replace K11 := K11.trans K49 (U := none_) (fun i h1 h2 => h2) (fun i h1 h2 => by exact h2)
    replace H12 := H12.keep K49 (fun h => h)
    replace H13 := H13.keep K49 (fun h => h)
    replace H23 := H23.keep K49 (fun h => h) (fun h => h)
    replace H40 := H40.keep K49 (fun h => h)
    replace H43 := H43.keep K49 (fun h => h)
    clear K49 hs50
    refine Ops.put (t := 118) (b := b45) (off := 0) (v := (agg [(i64 0), (Value.string ByteArray.empty), (Value.string ByteArray.empty), (i64 0), (Value.string ByteArray.empty), (i64 0), (i64 0), (i64 0)])) (ys := [(i64 0), (Value.string ByteArray.empty), (Value.string ByteArray.empty), (i64 0), (Value.string ByteArray.empty), (i64 0), (i64 0), (i64 0)]) (by kernel_rfl) (by kernel_rfl) H48 (by kernel_rfl) (d := none) (by kernel_rfl) rfl (fun w51 H52 K53 => ?_)
    clear H48
    replace K11 := K11.trans K53 (U := none_) (fun i h1 h2 => h2) (fun i h1 h2 => by have h2 : i = b45 := h2; exfalso; omega)
    replace H12 := H12.k1 K53 (by omega)
    replace H13 := H13.k1 K53 (by omega)
    replace H23 := H23.keep K53 (by intro h; change it4 = b45 at h; omega) (by intro h; change m1 = b45 at h; omega)
    replace H40 := H40.k1 K53 (by omega)
    replace H43 := H43.k1 K53 (by omega)
    clear K53
    refine og 1 [(1, (Value.map (some m2))), (6, (ptr b33)), (7, (ptr b45)), (8, (Value.bool false)), (15, (ptr it4))] 9 ?_
    refine od ?_
    refine qs ?_
    refine qg ?_
    refine og 7 [(1, (Value.map (some m2))), (15, (ptr it4)), (33, (Value.bool true))] 7 ?_
    refine od ?_
    refine q_then (o := .tmp 33) (by kernel_rfl) rfl ?_
    refine qs ?_
    refine qg ?_
    refine og 1 [(1, (Value.map (some m2))), (4, (Value.bool false)), (15, (ptr it4))] 1 ?_
    refine od ?_
    refine q_ret (by kernel_rfl) ?_
    refine ⟨(Value.bool false), retv_tmp rfl rfl, ?_⟩
    exact ⟨false, rfl, ⟨fun h => (by cases h), fun h => absurd h fun h => (by have q := hsm h; rw [hg25] at q; cases q)⟩, K11⟩
   ·skip
    refine og 1 [(1, (Value.map (some m2))), (15, (ptr it4)), (17, (Value.bool true))] 2 ?_
    refine od ?_
    refine qs ?_
    refine q_then (o := .tmp 17) (by kernel_rfl) rfl ?_
    refine q_skip (by kernel_rfl) ?_
    refine q_block (id := 1) (by kernel_rfl) ?_
    refine qs ?_
    refine qg ?_
    refine Ops.go (v := (Value.tuple #[(agg [(Value.string (str x15.1)), (Value.string (str x15.2))]), (agg [(i64 a16.op.kind), (Value.string (str a16.op.frm)), (Value.string (str a16.op.to)), (i64 a16.op.amount), (Value.string (str a16.op.key)), (i64 a16.op.slot), (i64 a16.op.shard), (i64 a16.why)])])) (by kernel_rfl) (Runs.of_entry (by kernel_rfl) (IterM.entry (kf := kpair) (vf := keptv) (x := x15) (a := a16) H23)) (d := (some 18)) (by kernel_rfl) rfl ?_
    refine og 2 [(1, (Value.map (some m2))), (15, (ptr it4)), (19, (agg [(Value.string (str x15.1)), (Value.string (str x15.2))])), (20, (agg [(i64 a16.op.kind), (Value.string (str a16.op.frm)), (Value.string (str a16.op.to)), (i64 a16.op.amount), (Value.string (str a16.op.key)), (i64 a16.op.slot), (i64 a16.op.shard), (i64 a16.why)]))] 3 ?_
    refine Ops.new (o := rowL [(Value.string ByteArray.empty), (Value.string ByteArray.empty)] 116) (V := fun b => (ptr b)) (by kernel_rfl) (d := (some 5)) (by kernel_rfl) (fun b => rfl) (fun b54 w55 hb56 H57 K58 hs59 => ?_)
    have lb54m1 : m1 < b54 := by have := H12.lt; omega
    have lb54m2 : m2 < b54 := by have := H13.lt; omega
    have lb54it4 : it4 < b54 := by have := H23.lt; omega
    have nb54 : w.heap.size ≤ b54 := by have := K11.size; omega
    replace K11 := K11.trans K58 (U := none_) (fun i h1 h2 => h2) (fun i h1 h2 => by exact h2)
    replace H12 := H12.keep K58 (fun h => h)
    replace H13 := H13.keep K58 (fun h => h)
    replace H23 := H23.keep K58 (fun h => h) (fun h => h)
    clear K58 hs59
    refine Ops.new (o := rowL [(i64 0), (Value.string ByteArray.empty), (Value.string ByteArray.empty), (i64 0), (Value.string ByteArray.empty), (i64 0), (i64 0), (i64 0)] 118) (V := fun b => (ptr b)) (by kernel_rfl) (d := (some 6)) (by kernel_rfl) (fun b => rfl) (fun b60 w61 hb62 H63 K64 hs65 => ?_)
    have lb60m1 : m1 < b60 := by have := H12.lt; omega
    have lb60m2 : m2 < b60 := by have := H13.lt; omega
    have lb60it4 : it4 < b60 := by have := H23.lt; omega
    have lb60b54 : b54 < b60 := by have := H57.lt; omega
    have nb60 : w.heap.size ≤ b60 := by have := K11.size; omega
    replace K11 := K11.trans K64 (U := none_) (fun i h1 h2 => h2) (fun i h1 h2 => by exact h2)
    replace H12 := H12.keep K64 (fun h => h)
    replace H13 := H13.keep K64 (fun h => h)
    replace H23 := H23.keep K64 (fun h => h) (fun h => h)
    replace H57 := H57.keep K64 (fun h => h)
    clear K64 hs65
    refine Ops.put (t := 116) (b := b54) (off := 0) (v := (agg [(Value.string (str x15.1)), (Value.string (str x15.2))])) (ys := [(Value.string (str x15.1)), (Value.string (str x15.2))]) (by kernel_rfl) (by kernel_rfl) H57 (by kernel_rfl) (d := none) (by kernel_rfl) rfl (fun w66 H67 K68 => ?_)
    clear H57
    replace K11 := K11.trans K68 (U := none_) (fun i h1 h2 => h2) (fun i h1 h2 => by have h2 : i = b54 := h2; exfalso; omega)
    replace H12 := H12.k1 K68 (by omega)
    replace H13 := H13.k1 K68 (by omega)
    replace H23 := H23.keep K68 (by intro h; change it4 = b54 at h; omega) (by intro h; change m1 = b54 at h; omega)
    replace H63 := H63.k1 K68 (by omega)
    clear K68
    refine Ops.put (t := 118) (b := b60) (off := 0) (v := (agg [(i64 a16.op.kind), (Value.string (str a16.op.frm)), (Value.string (str a16.op.to)), (i64 a16.op.amount), (Value.string (str a16.op.key)), (i64 a16.op.slot), (i64 a16.op.shard), (i64 a16.why)])) (ys := [(i64 a16.op.kind), (Value.string (str a16.op.frm)), (Value.string (str a16.op.to)), (i64 a16.op.amount), (Value.string (str a16.op.key)), (i64 a16.op.slot), (i64 a16.op.shard), (i64 a16.why)]) (by kernel_rfl) (by kernel_rfl) H63 (by kernel_rfl) (d := none) (by kernel_rfl) rfl (fun w69 H70 K71 => ?_)
    clear H63
    replace K11 := K11.trans K71 (U := none_) (fun i h1 h2 => h2) (fun i h1 h2 => by have h2 : i = b60 := h2; exfalso; omega)
    replace H12 := H12.k1 K71 (by omega)
    replace H13 := H13.k1 K71 (by omega)
    replace H23 := H23.keep K71 (by intro h; change it4 = b60 at h; omega) (by intro h; change m1 = b60 at h; omega)
    replace H67 := H67.k1 K71 (by omega)
    clear K71
    refine od ?_
    refine qs ?_
    refine qg ?_
    refine og 1 [(1, (Value.map (some m2))), (5, (ptr b54)), (6, (ptr b60)), (15, (ptr it4)), (22, (Value.map (some m2)))] 1 ?_
    refine Ops.go (v := (agg [(Value.string (str x15.1)), (Value.string (str x15.2))])) (by kernel_rfl) (Runs.load (t := 116) (a := ⟨b54, 0, none⟩) (by kernel_rfl) (H67.loads (by kernel_rfl))) (d := (some 23)) (by kernel_rfl) rfl ?_
    refine Ops.go (v := (Value.tuple #[(agg [(i64 v26.op.kind), (Value.string (str v26.op.frm)), (Value.string (str v26.op.to)), (i64 v26.op.amount), (Value.string (str v26.op.key)), (i64 v26.op.slot), (i64 v26.op.shard), (i64 v26.why)]), (Value.bool true)])) (by kernel_rfl) (Runs.lookup_some (ok := true) (vf := keptv) (a := (⟨v26.op, v26.why⟩ : KeptM)) KT2 Tryd.underlying108 H13 hg25 (by kernel_rfl)) (d := (some 24)) (by kernel_rfl) rfl ?_
    refine og 3 [(1, (Value.map (some m2))), (6, (ptr b60)), (15, (ptr it4)), (25, (agg [(i64 v26.op.kind), (Value.string (str v26.op.frm)), (Value.string (str v26.op.to)), (i64 v26.op.amount), (Value.string (str v26.op.key)), (i64 v26.op.slot), (i64 v26.op.shard), (i64 v26.why)])), (26, (Value.bool true))] 6 ?_
    refine Ops.new (o := rowL [(i64 0), (Value.string ByteArray.empty), (Value.string ByteArray.empty), (i64 0), (Value.string ByteArray.empty), (i64 0), (i64 0), (i64 0)] 118) (V := fun b => (ptr b)) (by kernel_rfl) (d := (some 7)) (by kernel_rfl) (fun b => rfl) (fun b72 w73 hb74 H75 K76 hs77 => ?_)
    have lb72m1 : m1 < b72 := by have := H12.lt; omega
    have lb72m2 : m2 < b72 := by have := H13.lt; omega
    have lb72it4 : it4 < b72 := by have := H23.lt; omega
    have lb72b54 : b54 < b72 := by have := H67.lt; omega
    have lb72b60 : b60 < b72 := by have := H70.lt; omega
    have nb72 : w.heap.size ≤ b72 := by have := K11.size; omega
    replace K11 := K11.trans K76 (U := none_) (fun i h1 h2 => h2) (fun i h1 h2 => by exact h2)
    replace H12 := H12.keep K76 (fun h => h)
    replace H13 := H13.keep K76 (fun h => h)
    replace H23 := H23.keep K76 (fun h => h) (fun h => h)
    replace H67 := H67.keep K76 (fun h => h)
    replace H70 := H70.keep K76 (fun h => h)
    clear K76 hs77
    refine Ops.put (t := 118) (b := b72) (off := 0) (v := (agg [(i64 v26.op.kind), (Value.string (str v26.op.frm)), (Value.string (str v26.op.to)), (i64 v26.op.amount), (Value.string (str v26.op.key)), (i64 v26.op.slot), (i64 v26.op.shard), (i64 v26.why)])) (ys := [(i64 v26.op.kind), (Value.string (str v26.op.frm)), (Value.string (str v26.op.to)), (i64 v26.op.amount), (Value.string (str v26.op.key)), (i64 v26.op.slot), (i64 v26.op.shard), (i64 v26.why)]) (by kernel_rfl) (by kernel_rfl) H75 (by kernel_rfl) (d := none) (by kernel_rfl) rfl (fun w78 H79 K80 => ?_)
    clear H75
    replace K11 := K11.trans K80 (U := none_) (fun i h1 h2 => h2) (fun i h1 h2 => by have h2 : i = b72 := h2; exfalso; omega)
    replace H12 := H12.k1 K80 (by omega)
    replace H13 := H13.k1 K80 (by omega)
    replace H23 := H23.keep K80 (by intro h; change it4 = b72 at h; omega) (by intro h; change m1 = b72 at h; omega)
    replace H67 := H67.k1 K80 (by omega)
    replace H70 := H70.k1 K80 (by omega)
    clear K80
    refine og 1 [(1, (Value.map (some m2))), (6, (ptr b60)), (7, (ptr b72)), (8, (Value.bool true)), (15, (ptr it4))] 9 ?_
    refine od ?_
    refine qs ?_
    refine qg ?_
    refine og 3 [(1, (Value.map (some m2))), (6, (ptr b60)), (7, (ptr b72)), (15, (ptr it4)), (29, (Value.bool false))] 3 ?_
    refine Ops.go (v := (agg [(i64 a16.op.kind), (Value.string (str a16.op.frm)), (Value.string (str a16.op.to)), (i64 a16.op.amount), (Value.string (str a16.op.key)), (i64 a16.op.slot), (i64 a16.op.shard), (i64 a16.why)])) (by kernel_rfl) (Runs.load (t := 118) (a := ⟨b60, 0, none⟩) (by kernel_rfl) (H70.loads (by kernel_rfl))) (d := (some 30)) (by kernel_rfl) rfl ?_
    refine Ops.go (v := (agg [(i64 v26.op.kind), (Value.string (str v26.op.frm)), (Value.string (str v26.op.to)), (i64 v26.op.amount), (Value.string (str v26.op.key)), (i64 v26.op.slot), (i64 v26.op.shard), (i64 v26.why)])) (by kernel_rfl) (Runs.load (t := 118) (a := ⟨b72, 0, none⟩) (by kernel_rfl) (H79.loads (by kernel_rfl))) (d := (some 31)) (by kernel_rfl) rfl ?_
    refine Ops.go (v := (Value.bool (!(aggB [(i64 a16.op.kind), (Value.string (str a16.op.frm)), (Value.string (str a16.op.to)), (i64 a16.op.amount), (Value.string (str a16.op.key)), (i64 a16.op.slot), (i64 a16.op.shard)] [(i64 v26.op.kind), (Value.string (str v26.op.frm)), (Value.string (str v26.op.to)), (i64 v26.op.amount), (Value.string (str v26.op.key)), (i64 v26.op.slot), (i64 v26.op.shard)] && cellB (i64 a16.why) (i64 v26.why))))) (by kernel_rfl) (Runs.nestneE (t := 118) (xs := [(i64 a16.op.kind), (Value.string (str a16.op.frm)), (Value.string (str a16.op.to)), (i64 a16.op.amount), (Value.string (str a16.op.key)), (i64 a16.op.slot), (i64 a16.op.shard)]) (ys := [(i64 v26.op.kind), (Value.string (str v26.op.frm)), (Value.string (str v26.op.to)), (i64 v26.op.amount), (Value.string (str v26.op.key)), (i64 v26.op.slot), (i64 v26.op.shard)]) (x := (i64 a16.why)) (y := (i64 v26.why)) keptNest rfl rfl (by kernel_rfl) (by kernel_rfl) (by kernel_rfl)) (d := (some 32)) (by kernel_rfl) rfl ?_
    refine og 1 [(1, (Value.map (some m2))), (15, (ptr it4)), (33, (Value.bool (!(aggB [(i64 a16.op.kind), (Value.string (str a16.op.frm)), (Value.string (str a16.op.to)), (i64 a16.op.amount), (Value.string (str a16.op.key)), (i64 a16.op.slot), (i64 a16.op.shard)] [(i64 v26.op.kind), (Value.string (str v26.op.frm)), (Value.string (str v26.op.to)), (i64 v26.op.amount), (Value.string (str v26.op.key)), (i64 v26.op.slot), (i64 v26.op.shard)] && cellB (i64 a16.why) (i64 v26.why)))))] 7 ?_
    refine od ?_
    refine q_cond (o := .tmp 33) (b := (!(aggB [(i64 a16.op.kind), (Value.string (str a16.op.frm)), (Value.string (str a16.op.to)), (i64 a16.op.amount), (Value.string (str a16.op.key)), (i64 a16.op.slot), (i64 a16.op.shard)] [(i64 v26.op.kind), (Value.string (str v26.op.frm)), (Value.string (str v26.op.to)), (i64 v26.op.amount), (Value.string (str v26.op.key)), (i64 v26.op.slot), (i64 v26.op.shard)] && cellB (i64 a16.why) (i64 v26.why)))) (by kernel_rfl) rfl (fun h81 => ?_) (fun h81 => ?_)
    ·rw [h81]
     have p82 : (aggB [(i64 a16.op.kind), (Value.string (str a16.op.frm)), (Value.string (str a16.op.to)), (i64 a16.op.amount), (Value.string (str a16.op.key)), (i64 a16.op.slot), (i64 a16.op.shard)] [(i64 v26.op.kind), (Value.string (str v26.op.frm)), (Value.string (str v26.op.to)), (i64 v26.op.amount), (Value.string (str v26.op.key)), (i64 v26.op.slot), (i64 v26.op.shard)] && cellB (i64 a16.why) (i64 v26.why)) = false := (bnot_true h81)
     have hav : a16 ≠ v26 := fun h => by have hq := ((kept_beq a16 v26).2 h).symm.trans (bnot_true h81); cases hq
     refine qs ?_
     refine qg ?_
     refine og 1 [(1, (Value.map (some m2))), (4, (Value.bool false)), (15, (ptr it4))] 1 ?_
     refine od ?_
     refine q_ret (by kernel_rfl) ?_
     refine ⟨(Value.bool false), retv_tmp rfl rfl, ?_⟩
     exact ⟨false, rfl, ⟨fun h => (by cases h), fun h => absurd h fun h => (by have q := hsm h; rw [hg25] at q; exact hav (Option.some.inj q).symm)⟩, K11⟩
    ·rw [h81]
     have p83 : (aggB [(i64 a16.op.kind), (Value.string (str a16.op.frm)), (Value.string (str a16.op.to)), (i64 a16.op.amount), (Value.string (str a16.op.key)), (i64 a16.op.slot), (i64 a16.op.shard)] [(i64 v26.op.kind), (Value.string (str v26.op.frm)), (Value.string (str v26.op.to)), (i64 v26.op.amount), (Value.string (str v26.op.key)), (i64 v26.op.slot), (i64 v26.op.shard)] && cellB (i64 a16.why) (i64 v26.why)) = true := (bnot_false h81)
     have hav := (kept_beq a16 v26).1 (bnot_false h81)
     refine q_keep (R := [(1, (Value.map (some m2))), (15, (ptr it4))]) (by kernel_rfl) ?_
     refine q_skip (by kernel_rfl) ?_
     exact ⟨(came ++ [(x15, a16)], p17 ++ q18, some (x15, a16)), ⟨rfl, (came_perm (by rw [← hs20]; exact hp)), (fun y hy => by rcases List.mem_append.1 hy with hy | hy; (exact hall y hy); (rw [List.mem_singleton.1 hy, hav]; exact hg25)), K11, H12, H13, H23⟩, (show (p17 ++ q18).length < rest.length from by rw [List.length_append]; omega)⟩

theorem Same_calls (w : World) (b mb kb : Nat) (m : List (List UInt8 × Int)) (S : List RowM) (K : List KeptM) (b2 mb2 kb2 : Nat) (m2 : List (List UInt8 × Int)) (S2 : List RowM) (K2 : List KeptM) (Hb : Has w b (rowL [.map (some mb), .map (some kb)] 110)) (Hm : HasMap w mb kstr ki64 m) (Hk : HasMap w kb kpair keptv (K.map KeptM.kv)) (hne : b ≠ mb ∧ b ≠ kb ∧ mb ≠ kb) (hB : LBook m S K) (Hb2 : Has w b2 (rowL [.map (some mb2), .map (some kb2)] 110)) (Hm2 : HasMap w mb2 kstr ki64 m2) (Hk2 : HasMap w kb2 kpair keptv (K2.map KeptM.kv)) (hne2 : b2 ≠ mb2 ∧ b2 ≠ kb2 ∧ mb2 ≠ kb2) (hB2 : LBook m2 S2 K2) : Calls Tryd.prog 32 ⟨[(ptr b), (ptr b2)]⟩ w (fun e w' => ∃ t, e = .returned (.bool t) ∧ (t = true ↔ (S = S2 ∧ K.Perm K2)) ∧ Keeps none_ w w') := by
 have Hbl := Hb.lt
 have Hml := Hm.lt
 have Hkl := Hk.lt
 have hL := hB.lmap
 have Hb2l := Hb2.lt
 have Hm2l := Hm2.lt
 have Hk2l := Hk2.lt
 have K0 : Keeps none_ w w := Keeps.refl w
 refine q_calls Tryd.func32 (by kernel_rfl) (by kernel_rfl) ?_
 refine qs ?_
 refine qg ?_
 refine og 1 [(0, (ptr b)), (1, (ptr b2)), (4, (Value.bool false))] 1 ?_
 refine od ?_
 refine qs ?_
 refine qs ?_
 refine qg ?_
 refine og 6 [(0, (ptr b)), (1, (ptr b2)), (4, (Value.bool false)), (10, (Value.bool false))] 6 ?_
 refine od ?_
 refine q_else (o := .tmp 10) (by kernel_rfl) rfl ?_
 refine q_skip (by kernel_rfl) ?_
 refine qs ?_
 refine q_draw (fun wz => Keeps none_ w wz) 21 (by kernel_rfl) (by kernel_rfl) (by kernel_rfl) (fun w1 K2 _ _ => ⟨K2, ?_⟩)
 replace K0 := K0.t0 K2
 replace Hb := Hb.keep K2 (fun h => h)
 replace Hm := Hm.keep K2 (fun h => h)
 replace Hk := Hk.keep K2 (fun h => h)
 replace Hb2 := Hb2.keep K2 (fun h => h)
 replace Hm2 := Hm2.keep K2 (fun h => h)
 replace Hk2 := Hk2.keep K2 (fun h => h)
 refine Dr.strong (S' := (fun wz => Keeps none_ w1 wz)) (Keeps.refl w1) (fun wz hx => K2.trans hx (fun i _ h => h) (fun _ _ h => h)) ?_
 clear K2
 refine Dr.takes (fuel' := 18) (is' := _) [0, 1, 2] [(0, (ptr b)), (1, (ptr b2)), (4, (Value.bool false)), (16, (ptr b))] (by kernel_rfl) rfl (by kernel_rfl) ?_
 refine Dr.take (i := 3) (v := (Value.map (some mb))) (by kernel_rfl) (by kernel_rfl) (fun wz hS => Runs.load (t := 107) (a := ⟨b, 0, none⟩) (by kernel_rfl) ((Hb.keep hS (fun h => h)).loads (by kernel_rfl))) (d := (some 17)) (by kernel_rfl) rfl ?_
 refine Dr.takes (fuel' := 14) (is' := _) [4, 5, 6] [(0, (ptr b)), (1, (ptr b2)), (4, (Value.bool false)), (17, (Value.map (some mb))), (20, (ptr b2))] (by kernel_rfl) rfl (by kernel_rfl) ?_
 refine Dr.take (i := 7) (v := (Value.map (some mb2))) (by kernel_rfl) (by kernel_rfl) (fun wz hS => Runs.load (t := 107) (a := ⟨b2, 0, none⟩) (by kernel_rfl) ((Hb2.keep hS (fun h => h)).loads (by kernel_rfl))) (d := (some 21)) (by kernel_rfl) rfl ?_
 refine Dr.call (i := 8) (by kernel_rfl) (by kernel_rfl) (d := (some 22)) (by kernel_rfl) (fun _ => EqualM_calls _ mb mb2 m m2 S S2 Hm Hm2 hB.lmap hB2.lmap) ?_
 rintro _ w6 ⟨t3, rfl, ht4, K5⟩
 replace K0 := K0.t0 K5
 replace Hb := Hb.keep K5 (fun h => h)
 replace Hm := Hm.keep K5 (fun h => h)
 replace Hk := Hk.keep K5 (fun h => h)
 replace Hb2 := Hb2.keep K5 (fun h => h)
 replace Hm2 := Hm2.keep K5 (fun h => h)
 replace Hk2 := Hk2.keep K5 (fun h => h)
 refine ⟨_, _, rfl, rfl, K5, ?_⟩
 refine Dr.strong (S' := (fun wz => Keeps none_ w6 wz)) (Keeps.refl w6) (fun wz hx => K5.trans hx (fun i _ h => h) (fun _ _ h => h)) ?_
 clear K5
 refine Dr.takes (fuel' := 11) (is' := _) [9] [(0, (ptr b)), (1, (ptr b2)), (4, (Value.bool false)), (23, (Value.bool t3))] (by kernel_rfl) rfl (by kernel_rfl) ?_
 refine Dr.split t3 (fun h7 => ?_) (fun h7 => ?_)
 ·rw [h7]
  have p8 : t3 = true := h7
  refine Dr.takes (fuel' := 8) (is' := _) [10, 11, 12] [(1, (ptr b2)), (4, (Value.bool false)), (23, (Value.bool true)), (26, (Value.pointer (some ⟨b, 1, none⟩)))] (by kernel_rfl) rfl (by kernel_rfl) ?_
  refine Dr.take (i := 13) (v := (Value.map (some kb))) (by kernel_rfl) (by kernel_rfl) (fun wz hS => Runs.load (t := 108) (a := ⟨b, 1, none⟩) (by kernel_rfl) ((Hb.keep hS (fun h => h)).loads (by kernel_rfl))) (d := (some 27)) (by kernel_rfl) rfl ?_
  refine Dr.takes (fuel' := 4) (is' := _) [14, 15, 16] [(4, (Value.bool false)), (23, (Value.bool true)), (27, (Value.map (some kb))), (30, (Value.pointer (some ⟨b2, 1, none⟩)))] (by kernel_rfl) rfl (by kernel_rfl) ?_
  refine Dr.take (i := 17) (v := (Value.map (some kb2))) (by kernel_rfl) (by kernel_rfl) (fun wz hS => Runs.load (t := 108) (a := ⟨b2, 1, none⟩) (by kernel_rfl) ((Hb2.keep hS (fun h => h)).loads (by kernel_rfl))) (d := (some 31)) (by kernel_rfl) rfl ?_
  refine Dr.call (i := 18) (by kernel_rfl) (by kernel_rfl) (d := (some 32)) (by kernel_rfl) (fun _ => EqualK_calls _ kb kb2 K K2 Hk Hk2 hB.ledg.ids hB2.ledg.ids) ?_
  rintro _ w12 ⟨t9, rfl, ht10, K11⟩
  replace K0 := K0.t0 K11
  replace Hb := Hb.keep K11 (fun h => h)
  replace Hm := Hm.keep K11 (fun h => h)
  replace Hk := Hk.keep K11 (fun h => h)
  replace Hb2 := Hb2.keep K11 (fun h => h)
  replace Hm2 := Hm2.keep K11 (fun h => h)
  replace Hk2 := Hk2.keep K11 (fun h => h)
  refine ⟨_, _, rfl, rfl, K11, ?_⟩
  refine Dr.strong (S' := (fun wz => Keeps none_ w12 wz)) (Keeps.refl w12) (fun wz hx => K11.trans hx (fun i _ h => h) (fun _ _ h => h)) ?_
  clear K11
  refine Dr.takes (fuel' := 0) (is' := _) [19, 20] [(4, (Value.bool t9))] (by kernel_rfl) rfl (by kernel_rfl) ?_
  refine Dr.done (by kernel_rfl) ?_
  refine q_ret (by kernel_rfl) ?_
  refine ⟨(Value.bool t9), retv_tmp rfl rfl, ?_⟩
  exact ⟨_, rfl, ⟨fun h => ⟨ht4.1 h7, ht10.1 h⟩, fun h => ht10.2 h.2⟩, K0⟩
 ·rw [h7]
  have p13 : t3 = false := h7
  refine Dr.takes (fuel' := 0) (is' := _) [10, 11, 12, 13, 14, 15, 16, 17, 18, 19, 20] [(4, (Value.bool false))] (by kernel_rfl) rfl (by kernel_rfl) ?_
  refine Dr.done (by kernel_rfl) ?_
  refine q_ret (by kernel_rfl) ?_
  refine ⟨(Value.bool false), retv_tmp rfl rfl, ?_⟩
  exact ⟨false, rfl, ⟨fun h => (by cases h), fun h => absurd (ht4.2 h.1) (by rw [h7]; decide)⟩, K0⟩

end Go.Proofs.YtnbcghbgeiocbaaDoor
