/- a message that is read is spoiled -/
import Derived.Test.YtnepjfnkaigakaaProg
import Derived.Test.YtnepjfnkaigakaaLT
import Derived.Test.YtnepjfnkaigakaaKT
set_option linter.unusedVariables false
namespace Go.Proofs.Ytnepjfnkaigakaa
open Go.Q Go.RowKit

theorem SpoilEntries_calls (w : World) (E : Option Addr) (ec : Nat) (l : List EntP) (base : Nat) (hE : OwnE w base 97 (.slice E l.length ec) l) (hM : EntsMine 5 w base (.slice E l.length ec) l) (hpw : EntsApart l) (hs : ∀ x ∈ l, x.cmd.length ≤ 65536) :
    Calls Try.prog 78 ⟨[.slice E l.length ec]⟩ w (fun e w' => e = .returned (.tuple #[]) ∧ Keeps (fun i => (Value.slice E l.length ec).ownBlock = some i ∨ ∃ x ∈ l, ∃ o s, x.A = some ⟨i, o, s⟩) w w') := by
  have hel := (RdT.len EntP.two (by decide) (OwnT.rd hE)).2
  unfold maxLen at hel
  obtain ⟨T, hT⟩ : ∃ T : Nat → Prop, T = (fun i => (Value.slice E l.length ec).ownBlock = some i ∨ ∃ x ∈ l, ∃ o s, x.A = some ⟨i, o, s⟩) := ⟨_, rfl⟩
  rw [← hT]
  refine q_calls Try.func78 (by kernel_rfl) (by kernel_rfl) ?_
  refine q_seq (by kernel_rfl) ?_
  refine q_region (by kernel_rfl) ?_
  refine Ops.regs 1 [(0, .slice E l.length ec), (2, i64 0)] (j := 1) (by kernel_rfl) (by kernel_rfl) ?_
  refine Ops.done (by kernel_rfl) ?_
  refine q_block (id := 0) (by kernel_rfl) ?_
  refine q_loop (fun (i : Nat) L (wx : World) => L = [(0, .slice E l.length ec), (2, i64 ((i : Nat) : Int))] ∧ i ≤ l.length ∧ Keeps T w wx ∧ OwnE wx base 97 (.slice E (wornE l i).length ec) (wornE l i) ∧ ∀ y ∈ l.drop i, OwnB wx base 5 (.slice y.A y.cmd.length y.c) y.cmd) (fun i => l.length - i) 0 (by kernel_rfl)
    ⟨rfl, Nat.zero_le _, (Keeps.refl w).mono (fun _ _ h => h.elim), by rw [wornE_zero]; exact hE, fun y hy => (hM y (List.mem_of_mem_drop hy)).1⟩ ?_
  rintro i _ wx ⟨rfl, hi, hK, hO, hC⟩
  refine q_seq (by kernel_rfl) ?_
  refine q_seq (by kernel_rfl) ?_
  refine q_region (by kernel_rfl) ?_
  refine Ops.regs 4 [(0, .slice E l.length ec), (2, i64 ((i : Nat) : Int)), (6, .bool (decide (((i : Nat) : Int) < ((l.length : Nat) : Int))))] (j := 4) (by kernel_rfl) (by kernel_rfl) ?_
  refine Ops.done (by kernel_rfl) ?_
  refine q_cond (o := .tmp 6) (b := decide (((i : Nat) : Int) < ((l.length : Nat) : Int))) (by kernel_rfl) rfl (fun h => ?_) (fun h => ?_)
  · have hil := of_decide_eq_true h
    clear h
    obtain ⟨x, hx⟩ : ∃ x, l[i]? = some x := ⟨_, List.getElem?_eq_getElem (by omega)⟩
    have hxm := List.mem_of_getElem? hx
    have hdx : l.drop i = x :: l.drop (i + 1) := by obtain ⟨q1, q2⟩ := List.getElem?_eq_some_iff.1 hx; rw [List.drop_eq_getElem_cons q1, q2]
    rw [hdx] at hC
    have hxs := hs x hxm
    have hwl := wornE_len hi
    obtain ⟨g, _, hA, _, _, _, _⟩ := ents_put (wornE_at hx) hO
    refine q_keep (R := [(0, .slice E l.length ec), (2, i64 ((i : Nat) : Int))]) (by kernel_rfl) ?_
    refine q_skip (by kernel_rfl) ?_
    refine q_seq (by kernel_rfl) ?_
    refine q_block (id := 1) (by kernel_rfl) ?_
    refine q_seq (by kernel_rfl) ?_
    refine q_region (by kernel_rfl) ?_
    refine Ops.regs 2 [(0, .slice E l.length ec), (2, i64 ((i : Nat) : Int)), (9, .slice E l.length ec), (10, i64 ((i : Nat) : Int))] (j := 2) (by kernel_rfl) (by kernel_rfl) ?_
    refine Ops.go (v := .pointer (some ⟨g, 0 + i * 2, none⟩)) (by kernel_rfl) (Runs.ixSliceE (k := IntKind.i64) (t := 47) (len := l.length) (cap := ec) (s := 2) (off' := 0 + i * 2) (i := ((i : Nat) : Int)) hA (by kernel_rfl) (by kernel_rfl) (by omega) (by omega) (by omega)) (d := some 11) (by kernel_rfl) rfl ?_
    refine Ops.regs 1 [(0, .slice E l.length ec), (2, i64 ((i : Nat) : Int)), (12, .pointer (some ⟨g, 0 + i * 2 + 1, none⟩))] (j := 4) (by kernel_rfl) (by kernel_rfl) ?_
    refine Ops.go (v := .slice x.A x.cmd.length x.c) (by kernel_rfl) (Runs.load (t := 23) (a := ⟨g, 0 + i * 2 + 1, none⟩) (by kernel_rfl) (RdT.ldf (f := EntP.cells) (x := x) (o := 1) EntP.two (OwnT.rd hO) (by kernel_rfl) hA (wornE_at hx) rfl)) (d := some 13) (by kernel_rfl) rfl ?_
    refine Ops.call (by kernel_rfl) (d := some 14) (by kernel_rfl) (Spoil_calls wx (.slice x.A x.cmd.length x.c) x.cmd base (hC x (by simp)) (by omega)) ?_
    rintro _ w1 ⟨rfl, k1⟩
    refine ⟨_, _, rfl, rfl, ?_⟩
    refine Ops.keep (R := [(0, .slice E l.length ec), (2, i64 ((i : Nat) : Int))]) (by kernel_rfl) ?_
    refine Ops.done (by kernel_rfl) ?_
    have hne : ∀ b, (Value.slice x.A x.cmd.length x.c).ownBlock = some b → ∃ o s, x.A = some ⟨b, o, s⟩ := fun b hb => by
      cases hxA : x.A with
      | none => rw [hxA] at hb; cases hb
      | some a => rw [hxA] at hb; simp only [Value.ownBlock, Option.some.injEq] at hb; subst hb; exact ⟨a.off, a.spot, rfl⟩
    have hK1 : Keeps T w w1 := hK.trans k1 (fun _ _ h => h) (fun b _ hb => by rw [hT]; obtain ⟨o, s, q⟩ := hne b hb; exact .inr ⟨x, hxm, o, s, q⟩)
    have hO1 : OwnE w1 base 97 (.slice E (wornE l i).length ec) (wornE l i) := own_keep hO k1 fun b hb hb2 => by
      obtain ⟨o, s, q⟩ := hne b hb2
      exact ((hM x hxm).2 b o s q).2.2 (by rw [hA] at hb ⊢; exact hb)
    have hC1 : ∀ y ∈ l.drop (i + 1), OwnB w1 base 5 (.slice y.A y.cmd.length y.c) y.cmd := fun y hy => own_keep (hC y (by simp [hy])) k1 fun b hb hb2 => by
      obtain ⟨o, s, q⟩ := hne b hb2
      cases hyA : y.A with
      | none => rw [hyA] at hb; cases hb
      | some a => rw [hyA] at hb; simp only [Value.ownBlock, Option.some.injEq] at hb; subst hb; exact hpw.at hx y hy _ _ _ _ _ _ q hyA rfl
    obtain ⟨g1, cur, hA1, _, hcur, hlt, hput⟩ := ents_put (wornE_at hx) hO1
    obtain rfl : g1 = g := by rw [hA] at hA1; cases hA1; rfl
    refine q_region (by kernel_rfl) ?_
    refine Ops.regs 2 [(0, .slice E l.length ec), (2, i64 ((i : Nat) : Int)), (15, .slice E l.length ec), (16, i64 ((i : Nat) : Int))] (j := 2) (by kernel_rfl) (by kernel_rfl) ?_
    refine Ops.go (v := .pointer (some ⟨g1, 0 + i * 2, none⟩)) (by kernel_rfl) (Runs.ixSliceE (k := IntKind.i64) (t := 47) (len := l.length) (cap := ec) (s := 2) (off' := 0 + i * 2) (i := ((i : Nat) : Int)) hA (by kernel_rfl) (by kernel_rfl) (by omega) (by omega) (by omega)) (d := some 17) (by kernel_rfl) rfl ?_
    refine Ops.regs 1 [(0, .slice E l.length ec), (2, i64 ((i : Nat) : Int)), (18, .pointer (some ⟨g1, 0 + i * 2, none⟩))] (j := 4) (by kernel_rfl) (by kernel_rfl) ?_
    refine Ops.put (t := 2) (b := g1) (off := 0 + i * 2) (v := i64 99) (ys := cur.set (i * 2) (i64 99)) (by kernel_rfl) (by kernel_rfl) hcur (storeC1 (by kernel_rfl) rfl (by omega) (by rw [Nat.zero_add])) (d := none) (by kernel_rfl) rfl (fun w2 H2 K2 => ?_)
    refine Ops.keep (R := [(0, .slice E l.length ec), (2, i64 ((i : Nat) : Int))]) (by kernel_rfl) ?_
    refine Ops.done (by kernel_rfl) ?_
    have hEb : (Value.slice E l.length ec).ownBlock = some g1 := by rw [hA]; rfl
    refine q_region (by kernel_rfl) ?_
    refine Ops.regs 2 [(0, .slice E l.length ec), (2, i64 ((i : Nat) : Int)), (8, i64 (IntKind.i64.wrap (((i : Nat) : Int) + 1)))] (j := 2) (by kernel_rfl) (by kernel_rfl) ?_
    rw [show IntKind.i64.wrap (((i : Nat) : Int) + 1) = ((i + 1 : Nat) : Int) from by rw [wrap_i64 (by omega) (by omega)]; omega]
    refine Ops.regs 1 [(0, .slice E l.length ec), (2, i64 ((i + 1 : Nat) : Int))] (j := 3) (by kernel_rfl) (by kernel_rfl) ?_
    refine Ops.done (by kernel_rfl) ?_
    refine ⟨i + 1, ⟨rfl, by omega, hK1.trans K2 (fun _ _ h => h) (fun b _ hb => by rw [hT]; obtain rfl : b = g1 := hb; exact .inl hEb), ?_, ?_⟩, by omega⟩
    · have hq := hput w2 H2
      rw [wornE_next hx, hwl] at hq
      rw [wornE_len (by omega)]
      exact hq
    · intro y hy
      refine own_keep (hC1 y hy) K2 fun b hb hb2 => ?_
      obtain rfl : b = g1 := hb2
      cases hyA : y.A with
      | none => rw [hyA] at hb; cases hb
      | some a =>
        rw [hyA] at hb; simp only [Value.ownBlock, Option.some.injEq] at hb; subst hb
        exact ((hM y (List.mem_of_mem_drop hy)).2 _ _ _ hyA).2.2 hEb
  · refine q_exit (id := 0) (by kernel_rfl) ?_
    exact ⟨_, retv_none rfl, rfl, hK⟩
/-- A message whose rows are one's own is spoiled: nothing that lay below base has changed. -/
theorem SpoilMsg_calls (w : World) (m : MsgP) (E D : Option Addr) (ec dc base : Nat) (hE : OwnE w base 97 (.slice E m.entries.length ec) m.entries) (hM : EntsMine 5 w base (.slice E m.entries.length ec) m.entries) (hD : OwnB w base 5 (.slice D m.data.length dc) m.data) (hpw : EntsApart m.entries)
    (h1 : ∀ y ∈ m.entries, ∀ g o s, y.A = some ⟨g, o, s⟩ → (Value.slice D m.data.length dc).ownBlock = some g → False) (h2 : ∀ i, (Value.slice E m.entries.length ec).ownBlock = some i → (Value.slice D m.data.length dc).ownBlock = some i → False) (hs : ∀ x ∈ m.entries, x.cmd.length ≤ 65536) (hd : m.data.length ≤ 65536) :
    Calls Try.prog 53 ⟨[agg [i64 m.kind, i64 m.group, i64 m.frm, i64 m.to, i64 m.term, i64 m.index, i64 m.logTerm, i64 m.commit, .bool m.ok, .slice E m.entries.length ec, .slice D m.data.length dc]]⟩ w (fun e w' => e = .returned (.tuple #[]) ∧ Keeps (fun i => base ≤ i) w w') := by
  refine q_calls Try.func53 (by kernel_rfl) (by kernel_rfl) ?_
  refine q_seq (by kernel_rfl) ?_
  refine q_region (by kernel_rfl) ?_
  refine Ops.new (o := rowL [i64 m.kind, i64 m.group, i64 m.frm, i64 m.to, i64 m.term, i64 m.index, i64 m.logTerm, i64 m.commit, .bool m.ok, .slice E m.entries.length ec, .slice D m.data.length dc] 49) (V := fun b => ptr b) (by kernel_rfl) (d := some 1) (by kernel_rfl) (fun b => rfl) (fun b w1 hb1 H1 K1 hs1 => ?_)
  refine Ops.keep (R := [(1, ptr b)]) (by kernel_rfl) ?_
  refine Ops.done (by kernel_rfl) ?_
  refine q_seq (by kernel_rfl) ?_
  refine q_region (by kernel_rfl) ?_
  refine Ops.regs 1 [(1, ptr b), (2, .pointer (some ⟨b, 9, none⟩))] (j := 1) (by kernel_rfl) (by kernel_rfl) ?_
  refine Ops.go (v := .slice E m.entries.length ec) (by kernel_rfl) (Runs.load (t := 47) (a := ⟨b, 9, none⟩) (by kernel_rfl) (H1.loads (by kernel_rfl))) (d := some 3) (by kernel_rfl) rfl ?_
  refine Ops.call (by kernel_rfl) (d := some 4) (by kernel_rfl) (SpoilEntries_calls w1 E ec m.entries base (own_keep0 hE K1) (hM.keep2 K1 (fun _ _ _ _ _ _ h => h)) hpw hs) ?_
  rintro _ w2 ⟨rfl, k2⟩
  refine ⟨_, _, rfl, rfl, ?_⟩
  refine Ops.keep (R := [(1, ptr b)]) (by kernel_rfl) ?_
  refine Ops.done (by kernel_rfl) ?_
  have hbb : ∀ i, ((Value.slice E m.entries.length ec).ownBlock = some i ∨ ∃ x ∈ m.entries, ∃ o s, x.A = some ⟨i, o, s⟩) → base ≤ i ∧ i < w.heap.size := fun i hi => by
    rcases hi with hi | ⟨x, hx, o, s, hA⟩
    · exact World.ownsRow.lt hE i hi
    · have := (hM x hx).2 i o s hA; exact ⟨this.1, this.2.1⟩
  have H2 := H1.keep k2 (fun h => by have := hbb b h; omega)
  have hD2 : OwnB w2 base 5 (.slice D m.data.length dc) m.data := own_keep (own_keep0 hD K1) k2 fun i hi h => by
    rcases h with h | ⟨x, hx, o, s, hA⟩
    · exact h2 i h hi
    · exact h1 x hx i o s hA hi
  refine q_region (by kernel_rfl) ?_
  refine Ops.regs 1 [(1, ptr b), (5, .pointer (some ⟨b, 10, none⟩))] (j := 1) (by kernel_rfl) (by kernel_rfl) ?_
  refine Ops.go (v := .slice D m.data.length dc) (by kernel_rfl) (Runs.load (t := 23) (a := ⟨b, 10, none⟩) (by kernel_rfl) (H2.loads (by kernel_rfl))) (d := some 6) (by kernel_rfl) rfl ?_
  refine Ops.call (by kernel_rfl) (d := some 7) (by kernel_rfl) (Spoil_calls w2 (.slice D m.data.length dc) m.data base hD2 (by omega)) ?_
  rintro _ w3 ⟨rfl, k3⟩
  refine ⟨_, _, rfl, rfl, ?_⟩
  refine Ops.done (by kernel_rfl) ?_
  refine ⟨_, retv_none rfl, rfl, ?_⟩
  exact (K1.trans k2 (U := fun i => base ≤ i) (fun _ _ h => h.elim) (fun i _ h => (hbb i h).1)).trans k3 (fun _ _ h => h) (fun i _ h => (World.ownsRow.lt hD i h).1)
end Go.Proofs.Ytnepjfnkaigakaa
