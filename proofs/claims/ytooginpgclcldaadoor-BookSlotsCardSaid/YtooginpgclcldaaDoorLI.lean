/- Messages that are read. -/
import Derived.Test.YtooginpgclcldaaDoorLH
set_option linter.unusedVariables false
namespace Go.Q
open Go.RowKit

def Rdr.nth : Nat → Rdr → Rdr
  | 0, r => r
  | n + 1, r => (Rdr.nth n r).int.2
theorem Rdr.nth_bs : ∀ (n : Nat) (r : Rdr), (Rdr.nth n r).bs = r.bs
  | 0, r => rfl
  | n + 1, r => by show (Rdr.nth n r).int.2.bs = r.bs; rw [Rdr.int_bs, Rdr.nth_bs n]
def Rdr.ents : Nat → Rdr → List (Int × List UInt8) × Rdr
  | 0, r => ([], r)
  | n + 1, r => if r.why ≠ 0 then ([], r) else ((r.int.1, r.int.2.bytes.1) :: (Rdr.ents n r.int.2.bytes.2).1, (Rdr.ents n r.int.2.bytes.2).2)
/-- A message without its places. -/
structure MsgC where
  ints : List Int
  ok : Bool
  ents : List (Int × List UInt8)
  data : List UInt8
def MsgP.core (m : MsgP) : MsgC := ⟨m.ints, m.ok, m.entries.map EntP.key, m.data⟩
def MsgC.zero : MsgC := ⟨[0, 0, 0, 0, 0, 0, 0, 0], false, [], []⟩
theorem MsgP.same_core {a b : MsgP} : a.Same b ↔ a.core = b.core := by
  constructor
  · intro h
    simp only [MsgP.core, MsgP.ints, h.kind, h.group, h.frm, h.to, h.term, h.index, h.logTerm, h.commit, h.ok, h.ents, h.data]
  · intro h
    simp only [MsgP.core, MsgP.ints, MsgC.mk.injEq, List.cons.injEq, and_true] at h
    obtain ⟨⟨h1, h2, h3, h4, h5, h6, h7, h8⟩, h9, h10, h11⟩ := h
    exact ⟨h1, h2, h3, h4, h5, h6, h7, h8, h9, h10, h11⟩
/-- What stands behind the head, read. -/
def Rdr.mok (r : Rdr) : Bool × Rdr := (Rdr.nth 8 r).bool_
def Rdr.mcnt (r : Rdr) : Nat × Rdr := r.mok.2.sized 4096
def Rdr.ments (r : Rdr) : List (Int × List UInt8) × Rdr := Rdr.ents r.mcnt.1 r.mcnt.2
def Rdr.mdata (r : Rdr) : List UInt8 × Rdr := r.ments.2.bytes
def Rdr.mint (r : Rdr) (i : Nat) : Int := (Rdr.nth i r).int.1
def Rdr.mints (r : Rdr) : List Int := [r.mint 0, r.mint 1, r.mint 2, r.mint 3, r.mint 4, r.mint 5, r.mint 6, r.mint 7]
def Rdr.mfit (r : Rdr) : Prop := (1 ≤ r.mint 0 ∧ r.mint 0 ≤ 6) ∧ (0 ≤ r.mint 1 ∧ r.mint 1 ≤ 3) ∧ (0 ≤ r.mint 2 ∧ r.mint 2 ≤ 4) ∧ (0 ≤ r.mint 3 ∧ r.mint 3 ≤ 4)
instance (r : Rdr) : Decidable r.mfit := by unfold Rdr.mfit; infer_instance
/-- What bytes are as a message, and the error. -/
def unmsgB (bs : List UInt8) : MsgC × Int :=
  if 1048576 < bs.length then (MsgC.zero, 3)
  else if (⟨bs, 0, 0⟩ : Rdr).mdata.2.end_ ≠ 0 then (MsgC.zero, (⟨bs, 0, 0⟩ : Rdr).mdata.2.end_)
  else if (⟨bs, 0, 0⟩ : Rdr).mfit then (⟨(⟨bs, 0, 0⟩ : Rdr).mints, (⟨bs, 0, 0⟩ : Rdr).mok.1, (⟨bs, 0, 0⟩ : Rdr).ments.1, (⟨bs, 0, 0⟩ : Rdr).mdata.1⟩, 0)
  else (MsgC.zero, 1)
theorem Rdr.ents_bs : ∀ (n : Nat) (r : Rdr), (Rdr.ents n r).2.bs = r.bs
  | 0, r => rfl
  | n + 1, r => by
    unfold Rdr.ents
    split
    · rfl
    · show (Rdr.ents n r.int.2.bytes.2).2.bs = r.bs
      rw [Rdr.ents_bs n, Rdr.bytes_bs, Rdr.int_bs]
theorem Rdr.ents_succ {n : Nat} {r : Rdr} (h : r.why = 0) : Rdr.ents (n + 1) r = ((r.int.1, r.int.2.bytes.1) :: (Rdr.ents n r.int.2.bytes.2).1, (Rdr.ents n r.int.2.bytes.2).2) := by
  conv => lhs; unfold Rdr.ents
  rw [if_neg (by omega)]
theorem Rdr.ents_next {N i : Nat} {R R0 : Rdr} {l : List (Int × List UInt8)} (hE : l ++ (Rdr.ents (N - i) R).1 = (Rdr.ents N R0).1) (hF : (Rdr.ents (N - i) R).2 = (Rdr.ents N R0).2) (hi : i < N) (hw : R.why = 0) :
    (l ++ [(R.int.1, R.int.2.bytes.1)]) ++ (Rdr.ents (N - (i + 1)) R.int.2.bytes.2).1 = (Rdr.ents N R0).1 ∧ (Rdr.ents (N - (i + 1)) R.int.2.bytes.2).2 = (Rdr.ents N R0).2 := by
  have e : N - i = (N - (i + 1)) + 1 := by omega
  rw [e, Rdr.ents_succ hw] at hE hF
  refine ⟨?_, hF⟩
  rw [← hE, List.append_assoc]
  rfl
theorem Rdr.ents_done {N i : Nat} {R R0 : Rdr} {l : List (Int × List UInt8)} (hE : l ++ (Rdr.ents (N - i) R).1 = (Rdr.ents N R0).1) (hF : (Rdr.ents (N - i) R).2 = (Rdr.ents N R0).2) (hi : ¬ i < N ∨ R.why ≠ 0) : (Rdr.ents N R0).1 = l ∧ (Rdr.ents N R0).2 = R := by
  have h : Rdr.ents (N - i) R = ([], R) := by
    rcases hi with hi | hi
    · rw [show N - i = 0 from by omega]; rfl
    · cases hN : N - i with
      | zero => rfl
      | succ k => unfold Rdr.ents; rw [if_pos hi]
  rw [h] at hE hF
  exact ⟨by rw [← hE]; exact List.append_nil l, hF.symm⟩

/-! ### entries whose bytes are one's own -/
/-- The entries' bytes are one's own, each in a block from base on, and not the block of v. -/
def EntsMine (e : Nat) (w : World) (base : Nat) (v : Value) (l : List EntP) : Prop := ∀ x ∈ l, OwnB w base e (.slice x.A x.cmd.length x.c) x.cmd ∧ ∀ g o s, x.A = some ⟨g, o, s⟩ → base ≤ g ∧ g < w.heap.size ∧ v.ownBlock ≠ some g
theorem EntsMine.ins {e : Nat} {w : World} {base : Nat} {v : Value} {l : List EntP} (h : EntsMine e w base v l) : EntsIn w l := fun x hx => OwnB.rd (h x hx).1
theorem EntsMine.keep {e : Nat} {S : Nat → Prop} {w w' : World} {base : Nat} {v : Value} {l : List EntP} (h : EntsMine e w base v l) (K : Keeps S w w') (hS : ∀ i, base ≤ i → v.ownBlock ≠ some i → ¬ S i) : EntsMine e w' base v l := by
  intro x hx
  obtain ⟨h1, h2⟩ := h x hx
  refine ⟨own_keep h1 K fun b hb => ?_, fun g o s hg => ?_⟩
  · cases hA : x.A with
    | none => rw [hA] at hb; cases hb
    | some a =>
      rw [hA] at hb
      simp only [Value.ownBlock, Option.some.injEq] at hb
      obtain ⟨q1, _, q3⟩ := h2 a.block a.off a.spot hA
      exact hS b (by omega) (hb ▸ q3)
  · obtain ⟨q1, q2, q3⟩ := h2 g o s hg
    exact ⟨q1, Nat.lt_of_lt_of_le q2 K.size, q3⟩
theorem EntsMine.grow {e : Nat} {w : World} {base m : Nat} {v v' : Value} {l : List EntP} (h : EntsMine e w base v l) (hg : ∀ i, v'.ownBlock = some i → v.ownBlock = some i ∨ m ≤ i) (hm : ∀ x ∈ l, ∀ g o s, x.A = some ⟨g, o, s⟩ → g < m) : EntsMine e w base v' l := by
  intro x hx
  obtain ⟨h1, h2⟩ := h x hx
  refine ⟨h1, fun g o s hA => ?_⟩
  obtain ⟨q1, q2, q3⟩ := h2 g o s hA
  refine ⟨q1, q2, fun hv => ?_⟩
  rcases hg g hv with h | h
  · exact q3 h
  · have := hm x hx g o s hA; omega
theorem EntsMine.lt {e : Nat} {w : World} {base : Nat} {v : Value} {l : List EntP} (h : EntsMine e w base v l) : ∀ x ∈ l, ∀ g o s, x.A = some ⟨g, o, s⟩ → g < w.heap.size := fun x hx g o s hA => ((h x hx).2 g o s hA).2.1
theorem EntsMine.snoc {e : Nat} {w : World} {base : Nat} {v : Value} {l : List EntP} {x : EntP} (h : EntsMine e w base v l) (hx : OwnB w base e (.slice x.A x.cmd.length x.c) x.cmd) (ha : ∀ g o s, x.A = some ⟨g, o, s⟩ → base ≤ g ∧ g < w.heap.size ∧ v.ownBlock ≠ some g) : EntsMine e w base v (l ++ [x]) := by
  intro y hy
  rcases List.mem_append.1 hy with hy | hy
  · exact h y hy
  · rw [List.mem_singleton] at hy; subst hy; exact ⟨hx, ha⟩
end Go.Q
namespace Go.Q
open Go.RowKit
section
variable {P : Program} {n : Nat} {os : Array Oper} {K : Loc → World → Prop} {L L1 La : Loc} {L2 L3 Rl : Nat → Loc} {w : World} {i j : Nat} {di dj : Option Tmp} {S : World → Prop} {fuel : Nat} {is : List Nat}
/-- A call that changes one block and a new block are ready, in either order; 'todo' is what can be taken behind the call. -/
theorem Dr.call_new {f : Nat} {args : Array Value} {val : Value} {rb : Nat} {old new o : Obj} {V : Nat → Value} {l : List Nat} (todo : List Nat)
    (hr : Region.ready .any os (marks os.size is) = l) (hl2 : l = [i, j] ∨ l = [j, i]) (hc0 : call? P os L i = some (f, args)) (hdi : dst? os i = some di) (hsi0 : setL n di val L = some L1)
    (hA : (match Q.takes P n os todo (i :: is) L1 with | some Lx => restrict Lx (La.map Prod.fst) | none => none) = some La) (hrA : Region.ready .any os (marks os.size (todo.reverse ++ (i :: is))) = [j])
    (hnA : newAt? P os La j = some (o, fun b => some (V b))) (hdj : dst? os j = some dj) (hsA : ∀ b, (match setL n dj (V b) La with | some Lx => restrict Lx ((Rl b).map Prod.fst) | none => none) = some (Rl b))
    (hn0 : newAt? P os L j = some (o, fun b => some (V b))) (hsj0 : ∀ b, setL n dj (V b) L = some (L2 b)) (hji : Region.ready .any os (marks os.size (j :: is)) = [i]) (hc2 : ∀ b, call? P os (L2 b) i = some (f, args)) (hsi2 : ∀ b, setL n di val (L2 b) = some (L3 b))
    (hB : ∀ b, (match Q.takes P n os todo (i :: j :: is) (L3 b) with | some Lx => restrict Lx ((Rl b).map Prod.fst) | none => none) = some (Rl b)) (hmB : marks os.size (todo.reverse ++ (i :: j :: is)) = marks os.size (j :: (todo.reverse ++ (i :: is))))
    (hrb : Has w rb old) (C : ∀ w1, Keeps none_ w w1 → Calls P f args w1 (fun e w' => e = .returned val ∧ Keeps (fun i => i = rb) w1 w' ∧ Has w' rb new))
    (hS : ∀ w1, Keeps (fun i => i = rb) w w1 → S w1)
    (h : ∀ b w2, Keeps (fun i => i = rb) w w2 → Has w2 rb new → Has w2 b o → w.heap.size ≤ b → Dr P n os S fuel (j :: (todo.reverse ++ (i :: is))) K (Rl b) w2) : Dr P n os S (fuel + 1 + todo.length + 1) is K L w := by
  have none_rb : ∀ {a b : World}, Keeps none_ a b → Keeps (fun i => i = rb) a b := fun k => k.mono fun _ _ h => h.elim
  intro hS0 act ha
  refine wpAnyH_all hr (by rcases hl2 with rfl | rfl <;> simp) fun q hq => ?_
  have hq : q = i ∨ q = j := by rcases hl2 with rfl | rfl <;> simp at hq <;> omega
  rcases hq with rfl | rfl
  · refine Dr.callStep hc0 hdi (C w (Keeps.refl w)) (fun e w' he => ?_) ha
    obtain ⟨rfl, k, h2⟩ := he
    refine ⟨val, L1, rfl, hsi0, hS _ k, ?_⟩
    refine Dr.takes (fuel' := fuel + 1) todo La (by rw [Nat.beq_refl]) rfl hA ?_
    obtain ⟨g1, g2⟩ := Runs.new (w := w') hnA
    cases hx : setL n dj (V w'.heap.size) La with
    | none => have := hsA w'.heap.size; rw [hx] at this; cases this
    | some Lx =>
      have hs := hsA w'.heap.size
      rw [hx] at hs
      have kk := k.trans (Keeps.alloc w' o) (U := fun i => i = rb) (fun _ _ h => h) (fun _ _ h => h.elim)
      exact Dr.go hrA g1 g2 hdj hx (hS _ kk) (Dr.keep hs (h _ _ kk (h2.keep (Keeps.alloc w' o) fun h => h) (Has.new w' o) k.size))
  · obtain ⟨g1, g2⟩ := Runs.new (w := w) hn0
    have ka := Keeps.alloc w o
    refine Dr.opStep g1 g2 hdj (hsj0 _) (hS _ (none_rb ka)) ?_ ha
    have hlt := hrb.lt
    have hfu : fuel + 1 + todo.length = (fuel + todo.length) + 1 := by omega
    rw [hfu]
    refine Dr.call hji (hc2 _) hdi (fun _ => C _ ka) fun e w' he => ?_
    obtain ⟨rfl, k, h2⟩ := he
    have kk := ka.trans k (U := fun i => i = rb) (fun _ _ h => h.elim) (fun _ _ h => h)
    refine ⟨val, L3 w.heap.size, rfl, hsi2 _, hS _ kk, ?_⟩
    refine Dr.takes (fuel' := fuel) todo (Rl w.heap.size) (by rw [Nat.beq_refl]) rfl (hB _) ?_
    exact Dr.swap hmB.symm (h _ _ kk h2 ((Has.new w o).keep k fun hh => by have hh : w.heap.size = rb := hh; omega) (Nat.le_refl _))
end
end Go.Q
namespace Go.Q
theorem EntsMine.keep2 {e : Nat} {S : Nat → Prop} {w w' : World} {base : Nat} {v : Value} {l : List EntP} (h : EntsMine e w base v l) (K : Keeps S w w') (hS : ∀ x ∈ l, ∀ g o s, x.A = some ⟨g, o, s⟩ → ¬ S g) : EntsMine e w' base v l := by
  intro x hx
  obtain ⟨h1, h2⟩ := h x hx
  refine ⟨own_keep h1 K fun b hb => ?_, fun g o s hg => ?_⟩
  · cases hA : x.A with
    | none => rw [hA] at hb; cases hb
    | some a =>
      rw [hA] at hb
      simp only [Value.ownBlock, Option.some.injEq] at hb
      exact hb ▸ hS x hx a.block a.off a.spot hA
  · obtain ⟨q1, q2, q3⟩ := h2 g o s hg
    exact ⟨q1, Nat.lt_of_lt_of_le q2 K.size, q3⟩
theorem EntsMine.ne {e : Nat} {w : World} {base c : Nat} {v : Value} {l : List EntP} (h : EntsMine e w base v l) (hc : c < base) : ∀ x ∈ l, ∀ g o s, x.A = some ⟨g, o, s⟩ → g ≠ c := fun x hx g o s hA => by
  have := ((h x hx).2 g o s hA).1; omega
theorem EntsMine.new {e : Nat} {w : World} {base c : Nat} {v : Value} {l : List EntP} (h : EntsMine e w base v l) (hc : w.heap.size ≤ c) : ∀ x ∈ l, ∀ g o s, x.A = some ⟨g, o, s⟩ → g ≠ c := fun x hx g o s hA => by
  have := ((h x hx).2 g o s hA).2.1; omega
theorem EntsMine.own {e : Nat} {w : World} {base : Nat} {v : Value} {l : List EntP} (h : EntsMine e w base v l) : ∀ x ∈ l, ∀ g o s, x.A = some ⟨g, o, s⟩ → v.ownBlock ≠ some g := fun x hx g o s hA => ((h x hx).2 g o s hA).2.2
theorem EntsMine.nil {e : Nat} (w : World) (base : Nat) (v : Value) : EntsMine e w base v [] := fun x hx => by cases hx
/-- One entry more: its bytes are an own row, and the row of entries has grown. -/
theorem EntsMine.add {w' : World} {base e m : Nat} {v v' : Value} {l : List EntP} {x : EntP} (h : EntsMine e w' base v l) (hx : OwnB w' base e (.slice x.A x.cmd.length x.c) x.cmd) (hl : ∀ y ∈ l ++ [x], ∀ g o s, y.A = some ⟨g, o, s⟩ → g < m)
    (hg : ∀ i, v'.ownBlock = some i → v.ownBlock = some i ∨ m ≤ i) (hv : ∀ g o s, x.A = some ⟨g, o, s⟩ → v.ownBlock ≠ some g) : EntsMine e w' base v' (l ++ [x]) := by
  have h1 : EntsMine e w' base v (l ++ [x]) := h.snoc hx fun g o s hA => by
    have hlt := World.ownsRow.lt hx g (by rw [hA]; rfl)
    exact ⟨hlt.1, hlt.2, hv g o s hA⟩
  exact h1.grow hg hl
end Go.Q
namespace Go.Q
theorem EntsMine.lt_add {w : World} {base base2 e : Nat} {v : Value} {l : List EntP} {x : EntP} (h : EntsMine e w base v l) (hx : OwnB w base2 e (.slice x.A x.cmd.length x.c) x.cmd) : ∀ y ∈ l ++ [x], ∀ g o s, y.A = some ⟨g, o, s⟩ → g < w.heap.size := by
  intro y hy g o s hA
  rcases List.mem_append.1 hy with hy | hy
  · exact ((h y hy).2 g o s hA).2.1
  · rw [List.mem_singleton] at hy; subst hy
    exact (World.ownsRow.lt hx g (by rw [hA]; rfl)).2
theorem ne_add {c : Nat} {l : List EntP} {x : EntP} (h : ∀ y ∈ l, ∀ g o s, y.A = some ⟨g, o, s⟩ → g ≠ c) (hx : ∀ i, (Value.slice x.A x.cmd.length x.c).ownBlock = some i → i ≠ c) : ∀ y ∈ l ++ [x], ∀ g o s, y.A = some ⟨g, o, s⟩ → g ≠ c := by
  intro y hy g o s hA
  rcases List.mem_append.1 hy with hy | hy
  · exact h y hy g o s hA
  · rw [List.mem_singleton] at hy; subst hy
    exact hx g (by rw [hA]; rfl)
theorem EntsOk.add {l : List EntP} {x : EntP} (h : EntsOk l) (hx : -9223372036854775808 ≤ x.term ∧ x.term ≤ 9223372036854775807) : EntsOk (l ++ [x]) := by
  intro y hy
  rcases List.mem_append.1 hy with hy | hy
  · exact h y hy
  · rw [List.mem_singleton] at hy; subst hy; exact hx
end Go.Q
