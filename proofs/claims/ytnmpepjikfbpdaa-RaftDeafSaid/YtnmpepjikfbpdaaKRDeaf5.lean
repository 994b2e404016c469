/- What the claim stands on, part 5: rules of the walk, contracts of the functions, plain laws. -/
import Derived.Test.YtnmpepjikfbpdaaKRDeaf4
import Derived.ChangeMaps5
import Derived.Test.YtnmpepjikfbpdaaKRDeaf1
import Derived.Test.YtnmpepjikfbpdaaProg
set_option linter.unusedVariables false
namespace Go.Q
open Go.ChangeShapes Go.WideShapes Go.ChangeAt Go.RowKit Go.Deep

def fieldOf? (P : Program) (fs : Array Field) (j : Nat) : Option TypeDesc := match fs[j]? with
  | some f => P.underlying f.type
  | none => none

section
variable {H : Type} {enc : TypeId × Value → H} {P : Program} {w : World} {base : Nat} {spare : Nat → Bool} {held : Bool}

theorem slice_trod {t e : TypeId} {v : Value} {fuel : Nat} {z : DataW H × List MemPlace} (ht : P.underlying t = some (.slice e)) (h : DataW.trod enc P w base spare held fuel t [v] = some z) : ∃ A n c, v = .slice A n c := by
  rcases open_slice ht h with ⟨hcs, _⟩ | ⟨a, len, cap', m, k, D, Pl, hcs, _⟩
  · simp only [List.cons.injEq, and_true] at hcs
    exact ⟨_, _, _, hcs⟩
  · simp only [List.cons.injEq, and_true] at hcs
    exact ⟨_, _, _, hcs⟩
theorem struct_cells {e : TypeId} {fs : Array Field} {v : Value} {d : DataW H} {ps : List MemPlace} (he : P.underlying e = some (.struct fs)) (hC : P.cellsOf e = fs.size) (hv : Value.okWide P w .any 0 e v) (h : DataW.Trod enc P w base spare held e v d ps) :
    ∃ cs m, v = agg cs ∧ cs.length = fs.size ∧ DataW.trod enc P w base spare held m e cs = some (d, ps) := by
  obtain ⟨cs, rfl, hs⟩ := okWide_struct he hv
  obtain ⟨m, hm⟩ := h
  exact ⟨cs.toList, m, rfl, by rw [Array.length_toList, hs, hC], hm⟩

theorem flat_models {α : Type} {f : α → List Value} {Good : α → Prop} : ∀ {css : List (List Value)}, (∀ cs ∈ css, ∃ x : α, Good x ∧ cs = f x) → ∃ l : List α, css.flatten = l.flatMap f ∧ l.length = css.length ∧ ∀ x ∈ l, Good x
  | [], _ => ⟨[], rfl, rfl, by simp⟩
  | cs :: css, h => by
    obtain ⟨x, hx, rfl⟩ := h cs (by simp)
    obtain ⟨l, hb, hl, hr⟩ := flat_models (css := css) fun c hc => h c (by simp [hc])
    refine ⟨x :: l, by rw [List.flatten_cons, hb, List.flatMap_cons], by simp [hl], fun y hy => ?_⟩
    rcases List.mem_cons.1 hy with rfl | hy
    · exact hx
    · exact hr y hy
def RowM.Ok (x : RowM) : Prop := -9223372036854775808 ≤ x.amount ∧ x.amount ≤ 9223372036854775807
end
end Go.Q
namespace Go.Q
open Go.ChangeShapes Go.WideShapes Go.ChangeAt Go.RowKit Go.Deep

/-- An entry: what is in it, and where its bytes stand. -/
structure EntP where
  term : Int
  A : Option Addr
  c : Nat
  cmd : List UInt8
def EntP.cells (x : EntP) : List Value := [i64 x.term, .slice x.A x.cmd.length x.c]
def EntP.key (x : EntP) : Int × List UInt8 := (x.term, x.cmd)
theorem EntP.two (x : EntP) : x.cells.length = 2 := rfl
theorem EntP.one (x : EntP) : oneCells x.cells = true := rfl
abbrev RdE (w : World) (v : Value) (l : List EntP) : Prop := RdT w 2 EntP.cells v l
abbrev OwnE (w : World) (base e : Nat) (v : Value) (l : List EntP) : Prop := OwnT w base e 2 EntP.cells v l
def EntsIn (w : World) (l : List EntP) : Prop := ∀ x ∈ l, RdB w (.slice x.A x.cmd.length x.c) x.cmd
def EntsOk (l : List EntP) : Prop := ∀ x ∈ l, -9223372036854775808 ≤ x.term ∧ x.term ≤ 9223372036854775807
structure MsgP where
  kind : Int
  group : Int
  frm : Int
  to : Int
  term : Int
  index : Int
  logTerm : Int
  commit : Int
  ok : Bool
  entries : List EntP
  data : List UInt8
def MsgP.ints (m : MsgP) : List Int := [m.kind, m.group, m.frm, m.to, m.term, m.index, m.logTerm, m.commit]
structure MsgP.Ok (m : MsgP) : Prop where
  kind : -9223372036854775808 ≤ m.kind ∧ m.kind ≤ 9223372036854775807
  group : -9223372036854775808 ≤ m.group ∧ m.group ≤ 9223372036854775807
  frm : -9223372036854775808 ≤ m.frm ∧ m.frm ≤ 9223372036854775807
  to : -9223372036854775808 ≤ m.to ∧ m.to ≤ 9223372036854775807
  term : -9223372036854775808 ≤ m.term ∧ m.term ≤ 9223372036854775807
  index : -9223372036854775808 ≤ m.index ∧ m.index ≤ 9223372036854775807
  logTerm : -9223372036854775808 ≤ m.logTerm ∧ m.logTerm ≤ 9223372036854775807
  commit : -9223372036854775808 ≤ m.commit ∧ m.commit ≤ 9223372036854775807
  ents : EntsOk m.entries
def entsv : List EntP → List UInt8
  | [] => []
  | x :: l => iv x.term ++ (tv x.cmd ++ entsv l)
def headv (m : MsgP) : List UInt8 := iv m.kind ++ (iv m.group ++ (iv m.frm ++ (iv m.to ++ (iv m.term ++ (iv m.index ++ (iv m.logTerm ++ (iv m.commit ++ uv m.ok.toNat)))))))
def msgv (m : MsgP) : List UInt8 := headv m ++ (uv m.entries.length ++ (entsv m.entries ++ tv m.data))
def sumc : List EntP → Nat
  | [] => 0
  | x :: l => x.cmd.length + sumc l
structure MsgP.Fits (m : MsgP) : Prop where
  count : m.entries.length ≤ 4096
  data : m.data.length ≤ 65536
  cmds : ∀ x ∈ m.entries, x.cmd.length ≤ 65536
  size : (msgv m).length ≤ 1048576

theorem sumc_append : ∀ (l m : List EntP), sumc (l ++ m) = sumc l + sumc m
  | [], m => by simp [sumc]
  | x :: l, m => by simp only [List.cons_append, sumc, sumc_append l m]; omega
theorem sumc_take_le (l : List EntP) (i : Nat) : sumc (l.take i) ≤ sumc l := by
  have := sumc_append (l.take i) (l.drop i)
  rw [List.take_append_drop] at this
  omega
theorem entsv_sum : ∀ (l : List EntP), sumc l ≤ (entsv l).length
  | [] => Nat.le_refl _
  | x :: l => by
    have h1 := entsv_sum l
    have h2 := tv_ge x.cmd
    simp only [entsv, sumc, List.length_append]
    omega
theorem msgv_len (m : MsgP) : (msgv m).length = (headv m).length + (uv m.entries.length).length + (entsv m.entries).length + (tv m.data).length := by
  unfold msgv
  simp only [List.length_append]
  omega
/-- What the reference asks ahead of writing: all up to i is short enough. -/
def MsgP.Pre (m : MsgP) (i : Nat) : Prop := m.entries.length ≤ 4096 ∧ m.data.length ≤ 65536 ∧ (∀ x ∈ m.entries.take i, x.cmd.length ≤ 65536) ∧ (i = 0 ∨ m.data.length + sumc (m.entries.take i) ≤ 1048576)
theorem MsgP.Fits.pre {m : MsgP} (h : m.Fits) (i : Nat) : m.Pre i := by
  refine ⟨h.count, h.data, fun x hx => h.cmds x (List.mem_of_mem_take hx), .inr ?_⟩
  have h1 := h.size
  rw [msgv_len] at h1
  have h2 := entsv_sum m.entries
  have h3 := sumc_take_le m.entries i
  have h4 := tv_ge m.data
  omega
section
variable {H : Type} {enc : TypeId × Value → H} {P : Program} {w : World} {base : Nat} {spare : Nat → Bool} {held : Bool}
end
end Go.Q
namespace Go.Q
theorem EntsIn.keep {w w' : World} {l : List EntP} (h : EntsIn w l) (K : Keeps none_ w w') : EntsIn w' l := fun x hx => (h x hx).keep0 (by omega) K
end Go.Q
namespace Go.Q
end Go.Q
namespace Go.Q
end Go.Q
namespace Go.Q
open Go.ChangeShapes Go.WideShapes Go.ChangeAt Go.RowKit Go.Deep

/-- A measure of what is read: at least its letters, its elements, its parts. -/
structure Bulk {H : Type} (B : DataW H → Nat) : Prop where
  str : ∀ s, s.length ≤ B (.lit (.string s))
  agg : ∀ ps z, z ∈ ps → B z ≤ B (.agg ps)
  el : ∀ es sp z, z ∈ es → B z ≤ B (.slice es sp)
  len : ∀ es sp, es.length ≤ B (.slice es sp)

section
variable {H : Type} {enc : TypeId × Value → H} {P : Program} {w : World} {base : Nat} {spare : Nat → Bool} {held : Bool} {B : DataW H → Nat}

def i64s (P : Program) (fs : Array Field) : Nat → Bool
  | 0 => true
  | j + 1 => (match fieldOf? P fs j with | some (.int .i64) => true | _ => false) && i64s P fs j
end
end Go.Q
namespace Go.Q
open Go.RowKit

structure MsgP.Same (a b : MsgP) : Prop where
  kind : a.kind = b.kind
  group : a.group = b.group
  frm : a.frm = b.frm
  to : a.to = b.to
  term : a.term = b.term
  index : a.index = b.index
  logTerm : a.logTerm = b.logTerm
  commit : a.commit = b.commit
  ok : a.ok = b.ok
  ents : a.entries.map EntP.key = b.entries.map EntP.key
  data : a.data = b.data
end Go.Q
namespace Go.Q
open Go.RowKit

def Rdr.nth : Nat → Rdr → Rdr
  | 0, r => r
  | n + 1, r => (Rdr.nth n r).int.2
def Rdr.ents : Nat → Rdr → List (Int × List UInt8) × Rdr
  | 0, r => ([], r)
  | n + 1, r => if r.why ≠ 0 then ([], r) else ((r.int.1, r.int.2.bytes.1) :: (Rdr.ents n r.int.2.bytes.2).1, (Rdr.ents n r.int.2.bytes.2).2)
/-- A message without its places. -/
structure MsgC where
  ints : List Int
  ok : Bool
  ents : List (Int × List UInt8)
  data : List UInt8
def MsgP.core (m : MsgP) : MsgC := ⟨m.ints, m.ok, m.entries.map EntP.key, m.data⟩
def MsgC.zero : MsgC := ⟨[0, 0, 0, 0, 0, 0, 0, 0], false, [], []⟩
/-- What stands behind the head, read. -/
def Rdr.mok (r : Rdr) : Bool × Rdr := (Rdr.nth 8 r).bool_
def Rdr.mcnt (r : Rdr) : Nat × Rdr := r.mok.2.sized 4096
def Rdr.ments (r : Rdr) : List (Int × List UInt8) × Rdr := Rdr.ents r.mcnt.1 r.mcnt.2
def Rdr.mdata (r : Rdr) : List UInt8 × Rdr := r.ments.2.bytes
def Rdr.mint (r : Rdr) (i : Nat) : Int := (Rdr.nth i r).int.1
def Rdr.mints (r : Rdr) : List Int := [r.mint 0, r.mint 1, r.mint 2, r.mint 3, r.mint 4, r.mint 5, r.mint 6, r.mint 7]
def Rdr.mfit (r : Rdr) : Prop := (1 ≤ r.mint 0 ∧ r.mint 0 ≤ 6) ∧ (0 ≤ r.mint 1 ∧ r.mint 1 ≤ 3) ∧ (0 ≤ r.mint 2 ∧ r.mint 2 ≤ 4) ∧ (0 ≤ r.mint 3 ∧ r.mint 3 ≤ 4)
instance (r : Rdr) : Decidable r.mfit := by unfold Rdr.mfit; infer_instance
/-- What bytes are as a message, and the error. -/
def unmsgB (bs : List UInt8) : MsgC × Int :=
  if 1048576 < bs.length then (MsgC.zero, 3)
  else if (⟨bs, 0, 0⟩ : Rdr).mdata.2.end_ ≠ 0 then (MsgC.zero, (⟨bs, 0, 0⟩ : Rdr).mdata.2.end_)
  else if (⟨bs, 0, 0⟩ : Rdr).mfit then (⟨(⟨bs, 0, 0⟩ : Rdr).mints, (⟨bs, 0, 0⟩ : Rdr).mok.1, (⟨bs, 0, 0⟩ : Rdr).ments.1, (⟨bs, 0, 0⟩ : Rdr).mdata.1⟩, 0)
  else (MsgC.zero, 1)
/-! ### entries whose bytes are one's own -/
/-- The entries' bytes are one's own, each in a block from base on, and not the block of v. -/
def EntsMine (e : Nat) (w : World) (base : Nat) (v : Value) (l : List EntP) : Prop := ∀ x ∈ l, OwnB w base e (.slice x.A x.cmd.length x.c) x.cmd ∧ ∀ g o s, x.A = some ⟨g, o, s⟩ → base ≤ g ∧ g < w.heap.size ∧ v.ownBlock ≠ some g
theorem EntsMine.ins {e : Nat} {w : World} {base : Nat} {v : Value} {l : List EntP} (h : EntsMine e w base v l) : EntsIn w l := fun x hx => OwnB.rd (h x hx).1
theorem EntsMine.keep {e : Nat} {S : Nat → Prop} {w w' : World} {base : Nat} {v : Value} {l : List EntP} (h : EntsMine e w base v l) (K : Keeps S w w') (hS : ∀ i, base ≤ i → v.ownBlock ≠ some i → ¬ S i) : EntsMine e w' base v l := by
  intro x hx
  obtain ⟨h1, h2⟩ := h x hx
  refine ⟨own_keep h1 K fun b hb => ?_, fun g o s hg => ?_⟩
  · cases hA : x.A with
    | none => rw [hA] at hb; cases hb
    | some a =>
      rw [hA] at hb
      simp only [Value.ownBlock, Option.some.injEq] at hb
      obtain ⟨q1, _, q3⟩ := h2 a.block a.off a.spot hA
      exact hS b (by omega) (hb ▸ q3)
  · obtain ⟨q1, q2, q3⟩ := h2 g o s hg
    exact ⟨q1, Nat.lt_of_lt_of_le q2 K.size, q3⟩
theorem EntsMine.grow {e : Nat} {w : World} {base m : Nat} {v v' : Value} {l : List EntP} (h : EntsMine e w base v l) (hg : ∀ i, v'.ownBlock = some i → v.ownBlock = some i ∨ m ≤ i) (hm : ∀ x ∈ l, ∀ g o s, x.A = some ⟨g, o, s⟩ → g < m) : EntsMine e w base v' l := by
  intro x hx
  obtain ⟨h1, h2⟩ := h x hx
  refine ⟨h1, fun g o s hA => ?_⟩
  obtain ⟨q1, q2, q3⟩ := h2 g o s hA
  refine ⟨q1, q2, fun hv => ?_⟩
  rcases hg g hv with h | h
  · exact q3 h
  · have := hm x hx g o s hA; omega
theorem EntsMine.lt {e : Nat} {w : World} {base : Nat} {v : Value} {l : List EntP} (h : EntsMine e w base v l) : ∀ x ∈ l, ∀ g o s, x.A = some ⟨g, o, s⟩ → g < w.heap.size := fun x hx g o s hA => ((h x hx).2 g o s hA).2.1
theorem EntsMine.snoc {e : Nat} {w : World} {base : Nat} {v : Value} {l : List EntP} {x : EntP} (h : EntsMine e w base v l) (hx : OwnB w base e (.slice x.A x.cmd.length x.c) x.cmd) (ha : ∀ g o s, x.A = some ⟨g, o, s⟩ → base ≤ g ∧ g < w.heap.size ∧ v.ownBlock ≠ some g) : EntsMine e w base v (l ++ [x]) := by
  intro y hy
  rcases List.mem_append.1 hy with hy | hy
  · exact h y hy
  · rw [List.mem_singleton] at hy; subst hy; exact ⟨hx, ha⟩
end Go.Q
namespace Go.Q
open Go.RowKit
section
variable {P : Program} {n : Nat} {os : Array Oper} {K : Loc → World → Prop} {L L1 La : Loc} {L2 L3 Rl : Nat → Loc} {w : World} {i j : Nat} {di dj : Option Tmp} {S : World → Prop} {fuel : Nat} {is : List Nat}
end
end Go.Q
namespace Go.Q
theorem EntsMine.new {e : Nat} {w : World} {base c : Nat} {v : Value} {l : List EntP} (h : EntsMine e w base v l) (hc : w.heap.size ≤ c) : ∀ x ∈ l, ∀ g o s, x.A = some ⟨g, o, s⟩ → g ≠ c := fun x hx g o s hA => by
  have := ((h x hx).2 g o s hA).2.1; omega
theorem EntsMine.own {e : Nat} {w : World} {base : Nat} {v : Value} {l : List EntP} (h : EntsMine e w base v l) : ∀ x ∈ l, ∀ g o s, x.A = some ⟨g, o, s⟩ → v.ownBlock ≠ some g := fun x hx g o s hA => ((h x hx).2 g o s hA).2.2
theorem EntsMine.nil {e : Nat} (w : World) (base : Nat) (v : Value) : EntsMine e w base v [] := fun x hx => by cases hx
/-- One entry more: its bytes are an own row, and the row of entries has grown. -/
theorem EntsMine.add {w' : World} {base e m : Nat} {v v' : Value} {l : List EntP} {x : EntP} (h : EntsMine e w' base v l) (hx : OwnB w' base e (.slice x.A x.cmd.length x.c) x.cmd) (hl : ∀ y ∈ l ++ [x], ∀ g o s, y.A = some ⟨g, o, s⟩ → g < m)
    (hg : ∀ i, v'.ownBlock = some i → v.ownBlock = some i ∨ m ≤ i) (hv : ∀ g o s, x.A = some ⟨g, o, s⟩ → v.ownBlock ≠ some g) : EntsMine e w' base v' (l ++ [x]) := by
  have h1 : EntsMine e w' base v (l ++ [x]) := h.snoc hx fun g o s hA => by
    have hlt := World.ownsRow.lt hx g (by rw [hA]; rfl)
    exact ⟨hlt.1, hlt.2, hv g o s hA⟩
  exact h1.grow hg hl
end Go.Q
namespace Go.Q
theorem EntsOk.add {l : List EntP} {x : EntP} (h : EntsOk l) (hx : -9223372036854775808 ≤ x.term ∧ x.term ≤ 9223372036854775807) : EntsOk (l ++ [x]) := by
  intro y hy
  rcases List.mem_append.1 hy with hy | hy
  · exact h y hy
  · rw [List.mem_singleton] at hy; subst hy; exact hx
end Go.Q
namespace Go.Q
variable {P : Program} {n : Nat} {Q : Exit → Loc → World → Prop} {L : Loc} {w : World} {f : Func} {p : List Nat} {os : Array Oper} {i : Nat} {K : Loc → World → Prop}
theorem qs (h : wp P n (cd f (0 :: p)) (thn (wp P n (cd f (1 :: p)) Q) Q) L w) (hc : isSeq (cd f p) = true := by kernel_rfl) : wp P n (cd f p) Q L w := q_seq hc h
theorem qg (h : Ops P n (opsOf (cd f p)) 0 (Q .normal) L w) (hc : isRegion (cd f p) = true := by kernel_rfl) : wp P n (cd f p) Q L w := q_region hc h
theorem od (h : K L w) (hi : Nat.beq os.size i = true := by kernel_rfl) : Ops P n os i K L w := Ops.done hi h
theorem og (k : Nat) (R : Loc) (j : Nat) (hn : Ops P n os j K R w) (hj : Nat.beq (i + k) j = true := by kernel_rfl) (h : (match Go.Q.regs P n os k i L with | some L1 => restrict L1 (R.map Prod.fst) | none => none) = some R := by kernel_rfl) : Ops P n os i K L w := Ops.regs k R hj h hn
theorem Keeps.t0 {a b c : World} (h : Keeps none_ a b) (k : Keeps none_ b c) : Keeps none_ a c := h.trans k (fun _ _ h => h) (fun _ _ h => h)
theorem Has.k1 {a b : World} {x c : Nat} {o : Obj} (h : Has a x o) (k : Keeps (fun i => i = c) a b) (hn : x ≠ c) : Has b x o := h.keep k hn
theorem Keeps.t1 {U : Nat → Prop} {a b c : World} {x : Nat} (h : Keeps U a b) (k : Keeps (fun i => i = x) b c) (hx : x < a.heap.size → U x) : Keeps U a c := h.trans k (fun _ _ h => h) (fun i hi h => by subst h; exact hx hi)
theorem Keeps.tn {U : Nat → Prop} {a b c : World} (h : Keeps U a b) (k : Keeps none_ b c) : Keeps U a c := h.trans k (fun _ _ h => h) (fun _ _ h => h.elim)
theorem retQ_mono {P : Program} {fn : Func} {R R' : Ending → World → Prop} (h : ∀ e w, R e w → R' e w) : ∀ e L w, retQ P fn R e L w → retQ P fn R' e L w := by
  intro e L w hq
  cases e with
  | normal => obtain ⟨v, h1, h2⟩ := hq; exact ⟨v, h1, h _ _ h2⟩
  | ret => obtain ⟨v, h1, h2⟩ := hq; exact ⟨v, h1, h _ _ h2⟩
  | _ => exact hq
/-- The rest of a function is walked elsewhere. -/
theorem q_tail {P : Program} {n : Nat} {c : Code} {fn : Func} {R R' : Ending → World → Prop} {L : Loc} {w : World} (h : wp P n c (retQ P fn R) L w) (hr : ∀ e w', R e w' → R' e w') : wp P n c (retQ P fn R') L w := q_mono h (retQ_mono hr)
end Go.Q
namespace Go.Q
open Go.RowKit

/-- The slice v reads as the entries l; what is read of them stands in blocks of T. -/
structure Ents (w : World) (T : Nat → Prop) (v : Value) (l : List EntP) : Prop where
  rd : RdE w v l
  ins : EntsIn w l
  own : l ≠ [] → ∀ i, v.ownBlock = some i → T i
  inn : ∀ x ∈ l, x.cmd ≠ [] → ∀ i, (Value.slice x.A x.cmd.length x.c).ownBlock = some i → T i
  lt : ∀ i, T i → i < w.heap.size
theorem Rd.keep_nil {w w' : World} {sz : Nat} {v : Value} {xs : List Value} (hsz : 0 < sz) (h : Rd w sz v xs) (h0 : xs = []) : Rd w' sz v xs := by
  obtain ⟨A, n, c, rfl, hl, hc, hm, hx⟩ := h
  subst h0
  have hn : n = 0 := by
    rcases Nat.mul_eq_zero.1 (show n * sz = 0 by simpa using hl.symm) with h | h
    · exact h
    · omega
  exact ⟨A, n, c, rfl, hl, hc, hm, fun h => by omega⟩
theorem Ents.keep {S T : Nat → Prop} {w w' : World} {v : Value} {l : List EntP} (h : Ents w T v l) (K : Keeps S w w') (hS : ∀ i, T i → ¬ S i) : Ents w' T v l where
  rd := by
    by_cases hl : l = []
    · exact Rd.keep_nil (by decide) h.rd (by rw [hl]; rfl)
    · exact Rd.keep (by decide) h.rd K fun b hb => hS b (h.own hl b hb)
  ins x hx := by
    by_cases hl : x.cmd = []
    · exact Rd.keep_nil (by decide) (h.ins x hx) (by rw [hl]; rfl)
    · exact Rd.keep (by decide) (h.ins x hx) K fun b hb => hS b (h.inn x hx hl b hb)
  own := h.own
  inn := h.inn
  lt i hi := Nat.lt_of_lt_of_le (h.lt i hi) K.size
theorem Ents.keep0 {T : Nat → Prop} {w w' : World} {v : Value} {l : List EntP} (h : Ents w T v l) (K : Keeps none_ w w') : Ents w' T v l := h.keep K fun _ _ h => h
theorem Ents.mono {T U : Nat → Prop} {w : World} {v : Value} {l : List EntP} (h : Ents w T v l) (hT : ∀ i, T i → U i) (hU : ∀ i, U i → i < w.heap.size) : Ents w U v l :=
  ⟨h.rd, h.ins, fun hl i hi => hT i (h.own hl i hi), fun x hx hc i hi => hT i (h.inn x hx hc i hi), hU⟩
theorem Ents.nil (w : World) : Ents w none_ (.slice none 0 0) [] := ⟨Rd.nil _ _, fun x hx => (by cases hx), fun h => absurd rfl h, fun x hx => (by cases hx), fun i hi => hi.elim⟩
/-- The block of what is read is one of the world's. -/
theorem Rd.lt {w : World} {sz : Nat} {v : Value} {xs : List Value} (h : Rd w sz v xs) (h0 : xs ≠ []) : ∀ i, v.ownBlock = some i → i < w.heap.size := by
  intro i hi
  obtain ⟨A, n, c, rfl, hl, hc, hm, hx⟩ := h
  have hn : 0 < n := by
    rcases Nat.eq_zero_or_pos n with h | h
    · subst h; exact absurd (List.eq_nil_of_length_eq_zero (by simpa using hl)) h0
    · exact h
  obtain ⟨b, off, rfl, hcell⟩ := hx hn
  have hi : b = i := by simpa [Value.ownBlock] using hi
  subst hi
  obtain ⟨u, hu⟩ : ∃ u, xs[0]? = some u := ⟨xs[0]'(List.length_pos_iff.2 h0), List.getElem?_eq_getElem _⟩
  exact World.block_lt_of_cell? w _ (hcell 0 u hu)
theorem ents_ne {l : List EntP} (h : l ≠ []) : l.flatMap EntP.cells ≠ [] := by
  cases l with
  | nil => exact absurd rfl h
  | cons x l => simp [EntP.cells]
/-- Entries that came in. -/
theorem Ents.given {w : World} {v : Value} {l : List EntP} (h : RdE w v l) (hi : EntsIn w l) : Ents w (fun i => i < w.heap.size) v l :=
  ⟨h, hi, fun hl i hb => Rd.lt h (ents_ne hl) i hb, fun x hx hc i hb => Rd.lt (hi x hx) (by intro q; exact hc (by simpa [bv] using q)) i hb, fun _ h => h⟩
theorem Ents.len {T : Nat → Prop} {w : World} {A : Option Addr} {n c : Nat} {l : List EntP} (h : Ents w T (.slice A n c) l) : l.length = n ∧ n ≤ c ∧ c ≤ maxLen := RdT.len EntP.two (by decide) h.rd
theorem Ents.form {T : Nat → Prop} {w : World} {v : Value} {l : List EntP} (h : Ents w T v l) : ∃ A c, v = .slice A l.length c := RdT.form EntP.two (by decide) h.rd
theorem flat_drop {α : Type} {f : α → List Value} {sz : Nat} (hf : ∀ x, (f x).length = sz) : ∀ (l : List α) (k : Nat), (l.flatMap f).drop (k * sz) = (l.drop k).flatMap f
  | l, 0 => by simp
  | [], k + 1 => by simp
  | x :: l, k + 1 => by
    rw [List.flatMap_cons, List.drop_succ_cons, Nat.add_mul, Nat.one_mul, Nat.add_comm, ← List.drop_drop, show sz = (f x).length from (hf x).symm, List.drop_left, hf x]
    exact flat_drop hf l k
theorem flat_take {α : Type} {f : α → List Value} {sz : Nat} (hf : ∀ x, (f x).length = sz) : ∀ (l : List α) (k : Nat), (l.flatMap f).take (k * sz) = (l.take k).flatMap f
  | l, 0 => by simp
  | [], k + 1 => by simp
  | x :: l, k + 1 => by
    rw [List.flatMap_cons, List.take_succ_cons, List.flatMap_cons, Nat.add_mul, Nat.one_mul, Nat.add_comm, show sz + k * sz = (f x).length + k * sz by rw [hf], List.take_append, List.take_of_length_le (by omega), Nat.add_sub_cancel_left]
    rw [flat_take hf l k]
theorem Ents.cut {T : Nat → Prop} {w : World} {A : Option Addr} {n c : Nat} {l : List EntP} (h : Ents w T (.slice A n c) l) (k e m : Nat) (h1 : k ≤ e) (h2 : e ≤ m) (h3 : m ≤ c) (h4 : e ≤ n) :
    Ents w T (.slice (if m = k then A else Option.map (fun q => Addr.add q (k * 2)) A) (e - k) (m - k)) ((l.drop k).take (e - k)) where
  rd := by
    have := Rd.cut h.rd k e m h1 h2 h3 h4
    rw [flat_drop EntP.two, flat_take EntP.two] at this
    exact this
  ins x hx := h.ins x (List.mem_of_mem_drop (List.mem_of_mem_take hx))
  own hl i hi := by
    have hl0 : l ≠ [] := fun q => by subst q; simp at hl
    cases A with
    | none => simp [Value.ownBlock] at hi
    | some a =>
      refine h.own hl0 i ?_
      split at hi
      · exact hi
      · have ha : (Addr.add a (k * 2)).block = a.block := by unfold Addr.add; split <;> rfl
        simpa [Value.ownBlock, ha] using hi
  inn x hx := h.inn x (List.mem_of_mem_drop (List.mem_of_mem_take hx))
  lt := h.lt
theorem Ents.head {T : Nat → Prop} {w : World} {A : Option Addr} {n c : Nat} {l : List EntP} (h : Ents w T (.slice A n c) l) (e m : Nat) (h2 : e ≤ m) (h3 : m ≤ c) (h4 : e ≤ n) : Ents w T (.slice A e m) (l.take e) := by
  have := h.cut 0 e m (Nat.zero_le _) h2 h3 h4
  rw [List.drop_zero, Nat.sub_zero, Nat.sub_zero] at this
  have hA : (if m = 0 then A else Option.map (fun q => Addr.add q (0 * 2)) A) = A := by cases A <;> simp [Addr.add]
  rwa [hA] at this
theorem append_none {P : Program} {t e ty bytes sz n c : Nat} (E : ElemTy P t e sz bytes) {w : World} {A B : Option Addr} {xs : List Value} (h : Rd w sz (.slice A n n) xs) : (Builtin.append_ #[t, t] ty #[.slice A n n, .slice B 0 c]).run P w = .ok (.slice A n n) w := by
  obtain ⟨i, z, hi, _, hs, _⟩ := E.info
  have hf : ∀ w, (Builtin.firstCells i.size 0 (.slice B 0 c)).run P w = .ok #[] w := by
    intro w
    cases B with
    | none => simp [Builtin.firstCells]
    | some a => simp [Builtin.firstCells, loadCells, loadCellsFrom]
  cases A with
  | none => simp [Builtin.append_, run_underlying E.slice, sizeOf, typeInfo, hi, Builtin.lenOf, hf]
  | some a => simp [Builtin.append_, run_underlying E.slice, sizeOf, typeInfo, hi, Builtin.lenOf, storeCells, hf]
/-- Entries are appended to a slice that has no room. -/
theorem Ents.app {P : Program} {t e ty bytes : Nat} (E : ElemTy P t e 2 bytes) {T U : Nat → Prop} {w : World} {A : Option Addr} {x : Value} {l ys : List EntP} (h : Ents w T (.slice A l.length l.length) l) (hx : Ents w U x ys)
    (hb : (l.length + ys.length) * bytes ≤ 140737488355328) (hl : l.length + ys.length ≤ 140737488355328) :
    ∃ A' c' w', (Builtin.append_ #[t, t] ty #[.slice A l.length l.length, x]).run P w = .ok (.slice A' (l ++ ys).length c') w' ∧ Keeps none_ w w' ∧ Ents w' (fun i => (T i ∨ U i ∨ w.heap.size ≤ i) ∧ i < w'.heap.size) (.slice A' (l ++ ys).length c') (l ++ ys) := by
  have hm : l.length + ys.length ≤ maxLen := by simp only [maxLen]; omega
  rcases Nat.eq_zero_or_pos ys.length with h0 | h0
  · have e0 : ys = [] := List.eq_nil_of_length_eq_zero h0
    subst e0
    obtain ⟨B, d, rfl⟩ := hx.form
    refine ⟨A, l.length, w, ?_, Keeps.refl w, ?_⟩
    · rw [List.append_nil]
      exact append_none E h.rd
    · rw [List.append_nil]
      exact h.mono (fun i hi => ⟨.inl hi, h.lt i hi⟩) fun i hi => hi.2
  · obtain ⟨v', w', hr, ho, hk⟩ := app_clip (ty := ty) E h.rd hx.rd (m := ys.length) (flat_len EntP.two ys) h0 hb hm
    have ho2 : OwnE w' w.heap.size e v' (l ++ ys) := by unfold OwnE OwnT; rw [List.length_append, List.flatMap_append]; exact ho
    obtain ⟨A', c', rfl⟩ := RdT.form EntP.two (by decide) (OwnT.rd ho2)
    refine ⟨A', c', w', hr, hk, ⟨OwnT.rd ho2, fun y hy => ?_, fun _ i hi => ?_, fun y hy hc i hi => ?_, fun i hi => hi.2⟩⟩
    · rcases List.mem_append.1 hy with hy | hy
      · exact (h.keep0 hk).ins y hy
      · exact (hx.keep0 hk).ins y hy
    · have := World.ownsRow.lt ho2 i hi
      exact ⟨.inr (.inr this.1), this.2⟩
    · rcases List.mem_append.1 hy with hy | hy
      · exact ⟨.inl (h.inn y hy hc i hi), Nat.lt_of_lt_of_le (h.lt i (h.inn y hy hc i hi)) hk.size⟩
      · exact ⟨.inr (.inl (hx.inn y hy hc i hi)), Nat.lt_of_lt_of_le (hx.lt i (hx.inn y hy hc i hi)) hk.size⟩
end Go.Q
namespace Go.Q
open Go.RowKit
theorem own_empty2 {w : World} {base e sz b : Nat} {α : Type} {f : α → List Value} (H : Has w b (rowL [] e)) (hb : base ≤ b) : OwnT w base e sz f (.slice (some ⟨b, 0, none⟩) 0 0) [] :=
  ⟨by simp, .inr ⟨b, 0, #[], rfl, hb, H, Nat.le_refl _, Nat.zero_le _, by simp, by simp⟩⟩
/-- An own row of entries: nothing, or a block with room behind. -/
theorem own_casesE {w : World} {base e : Nat} {v : Value} {l : List EntP} (h : OwnE w base e v l) :
    v = .slice none 0 0 ∧ l = [] ∨ ∃ G cap rest, v = .slice (some ⟨G, 0, none⟩) l.length cap ∧ base ≤ G ∧ Has w G (rowL (l.flatMap EntP.cells ++ rest) e) ∧ l.length ≤ cap ∧ cap ≤ maxLen ∧ (l.flatMap EntP.cells ++ rest).length = cap * 2 := by
  obtain ⟨hl, h⟩ := h
  rcases h with ⟨hv, hn⟩ | ⟨g, cap, cur, rfl, hb, hg, h1, h2, h3, h4⟩
  · exact .inl ⟨hv, List.eq_nil_of_length_eq_zero hn⟩
  · refine .inr ⟨g, cap, cur.toList.drop (l.length * 2), rfl, hb, ?_, h1, h2, ?_⟩
    · rw [← h4, List.take_append_drop]; exact hg
    · rw [← h4, List.take_append_drop]; simpa using h3
theorem own_casesE_mk {w : World} {base e G cap : Nat} {l : List EntP} {rest : List Value} (hb : base ≤ G) (H : Has w G (rowL (l.flatMap EntP.cells ++ rest) e)) (h1 : l.length ≤ cap) (h2 : cap ≤ maxLen) (h3 : (l.flatMap EntP.cells ++ rest).length = cap * 2) :
    OwnE w base e (.slice (some ⟨G, 0, none⟩) l.length cap) l :=
  ⟨flat_len EntP.two l, .inr ⟨G, cap, ⟨l.flatMap EntP.cells ++ rest⟩, rfl, hb, H, h1, h2, by simpa using h3, by simp only; rw [← flat_len EntP.two l, List.take_left]⟩⟩
theorem flat_at2 {l : List EntP} {rest : List Value} {k : Nat} {x : EntP} (hx : l[k]? = some x) : (l.flatMap EntP.cells ++ rest)[k * 2]? = some (i64 x.term) ∧ (l.flatMap EntP.cells ++ rest)[k * 2 + 1]? = some (.slice x.A x.cmd.length x.c) := by
  have h0 := flat_at EntP.two hx 0 (i64 x.term) rfl
  rw [Nat.add_zero] at h0
  have h1 := flat_at EntP.two hx 1 (.slice x.A x.cmd.length x.c) rfl
  exact ⟨by rw [List.getElem?_append_left (List.getElem?_eq_some_iff.1 h0).1]; exact h0, by rw [List.getElem?_append_left (List.getElem?_eq_some_iff.1 h1).1]; exact h1⟩
theorem flat_set2 : ∀ {l : List EntP} {rest : List Value} {k : Nat} {x : EntP} (A : Option Addr) (c : Nat), l[k]? = some x → (l.flatMap EntP.cells ++ rest).set (k * 2 + 1) (.slice A x.cmd.length c) = (l.set k ⟨x.term, A, c, x.cmd⟩).flatMap EntP.cells ++ rest
  | [], rest, k, x, A, c, h => by simp at h
  | y :: l, rest, 0, x, A, c, h => by
    simp only [List.getElem?_cons_zero, Option.some.injEq] at h
    subst h
    simp [EntP.cells]
  | y :: l, rest, k + 1, x, A, c, h => by
    simp only [List.getElem?_cons_succ] at h
    have := flat_set2 (rest := rest) A c h
    rw [List.set_cons_succ, List.flatMap_cons, List.flatMap_cons, List.append_assoc, List.append_assoc, ← this, show (k + 1) * 2 + 1 = y.cells.length + (k * 2 + 1) by rw [EntP.two]; omega]
    rw [List.set_append_right _ _ (by omega), Nat.add_sub_cancel_left]
theorem key_set {l : List EntP} {k : Nat} {x : EntP} (A : Option Addr) (c : Nat) (h : l[k]? = some x) : (l.set k ⟨x.term, A, c, x.cmd⟩).map EntP.key = l.map EntP.key := by
  rw [List.map_set]
  have : (l.map EntP.key)[k]? = some (x.term, x.cmd) := by rw [List.getElem?_map, h]; rfl
  show (l.map EntP.key).set k (x.term, x.cmd) = _
  obtain ⟨h1, h2⟩ := List.getElem?_eq_some_iff.1 this
  rw [← h2, List.set_getElem_self]
theorem take_set_succ {l : List EntP} {k : Nat} {x y : EntP} (h : l[k]? = some x) : (l.set k y).take (k + 1) = l.take k ++ [y] := by
  obtain ⟨h1, h2⟩ := List.getElem?_eq_some_iff.1 h
  rw [List.take_succ_eq_append_getElem (by rw [List.length_set]; exact h1), List.getElem_set_self, List.take_set_of_le (Nat.le_refl _)]
theorem drop_set_succ {l : List EntP} {k : Nat} {y : EntP} : (l.set k y).drop (k + 1) = l.drop (k + 1) := by
  rw [List.drop_set_of_lt (by omega)]
/-- The copies' bytes are one's own: so it stands. -/
theorem Ents.mine {w : World} {base e e2 G cap : Nat} {l : List EntP} {rest : List Value} (hb : base ≤ G) (H : Has w G (rowL (l.flatMap EntP.cells ++ rest) e)) (h1 : l.length ≤ cap) (h2 : cap ≤ maxLen) (h3 : (l.flatMap EntP.cells ++ rest).length = cap * 2)
    (hM : EntsMine e2 w base (.slice (some ⟨G, 0, none⟩) l.length cap) l) : Ents w (fun i => base ≤ i ∧ i < w.heap.size) (.slice (some ⟨G, 0, none⟩) l.length cap) l := by
  have hO := own_casesE_mk hb H h1 h2 h3
  refine ⟨OwnT.rd hO, hM.ins, fun _ i hi => World.ownsRow.lt hO i hi, fun x hx _ i hi => World.ownsRow.lt (hM x hx).1 i hi, fun i hi => hi.2⟩
end Go.Q
namespace Go.Q
theorem Rd.none_nil2 {w : World} {sz n c : Nat} {xs : List Value} (h : Rd w sz (.slice none n c) xs) : xs = [] := by
  obtain ⟨A, n', c', he, hl, _, _, hx⟩ := h
  injection he with e1 e2 e3
  subst e1; subst e2
  rcases Nat.eq_zero_or_pos n with h0 | h0
  · subst h0; exact List.eq_nil_of_length_eq_zero (by simpa using hl)
  · obtain ⟨b, off, hA, _⟩ := hx h0
    cases hA
end Go.Q
namespace Go.Q
open Go.RowKit
section
variable {P : Program} {t e : TypeId} {T : Nat → Prop} {w : World} {A : Option Addr} {c : Nat} {l : List EntP}
/-- A part of entries from k on, as it is cut. -/
theorem Ents.cutRun (ht : P.underlying t = some (.slice e)) (hs : size? P e = some 2) (h : Ents w T (.slice A l.length c) l) (k h2 : Nat) {kl : IntKind} {hi : Option Value} (hhi : hi = none ∧ h2 = l.length ∨ ∃ kk, hi = some (.int kk ((h2 : Nat) : Int))) (h1 : k ≤ h2) (h3 : h2 ≤ l.length) :
    ∃ A2 c2, (∀ w', (Instr.sliceAt t (.slice A l.length c) (some (.int kl ((k : Nat) : Int))) hi none).run P w' = .ok (.slice A2 ((l.drop k).take (h2 - k)).length c2) w') ∧ Ents w T (.slice A2 ((l.drop k).take (h2 - k)).length c2) ((l.drop k).take (h2 - k)) := by
  have hc := h.len
  have e : ((l.drop k).take (h2 - k)).length = h2 - k := by rw [List.length_take, List.length_drop]; omega
  rw [e]
  refine ⟨_, _, fun w' => ?_, h.cut k h2 c h1 (by omega) (Nat.le_refl _) h3⟩
  rcases hhi with ⟨rfl, rfl⟩ | ⟨kk, rfl⟩
  · exact run_cut (sz := 2) k l.length c ht hs (.inr ⟨_, rfl⟩) (.inl ⟨rfl, rfl, rfl⟩) (.inl ⟨rfl, rfl⟩) h1 (by omega) (Nat.le_refl _)
  · exact run_cut (sz := 2) k h2 c ht hs (.inr ⟨_, rfl⟩) (.inr ⟨_, rfl⟩) (.inl ⟨rfl, rfl⟩) h1 (by omega) (Nat.le_refl _)
/-- The first entries, as they are cut. -/
theorem Ents.headRun (ht : P.underlying t = some (.slice e)) (hs : size? P e = some 2) (h : Ents w T (.slice A l.length c) l) (h2 m : Nat) {kh : IntKind} {mx : Option Value} (hmx : mx = none ∧ m = c ∨ ∃ kk, mx = some (.int kk ((m : Nat) : Int))) (h3 : h2 ≤ l.length) (h4 : h2 ≤ m) (h5 : m ≤ c) :
    (∀ w', (Instr.sliceAt t (.slice A l.length c) none (some (.int kh ((h2 : Nat) : Int))) mx).run P w' = .ok (.slice A (l.take h2).length m) w') ∧ Ents w T (.slice A (l.take h2).length m) (l.take h2) := by
  have e : (l.take h2).length = h2 := by rw [List.length_take]; omega
  rw [e]
  refine ⟨fun w' => ?_, h.head h2 m h4 h5 h3⟩
  have := run_cut (P := P) (w := w') (sz := 2) (n := l.length) (c := c) (A := A) 0 h2 m ht hs (lo := none) (hi := some (.int kh ((h2 : Nat) : Int))) (mx := mx) (.inl ⟨rfl, rfl⟩) (.inr ⟨_, rfl⟩) hmx (Nat.zero_le _) h4 h5
  rw [this, Nat.sub_zero, Nat.sub_zero]
  congr 2
  cases A <;> simp [Addr.add]
end
end Go.Q
namespace Go.Q
abbrev Ks := List (Int × List UInt8)
/-- Can these entries stand behind a term? -/
def risingK : Int → Ks → Bool
  | _, [] => true
  | t, x :: l => if x.1 < max t 1 ∨ 1152921504606846976 < x.1 then false else risingK x.1 l
/-- The error of a new log. -/
def newE (base term : Int) (ks : Ks) : Int :=
  if 4096 < ks.length then 4 else if base < 0 ∨ 1152921504606846976 < base ∨ term < 0 ∨ 1152921504606846976 < term ∨ (base = 0 ∧ 0 < term) then 1 else if risingK term ks = true then 0 else 1
/-- A place's term, and the error. -/
def termK (base old : Int) (ks : Ks) (n : Int) : Int × Int :=
  if n < base ∨ base + ks.length < n then (0, 1) else if n = base then (old, 0) else ((ks.getD (n - base - 1).toNat (0, [])).1, 0)
def lastK (base old : Int) (ks : Ks) : Int := (termK base old ks (base + ks.length)).1
def appE (base old : Int) (ks ys : Ks) : Int := if 4096 < ks.length + ys.length then 4 else if risingK (lastK base old ks) ys = true then 0 else 1
/-- How many of ys stand in the log from behind n on. -/
def runK (base old : Int) (ks : Ks) : Int → Ks → Nat
  | _, [] => 0
  | n, y :: ys => if (termK base old ks (n + 1)).2 = 0 ∧ (termK base old ks (n + 1)).1 = y.1 then runK base old ks (n + 1) ys + 1 else 0
def matchT (base old : Int) (ks : Ks) (n : Int) (ys : Ks) : (Int × Int × Int) × Ks :=
  if runK base old ks n ys = ys.length then ((n + ys.length, 0, 0), ks)
  else if appE base old (ks.take (n + runK base old ks n ys - base).toNat) (ys.drop (runK base old ks n ys)) ≠ 0 then ((0, 0, appE base old (ks.take (n + runK base old ks n ys - base).toNat) (ys.drop (runK base old ks n ys))), ks)
  else ((n + ys.length, n + runK base old ks n ys + 1, 0), ks.take (n + runK base old ks n ys - base).toNat ++ ys.drop (runK base old ks n ys))
def matchK (base old : Int) (ks : Ks) (n term : Int) (ys : Ks) : (Int × Int × Int) × Ks :=
  if n < 0 ∨ term < 0 then ((0, 0, 1), ks)
  else if n < base then (if (ys.length : Int) < base - n then ((0, 0, 5), ks) else matchT base old ks base (ys.drop (base - n).toNat))
  else if termK base old ks n = (term, 0) then matchT base old ks n ys else ((0, 0, 5), ks)
def partK (base : Int) (ks : Ks) (n most : Int) : Ks := if most < 1 ∨ n ≤ base ∨ base + ks.length < n then [] else (ks.drop (n - base - 1).toNat).take most.toNat
def cutE (base : Int) (ks : Ks) (n : Int) : Int := if n ≤ base ∨ base + ks.length + 1 < n then 1 else 0
theorem at_or (base : Int) (m : Nat) (n : Int) : n < base ∨ base + m < n ∨ n = base ∨ ∃ k : Nat, n = base + (k : Int) + 1 ∧ k < m := by
  by_cases h1 : n < base
  · exact .inl h1
  · by_cases h2 : base + m < n
    · exact .inr (.inl h2)
    · by_cases h3 : n = base
      · exact .inr (.inr (.inl h3))
      · exact .inr (.inr (.inr ⟨(n - base - 1).toNat, by omega, by omega⟩))
theorem termK_none {base old n : Int} {ks : Ks} (h : n < base ∨ base + ks.length < n) : termK base old ks n = (0, 1) := by unfold termK; rw [if_pos h]
theorem termK_base (base old : Int) (ks : Ks) : termK base old ks base = (old, 0) := by unfold termK; rw [if_neg (by omega), if_pos rfl]
theorem termK_at {base old : Int} {ks : Ks} {k : Nat} {x : Int × List UInt8} (h : ks[k]? = some x) : termK base old ks (base + (k : Int) + 1) = (x.1, 0) := by
  have := (List.getElem?_eq_some_iff.1 h).1
  unfold termK
  rw [if_neg (by omega), if_neg (by omega), show (base + (k : Int) + 1 - base - 1).toNat = k by omega, List.getD_eq_getElem?_getD, h]
  rfl
theorem ekey_at {l : List EntP} {k : Nat} {x : EntP} (h : l[k]? = some x) : (l.map EntP.key)[k]? = some (x.term, x.cmd) := by rw [List.getElem?_map, h]; rfl
theorem risingK_drop {ks : Ks} {i : Nat} {x : Int × List UInt8} {t : Int} (h : ks[i]? = some x) : risingK t (ks.drop i) = if x.1 < max t 1 ∨ 1152921504606846976 < x.1 then false else risingK x.1 (ks.drop (i + 1)) := by
  obtain ⟨h1, h2⟩ := List.getElem?_eq_some_iff.1 h
  rw [List.drop_eq_getElem_cons h1, h2]
  rfl
end Go.Q
namespace Go.Q
theorem keys_len2 {l : List EntP} {ks : Ks} (h : l.map EntP.key = ks) : l.length = ks.length := by have := congrArg List.length h; simpa using this
end Go.Q
namespace Go.Q
end Go.Q
namespace Go.Q
/-- The commands' bytes are not too many. -/
def BigK (ks : Ks) : Prop := ∀ y ∈ ks, y.2.length ≤ 140737488351232
theorem BigK.nil : BigK [] := fun y hy => by cases hy
theorem BigK.l {l : List EntP} (h : BigK (l.map EntP.key)) : ∀ x ∈ l, x.cmd.length ≤ 140737488351232 := fun x hx => h (x.term, x.cmd) (List.mem_map.2 ⟨x, hx, rfl⟩)
theorem BigK.of {l : List EntP} (h : ∀ x ∈ l, x.cmd.length ≤ 140737488351232) : BigK (l.map EntP.key) := fun y hy => by obtain ⟨x, hx, rfl⟩ := List.mem_map.1 hy; exact h x hx
theorem BigK.take {l m : List EntP} {k : Nat} (hl : l = m.take k) (h : BigK (m.map EntP.key)) : BigK (l.map EntP.key) := .of fun x hx => h.l x (List.mem_of_mem_take (hl ▸ hx))
theorem BigK.cut {l m : List EntP} {k j : Nat} (hl : l = (m.drop k).take j) (h : BigK (m.map EntP.key)) : BigK (l.map EntP.key) := .of fun x hx => h.l x (List.mem_of_mem_drop (List.mem_of_mem_take (hl ▸ hx)))
theorem BigK.drop {ks : Ks} (k : Nat) (h : BigK ks) : BigK (ks.drop k) := fun y hy => h y (List.mem_of_mem_drop hy)
theorem BigK.takeK {ks : Ks} (k : Nat) (h : BigK ks) : BigK (ks.take k) := fun y hy => h y (List.mem_of_mem_take hy)
theorem BigK.app {ks ms : Ks} (h : BigK ks) (k : BigK ms) : BigK (ks ++ ms) := fun y hy => (List.mem_append.1 hy).elim (h y) (k y)
theorem BigK.part {ks : Ks} (base n most : Int) (h : BigK ks) : BigK (partK base ks n most) := by unfold partK; split; exact .nil; exact (h.drop _).takeK _
theorem BigK.keys {l : List EntP} {ks : Ks} (hK : l.map EntP.key = ks) (h : BigK ks) : BigK (l.map EntP.key) := hK ▸ h
theorem BigK.match_ {base old n t : Int} {ks ys : Ks} (h : BigK ks) (k : BigK ys) : BigK (matchK base old ks n t ys).2 := by
  have hT : ∀ m zs, BigK zs → BigK (matchT base old ks m zs).2 := by
    intro m zs hz
    unfold matchT
    split
    · exact h
    · split
      · exact h
      · exact (h.takeK _).app (hz.drop _)
  unfold matchK
  split
  · exact h
  · split
    · split
      · exact h
      · exact hT _ _ (k.drop _)
    · split
      · exact hT _ _ k
      · exact h
end Go.Q
namespace Go.Q
theorem newE_ok {base t : Int} {ks : Ks} (h : newE base t ks = 0) : ks.length ≤ 4096 ∧ (0 ≤ base ∧ base ≤ 1152921504606846976 ∧ 0 ≤ t ∧ t ≤ 1152921504606846976 ∧ ¬ (base = 0 ∧ 0 < t)) ∧ risingK t ks = true := by
  unfold newE at h
  split at h
  · cases h
  · split at h
    · cases h
    · split at h
      · exact ⟨by omega, by omega, by assumption⟩
      · cases h
end Go.Q
namespace Go.Q
theorem appE_ok {base old : Int} {ks ys : Ks} (h : appE base old ks ys = 0) : ks.length + ys.length ≤ 4096 ∧ risingK (lastK base old ks) ys = true := by
  unfold appE at h
  split at h
  · cases h
  · split at h
    · exact ⟨by omega, by assumption⟩
    · cases h
end Go.Q
namespace Go.Q
theorem comp_or (base : Int) (m : Nat) (n : Int) : (n < base ∨ base + (m : Int) < n) ∨ ∃ k : Nat, n = base + (k : Int) ∧ k ≤ m := by
  by_cases h : n < base ∨ base + (m : Int) < n
  · exact .inl h
  · exact .inr ⟨(n - base).toNat, by omega, by omega⟩
theorem termK_ok {base old n : Int} {ks : Ks} (h : base ≤ n ∧ n ≤ base + ks.length) : (termK base old ks n).2 = 0 := by
  unfold termK
  rw [if_neg (by omega)]
  split <;> rfl
theorem runK_high {base old n : Int} {ks : Ks} (h : base + ks.length < n + 1) (zs : Ks) : runK base old ks n zs = 0 := by
  cases zs with
  | nil => rfl
  | cons z zs =>
    unfold runK
    rw [termK_none (.inr h), if_neg (by simp)]
theorem runK_ne {base old n : Int} {ks zs : Ks} {k : Nat} {x y : Int × List UInt8} (hn : n + 1 = base + (k : Int) + 1) (hx : ks[k]? = some x) (hy : zs[0]? = some y) (h : x.1 ≠ y.1) : runK base old ks n zs = 0 := by
  cases zs with
  | nil => rfl
  | cons z zs =>
    simp only [List.getElem?_cons_zero, Option.some.injEq] at hy
    subst hy
    unfold runK
    rw [hn, termK_at hx, if_neg (by simp [h])]
theorem runK_eq {base old n : Int} {ks zs : Ks} {k : Nat} {x y : Int × List UInt8} (hn : n + 1 = base + (k : Int) + 1) (hx : ks[k]? = some x) (hy : zs[0]? = some y) (h : x.1 = y.1) : runK base old ks n zs = runK base old ks (n + 1) (zs.drop 1) + 1 := by
  cases zs with
  | nil => cases hy
  | cons z zs =>
    simp only [List.getElem?_cons_zero, Option.some.injEq] at hy
    subst hy
    have : (termK base old ks (n + 1)).2 = 0 ∧ (termK base old ks (n + 1)).1 = z.1 := by rw [hn, termK_at hx]; exact ⟨rfl, h⟩
    rw [runK, if_pos this, List.drop_succ_cons, List.drop_zero]
theorem matchT_end {base old n : Int} {ks ys : Ks} (h : runK base old ks n ys = ys.length) : matchT base old ks n ys = ((n + ys.length, 0, 0), ks) := by unfold matchT; rw [if_pos h]
theorem matchT_bad {base old n : Int} {ks ys : Ks} {i j : Nat} (h : runK base old ks n ys = i) (hi : i < ys.length) (hj : n + (i : Int) = base + (j : Int)) (ha : appE base old (ks.take j) (ys.drop i) ≠ 0) : matchT base old ks n ys = ((0, 0, appE base old (ks.take j) (ys.drop i)), ks) := by
  unfold matchT
  rw [h, if_neg (by omega), show (n + (i : Int) - base).toNat = j by omega, if_pos ha]
theorem matchT_ok {base old n : Int} {ks ys : Ks} {i j : Nat} (h : runK base old ks n ys = i) (hi : i < ys.length) (hj : n + (i : Int) = base + (j : Int)) (ha : appE base old (ks.take j) (ys.drop i) = 0) : matchT base old ks n ys = ((n + ys.length, n + i + 1, 0), ks.take j ++ ys.drop i) := by
  unfold matchT
  rw [h, if_neg (by omega), show (n + (i : Int) - base).toNat = j by omega, if_neg (not_not_intro ha)]
end Go.Q
namespace Go.Q
end Go.Q
namespace Go.Proofs.Ytnmpepjikfbpdaa
open Go.Q Go.RowKit
theorem tyB : ElemTy Try.prog 37 5 1 1 := elemTy (by kernel_rfl)

theorem Clone_nil (w : World) (n c : Nat) (bs : List UInt8) (hv : RdB w (.slice none n c) bs) : Calls Try.prog 54 ⟨[(Value.slice none n c)]⟩ w (fun e w' => ∃ v', e = .returned v' ∧ Keeps none_ w w' ∧ OwnB w' w.heap.size 5 v' (bs)) := by
 have K0 : Keeps none_ w w := Keeps.refl w
 have hz : [] = bs := hv.none_nil.symm
 refine q_calls Try.func54 (by kernel_rfl) (by kernel_rfl) ?_
 refine qs ?_
 refine qg ?_
 refine og 1 [(0, (Value.slice none n c)), (2, (Value.slice none 0 0))] 1 ?_
 refine od ?_
 refine qs ?_
 refine qs ?_
 refine qg ?_
 refine og 2 [(0, (Value.slice none n c)), (2, (Value.slice none 0 0)), (4, (Value.bool true))] 2 ?_
 refine od ?_
 refine q_then (o := .tmp 4) (by kernel_rfl) rfl ?_
 refine qs ?_
 refine qg ?_
 refine og 1 [(0, (Value.slice none n c)), (2, (Value.slice none 0 0))] 1 ?_
 refine od ?_
 refine q_ret (by kernel_rfl) ?_
 refine ⟨(Value.slice none 0 0), retv_tmp rfl rfl, ?_⟩
 exact ⟨_, rfl, K0, hz ▸ World.ownsRow_nil _ _ _ _⟩

theorem Clone_some (w : World) (a : Addr) (c : Nat) (bs : List UInt8) (hv : RdB w (.slice (some a) bs.length c) bs) (hl : bs.length ≤ 140737488351232) : Calls Try.prog 54 ⟨[(Value.slice (some a) bs.length c)]⟩ w (fun e w' => ∃ v', e = .returned v' ∧ Keeps none_ w w' ∧ OwnB w' w.heap.size 5 v' (bs)) := by
 have K0 : Keeps none_ w w := Keeps.refl w
 refine q_calls Try.func54 (by kernel_rfl) (by kernel_rfl) ?_
 refine qs ?_
 refine qg ?_
 refine og 1 [(0, (Value.slice (some a) bs.length c)), (2, (Value.slice none 0 0))] 1 ?_
 refine od ?_
 refine qs ?_
 refine qs ?_
 refine qg ?_
 refine og 2 [(0, (Value.slice (some a) bs.length c)), (2, (Value.slice none 0 0)), (4, (Value.bool false))] 2 ?_
 refine od ?_
 refine q_else (o := .tmp 4) (by kernel_rfl) rfl ?_
 refine q_skip (by kernel_rfl) ?_
 refine qs ?_
 refine qg ?_
 refine Ops.new (o := rowL [] 5) (V := fun b => (Value.slice (some ⟨b, 0, none⟩) 0 0)) (by kernel_rfl) (d := (some 5)) (by kernel_rfl) (fun b => rfl) (fun b1 w2 hb3 H4 K5 hs6 => ?_)
 have nb1 : w.heap.size ≤ b1 := by have := K0.size; omega
 replace K0 := K0.t0 K5
 clear K5 hs6
 refine og 1 [(2, (Value.slice none 0 0)), (5, (Value.slice (some ⟨b1, 0, none⟩) 0 0)), (6, (Value.slice (some a) bs.length c))] 2 ?_
 have hE7 : OwnB w2 w.heap.size 5 (Value.slice (some ⟨b1, 0, none⟩) 0 0) [] := own_empty H4 nb1
 obtain ⟨v8, w9, hr10, hO11, K12⟩ := OwnB.app (ty := 37) tyB hE7 (hv.keep0 (by omega) K0) (by (try simp only at *); (try simp only [List.length_append] at *); (try simp only [List.length_cons] at *); (try simp only [List.length_nil] at *); omega) K0.size
 refine Ops.go (v := v8) (by kernel_rfl) (Runs.append (ts := #[37, 37]) (ty := 37) (vs := [(Value.slice (some ⟨b1, 0, none⟩) 0 0), (Value.slice (some a) bs.length c)]) (by kernel_rfl) hr10) (d := (some 7)) (by kernel_rfl) rfl ?_
 have K13 := Keeps.own2 K0 K12
 clear H4 hE7 K0 hr10 K12
 refine og 1 [(2, v8)] 4 ?_
 refine od ?_
 refine q_ret (by kernel_rfl) ?_
 refine ⟨v8, retv_tmp rfl rfl, ?_⟩
 exact ⟨_, rfl, K13, hO11⟩

theorem Clone_calls (w : World) (v : Value) (bs : List UInt8) (hv : RdB w v bs) (hl : bs.length ≤ 140737488351232) : Calls Try.prog 54 ⟨[v]⟩ w (fun e w' => ∃ v', e = .returned v' ∧ Keeps none_ w w' ∧ OwnB w' w.heap.size 5 v' (bs)) := by
 obtain ⟨A, c, rfl⟩ := hv.form
 cases A with
 | none => exact Clone_nil w _ c bs hv
 | some a => exact Clone_some w a c bs hv hl
theorem tyE : ElemTy Try.prog 22 43 2 32 := elemTy (by kernel_rfl)

theorem CloneS_calls (w : World) (v : Value) (bs : List UInt8) (hv : RdB w v bs) (hl : bs.length ≤ 140737488351232) : Calls Try.prog 54 ⟨[v]⟩ w (fun e w' => ∃ A' c', e = .returned (.slice A' bs.length c') ∧ Keeps none_ w w' ∧ OwnB w' w.heap.size 5 (.slice A' bs.length c') bs) := by
 refine (Clone_calls w v bs hv hl).mono ?_
 rintro _ w' ⟨v', rfl, hk, hO⟩
 obtain ⟨A', c', rfl⟩ := RdB.form (OwnB.rd hO)
 exact ⟨A', c', rfl, hk, hO⟩

theorem CloneE_nil (w : World) (n c : Nat)  : Calls Try.prog 55 ⟨[(Value.slice none n c)]⟩ w (fun e w' => e = .returned (.slice none 0 0) ∧ Keeps none_ w w') := by
 have K0 : Keeps none_ w w := Keeps.refl w
 refine q_calls Try.func55 (by kernel_rfl) (by kernel_rfl) ?_
 refine qs ?_
 refine qg ?_
 refine og 1 [(0, (Value.slice none n c)), (2, (Value.slice none 0 0))] 1 ?_
 refine od ?_
 refine qs ?_
 refine qs ?_
 refine qg ?_
 refine og 2 [(0, (Value.slice none n c)), (2, (Value.slice none 0 0)), (4, (Value.bool true))] 2 ?_
 refine od ?_
 refine q_then (o := .tmp 4) (by kernel_rfl) rfl ?_
 refine qs ?_
 refine qg ?_
 refine og 1 [(0, (Value.slice none n c)), (2, (Value.slice none 0 0))] 1 ?_
 refine od ?_
 refine q_ret (by kernel_rfl) ?_
 refine ⟨(Value.slice none 0 0), retv_tmp rfl rfl, ?_⟩
 exact ⟨rfl, K0⟩

theorem CloneE_some (w : World) (a : Addr) (c : Nat) (l : List EntP) (hv : RdE w (.slice (some a) l.length c) l) (hl : l.length * 32 ≤ 140737488351232) : Calls Try.prog 55 ⟨[(Value.slice (some a) l.length c)]⟩ w (fun e w' => ∃ v', e = .returned v' ∧ Keeps none_ w w' ∧ OwnE w' w.heap.size 43 v' ([] ++ l)) := by
 have K0 : Keeps none_ w w := Keeps.refl w
 refine q_calls Try.func55 (by kernel_rfl) (by kernel_rfl) ?_
 refine qs ?_
 refine qg ?_
 refine og 1 [(0, (Value.slice (some a) l.length c)), (2, (Value.slice none 0 0))] 1 ?_
 refine od ?_
 refine qs ?_
 refine qs ?_
 refine qg ?_
 refine og 2 [(0, (Value.slice (some a) l.length c)), (2, (Value.slice none 0 0)), (4, (Value.bool false))] 2 ?_
 refine od ?_
 refine q_else (o := .tmp 4) (by kernel_rfl) rfl ?_
 refine q_skip (by kernel_rfl) ?_
 refine qs ?_
 refine qg ?_
 refine Ops.new (o := rowL [] 43) (V := fun b => (Value.slice (some ⟨b, 0, none⟩) 0 0)) (by kernel_rfl) (d := (some 5)) (by kernel_rfl) (fun b => rfl) (fun b1 w2 hb3 H4 K5 hs6 => ?_)
 have nb1 : w.heap.size ≤ b1 := by have := K0.size; omega
 replace K0 := K0.t0 K5
 clear K5 hs6
 refine og 1 [(2, (Value.slice none 0 0)), (5, (Value.slice (some ⟨b1, 0, none⟩) 0 0)), (6, (Value.slice (some a) l.length c))] 2 ?_
 have hE7 : OwnT w2 w.heap.size 43 2 EntP.cells (Value.slice (some ⟨b1, 0, none⟩) 0 0) [] := own_empty2 H4 nb1
 obtain ⟨v8, w9, hr10, hO11, hK12, hg13⟩ := OwnT.app (ty := 22) EntP.two EntP.one tyE hE7 (Rd.keep0 (by omega) hv K0) (by first | omega | (simp only [List.length_nil]; omega)) (by first | omega | (simp only [List.length_nil]; omega)) K0.size
 obtain ⟨A15, c16, rfl⟩ := RdT.form EntP.two (by decide) (OwnT.rd hO11)
 have K14 := hK12
 refine Ops.go (v := (Value.slice A15 (([] ++ l).length) c16)) (by kernel_rfl) (Runs.append (ts := #[22, 22]) (ty := 22) (vs := [(Value.slice (some ⟨b1, 0, none⟩) 0 0), (Value.slice (some a) l.length c)]) (by kernel_rfl) hr10) (d := (some 7)) (by kernel_rfl) rfl ?_
 replace K0 := K0.trans K14 (U := none_) (fun i h1 h2 => h2) (fun i h1 h2 => by have h2 : ((Value.slice (some ⟨b1, 0, none⟩) 0 0)).ownBlock = some i := h2; exfalso; have := (World.ownsRow.lt hE7 i h2).1; omega)
 clear hE7
 clear K14 hr10 hK12 hg13
 refine og 1 [(2, (Value.slice A15 (([] ++ l).length) c16))] 4 ?_
 refine od ?_
 refine q_ret (by kernel_rfl) ?_
 refine ⟨(Value.slice A15 (([] ++ l).length) c16), retv_tmp rfl rfl, ?_⟩
 exact ⟨_, rfl, K0, hO11⟩

theorem CloneE_calls (w : World) (v : Value) (l : List EntP) (hv : RdE w v l) (hl : l.length * 32 ≤ 140737488351232) : Calls Try.prog 55 ⟨[v]⟩ w (fun e w' => ∃ v', e = .returned v' ∧ Keeps none_ w w' ∧ (v' = .slice none 0 0 ∧ l = [] ∨ ∃ G cap rest, v' = .slice (some ⟨G, 0, none⟩) l.length cap ∧ w.heap.size ≤ G ∧ Has w' G (rowL (l.flatMap EntP.cells ++ rest) 43) ∧ l.length ≤ cap ∧ cap ≤ maxLen ∧ (l.flatMap EntP.cells ++ rest).length = cap * 2)) := by
 obtain ⟨A, c, rfl⟩ := RdT.form EntP.two (by decide) hv
 cases A with
 | none => exact (CloneE_nil w l.length c).mono fun e w' ⟨he, hk⟩ => ⟨_, he, hk, .inl ⟨rfl, by
   have := Rd.none_nil2 hv
   cases l with
   | nil => rfl
   | cons x l => simp [EntP.cells] at this⟩⟩
 | some a => exact (CloneE_some w a c l hv hl).mono fun e w' ⟨v', he, hk, hO⟩ => ⟨v', he, hk, own_casesE (by rw [List.nil_append] at hO; exact hO)⟩

theorem own_calls (w : World) (T : Nat → Prop) (A : Option Addr) (c : Nat) (l0 : List EntP) (hE : Ents w T (.slice A l0.length c) l0) (hBig : ∀ x ∈ l0, x.cmd.length ≤ 140737488351232) (hl : l0.length * 32 ≤ 140737488351232) : Calls Try.prog 33 ⟨[(Value.slice A l0.length c)]⟩ w (fun e w' => ∃ l' A' c', e = .returned (.slice A' l'.length c') ∧ Keeps none_ w w' ∧ Ents w' (fun i => w.heap.size ≤ i ∧ i < w'.heap.size) (.slice A' l'.length c') l' ∧ l'.map EntP.key = l0.map EntP.key) := by
 have hE0 := hE
 have K0 : Keeps none_ w w := Keeps.refl w
 refine q_calls Try.func33 (by kernel_rfl) (by kernel_rfl) ?_
 refine qs ?_
 refine qg ?_
 refine og 1 [(0, (Value.slice A l0.length c)), (2, (Value.slice none 0 0))] 1 ?_
 refine od ?_
 refine qs ?_
 refine qg ?_
 refine og 1 [(0, (Value.slice A l0.length c)), (2, (Value.slice none 0 0)), (4, (Value.slice A l0.length c))] 1 ?_
 refine Ops.call (by kernel_rfl) (d := (some 5)) (by kernel_rfl) (CloneE_calls _ (Value.slice A l0.length c) l0 (Ents.rd hE) (by omega)) ?_
 rintro _ w2 ⟨v1, rfl, K3, (⟨rfl, hl12⟩ | ⟨G4, cap5, rest6, rfl, hG7, H8, hc9, hc10, hc11⟩)⟩
 ·refine ⟨_, _, rfl, rfl, ?_⟩
  replace K0 := K0.t0 K3
  replace hE := Ents.keep0 hE K3
  clear K3
  refine og 1 [(0, (Value.slice none 0 0)), (2, (Value.slice none 0 0))] 3 ?_
  refine od ?_
  refine qs ?_
  refine qs ?_
  refine qg ?_
  refine og 3 [(0, (Value.slice none 0 0)), (2, (Value.slice none 0 0)), (7, (i64 0)), (8, (i64 0))] 3 ?_
  refine od ?_
  refine q_block (id := 0) (by kernel_rfl) ?_
  refine q_keep (R := [(0, (Value.slice none 0 0)), (2, (Value.slice none 0 0)), (7, (i64 0)), (8, (i64 0))]) (by kernel_rfl) ?_
  refine q_loop (fun (i : Nat) L (wx : World) => L = [(0, (Value.slice none 0 0)), (2, (Value.slice none 0 0)), (7, (i64 ((0 : Nat) : Int))), (8, (i64 ((i : Nat) : Int)))] ∧ i = 0 ∧ Keeps none_ w wx) (fun (i : Nat) => 0 - i) 0 (by kernel_rfl) ⟨rfl, rfl, K0⟩ ?_
  clear hE K0
  rintro i _ w13 ⟨rfl, hi, K14⟩
  refine qs ?_
  refine qg ?_
  refine og 1 [(0, (Value.slice none 0 0)), (2, (Value.slice none 0 0)), (7, (i64 ((0 : Nat) : Int))), (8, (i64 ((i : Nat) : Int))), (9, (Value.bool (decide (((i : Nat) : Int) < ((0 : Nat) : Int)))))] 1 ?_
  refine od ?_
  refine qs ?_
  have h15 : (decide (((i : Nat) : Int) < ((0 : Nat) : Int))) = false := decide_eq_false (by omega)
  rw [h15]
  refine q_else (o := .tmp 9) (by kernel_rfl) rfl ?_
  refine q_exit (id := 0) (by kernel_rfl) ?_
  refine qs ?_
  refine qg ?_
  refine og 2 [(2, (Value.slice none 0 0))] 2 ?_
  refine od ?_
  refine q_ret (by kernel_rfl) ?_
  refine ⟨(Value.slice none 0 0), retv_tmp rfl rfl, ?_⟩
  exact ⟨[], none, 0, rfl, K14, (Ents.nil _).mono (fun _ h => h.elim) (fun _ h => h.2), by rw [hl12]⟩
 ·refine ⟨_, _, rfl, rfl, ?_⟩
  have nG4 : w.heap.size ≤ G4 := by have := K0.size; omega
  replace K0 := K0.t0 K3
  replace hE := Ents.keep0 hE K3
  clear K3
  refine og 1 [(0, (Value.slice (some ⟨G4, 0, none⟩) l0.length cap5)), (2, (Value.slice none 0 0))] 3 ?_
  refine od ?_
  refine qs ?_
  refine qs ?_
  refine qg ?_
  refine og 3 [(0, (Value.slice (some ⟨G4, 0, none⟩) l0.length cap5)), (2, (Value.slice none 0 0)), (7, (i64 ((l0.length : Nat) : Int))), (8, (i64 0))] 3 ?_
  refine od ?_
  refine q_block (id := 0) (by kernel_rfl) ?_
  refine q_keep (R := [(0, (Value.slice (some ⟨G4, 0, none⟩) l0.length cap5)), (2, (Value.slice none 0 0)), (7, (i64 ((l0.length : Nat) : Int))), (8, (i64 0))]) (by kernel_rfl) ?_
  refine q_loop (fun (gs : Nat × (List EntP)) L (wx : World) => match gs with | (i, l) => L = [(0, (Value.slice (some ⟨G4, 0, none⟩) l0.length cap5)), (2, (Value.slice none 0 0)), (7, (i64 ((l0.length : Nat) : Int))), (8, (i64 ((i : Nat) : Int)))] ∧ l.length = l0.length ∧ l.map EntP.key = l0.map EntP.key ∧ (l.flatMap EntP.cells ++ rest6).length = cap5 * 2 ∧ EntsMine 5 wx w.heap.size (.slice (some ⟨G4, 0, none⟩) l0.length cap5) (l.take i) ∧ l.drop i = l0.drop i ∧ i ≤ l0.length ∧ Keeps none_ w wx ∧ Has wx G4 (rowL (l.flatMap EntP.cells ++ rest6) 43)) (fun (gs : Nat × (List EntP)) => match gs with | (i, l) => l0.length - i) (0, l0) (by kernel_rfl) ⟨rfl, rfl, rfl, hc11, (EntsMine.nil _ _ _), rfl, Nat.zero_le _, K0, H8⟩ ?_
  clear H8 hE K0
  rintro ⟨i, l⟩ _ w16 ⟨rfl, hln, hK, hR, hM, hD, hi, K17, H18⟩
  refine qs ?_
  refine qg ?_
  refine og 1 [(0, (Value.slice (some ⟨G4, 0, none⟩) l0.length cap5)), (2, (Value.slice none 0 0)), (7, (i64 ((l0.length : Nat) : Int))), (8, (i64 ((i : Nat) : Int))), (9, (Value.bool (decide (((i : Nat) : Int) < ((l0.length : Nat) : Int)))))] 1 ?_
  refine od ?_
  refine qs ?_
  refine q_cond (o := .tmp 9) (b := (decide (((i : Nat) : Int) < ((l0.length : Nat) : Int)))) (by kernel_rfl) rfl (fun h19 => ?_) (fun h19 => ?_)
  ·rw [h19]
   have p20 : ((i : Nat) : Int) < ((l0.length : Nat) : Int) := of_decide_eq_true h19
   refine q_skip (by kernel_rfl) ?_
   refine qs ?_
   refine q_block (id := 1) (by kernel_rfl) ?_
   refine qs ?_
   refine qg ?_
   refine og 2 [(0, (Value.slice (some ⟨G4, 0, none⟩) l0.length cap5)), (2, (Value.slice none 0 0)), (3, (i64 ((i : Nat) : Int))), (7, (i64 ((l0.length : Nat) : Int))), (8, (i64 ((i : Nat) : Int)))] 2 ?_
   refine od ?_
   refine qg ?_
   refine og 4 [(0, (Value.slice (some ⟨G4, 0, none⟩) l0.length cap5)), (2, (Value.slice none 0 0)), (7, (i64 ((l0.length : Nat) : Int))), (8, (i64 ((i : Nat) : Int))), (11, (Value.slice (some ⟨G4, 0, none⟩) l0.length cap5)), (12, (i64 ((i : Nat) : Int))), (13, (Value.slice (some ⟨G4, 0, none⟩) l0.length cap5)), (14, (i64 ((i : Nat) : Int)))] 4 ?_
   obtain ⟨x, hx⟩ : ∃ y, l[i]? = some y := ⟨_, List.getElem?_eq_getElem (by omega)⟩
   have hx0 : l0[i]? = some x := by have q := congrArg (fun z => z[0]?) hD; simp only [List.getElem?_drop, Nat.add_zero] at q; rw [← q]; exact hx
   have hxB := Ents.ins hE0 x (List.mem_of_getElem? hx0)
   have hxl := hxB.slice
   unfold maxLen at hxl
   have hxb := hBig x (List.mem_of_getElem? hx0)
   refine Ops.go (by kernel_rfl) (Runs.ixSlice (k := IntKind.i64) (t := 22) (b := G4) (off := 0) (len := l0.length) (cap := cap5) (s := 2) (off' := i * 2) (i := ((i : Nat) : Int)) (by kernel_rfl) (by kernel_rfl) (by omega) (by omega) (by omega)) (d := (some 15)) (by kernel_rfl) rfl ?_
   refine og 1 [(0, (Value.slice (some ⟨G4, 0, none⟩) l0.length cap5)), (2, (Value.slice none 0 0)), (7, (i64 ((l0.length : Nat) : Int))), (8, (i64 ((i : Nat) : Int))), (11, (Value.slice (some ⟨G4, 0, none⟩) l0.length cap5)), (12, (i64 ((i : Nat) : Int))), (16, (Value.pointer (some ⟨G4, i * 2 + 1, none⟩)))] 6 ?_
   refine Ops.go (v := (Value.slice x.A x.cmd.length x.c)) (by kernel_rfl) (Runs.load (t := 37) (a := ⟨G4, i * 2 + 1, none⟩) (by kernel_rfl) (H18.loads (loadC1 (by kernel_rfl) (flat_at2 hx).2))) (d := (some 17)) (by kernel_rfl) rfl ?_
   refine Ops.call (by kernel_rfl) (d := (some 18)) (by kernel_rfl) (CloneS_calls _ (Value.slice x.A x.cmd.length x.c) x.cmd (hxB.keep0 (by omega) K17) (by omega)) ?_
   rintro _ w23 ⟨A21, c22, rfl, K24, hO25⟩
   have ob27 : ∀ i, ((Value.slice A21 x.cmd.length c22)).ownBlock = some i → i ≠ G4 := fun i hi => by have := (World.ownsRow.lt hO25 i hi).1; have := H18.lt; omega
   have O26 := own_base hO25 K17.size
   refine ⟨_, _, rfl, rfl, ?_⟩
   replace K17 := K17.trans K24 (U := none_) (fun i h1 h2 => h2) (fun i h1 h2 => by exact h2)
   replace H18 := H18.keep K24 (fun h => h)
   replace hM := EntsMine.keep hM K24 (fun _ _ _ h => h)
   clear K24
   refine Ops.go (by kernel_rfl) (Runs.ixSlice (k := IntKind.i64) (t := 22) (b := G4) (off := 0) (len := l0.length) (cap := cap5) (s := 2) (off' := i * 2) (i := ((i : Nat) : Int)) (by kernel_rfl) (by kernel_rfl) (by omega) (by omega) (by omega)) (d := (some 19)) (by kernel_rfl) rfl ?_
   refine og 1 [(0, (Value.slice (some ⟨G4, 0, none⟩) l0.length cap5)), (2, (Value.slice none 0 0)), (7, (i64 ((l0.length : Nat) : Int))), (8, (i64 ((i : Nat) : Int))), (18, (Value.slice A21 x.cmd.length c22)), (20, (Value.pointer (some ⟨G4, i * 2 + 1, none⟩)))] 10 ?_
   refine Ops.put (t := 37) (b := G4) (off := i * 2 + 1) (v := (Value.slice A21 x.cmd.length c22)) (ys := ((l.set i ⟨x.term, A21, c22, x.cmd⟩).flatMap EntP.cells ++ rest6)) (by kernel_rfl) (by kernel_rfl) H18 (storeC1 (by kernel_rfl) rfl (by have := (List.getElem?_eq_some_iff.1 (flat_at2 (rest := rest6) hx).2).1; exact this) (flat_set2 A21 c22 hx)) (d := none) (by kernel_rfl) rfl (fun w28 H29 K30 => ?_)
   clear H18
   replace K17 := K17.trans K30 (U := none_) (fun i h1 h2 => h2) (fun i h1 h2 => by have h2 : i = G4 := h2; exfalso; omega)
   replace hM := EntsMine.keep hM K30 (fun i h1 h2 hs => h2 (by have hs : i = G4 := hs; subst hs; rfl))
   replace O26 := own_keep O26 K30 (fun i hi => by have := ob27 i hi; omega)
   clear K30
   refine od ?_
   refine qg ?_
   refine og 1 [(0, (Value.slice (some ⟨G4, 0, none⟩) l0.length cap5)), (2, (Value.slice none 0 0)), (7, (i64 ((l0.length : Nat) : Int))), (8, (i64 ((i : Nat) : Int))), (21, (i64 (IntKind.i64.wrap (((i : Nat) : Int) + 1))))] 1 ?_
   have e31 : IntKind.i64.wrap (((i : Nat) : Int) + 1) = ((i + 1 : Nat) : Int) := by rw [wrap_i64 (by omega) (by omega)]; omega
   rw [e31]
   clear e31
   refine og 1 [(0, (Value.slice (some ⟨G4, 0, none⟩) l0.length cap5)), (2, (Value.slice none 0 0)), (7, (i64 ((l0.length : Nat) : Int))), (8, (i64 ((i + 1 : Nat) : Int)))] 2 ?_
   refine Ops.keep (R := [(0, (Value.slice (some ⟨G4, 0, none⟩) l0.length cap5)), (2, (Value.slice none 0 0)), (7, (i64 ((l0.length : Nat) : Int))), (8, (i64 ((i + 1 : Nat) : Int)))]) (by kernel_rfl) ?_
   refine od ?_
   exact ⟨(i + 1, (l.set i ⟨x.term, A21, c22, x.cmd⟩)), ⟨rfl, (by rw [List.length_set]; exact hln), (by rw [key_set A21 c22 hx]; exact hK), (by rw [List.length_append, flat_len EntP.two, List.length_set, hln]; rw [List.length_append, flat_len EntP.two] at hc11; exact hc11), (by rw [take_set_succ hx]; exact EntsMine.snoc hM O26 fun gg o s hA => by have hA : A21 = some ⟨gg, o, s⟩ := hA; have := World.ownsRow.lt O26 gg (by rw [hA]; rfl); exact ⟨this.1, this.2, fun q => by have := ob27 gg (by rw [hA]; rfl); simp [Value.ownBlock] at q; omega⟩), (by rw [drop_set_succ]; have q := congrArg (List.drop 1) hD; simpa [List.drop_drop] using q), (by omega), K17, H29⟩, (show l0.length - (i + 1) < l0.length - i from by omega)⟩
  ·rw [h19]
   have p32 : ¬ (((i : Nat) : Int) < ((l0.length : Nat) : Int)) := of_decide_eq_false h19
   refine q_exit (id := 0) (by kernel_rfl) ?_
   refine qs ?_
   refine qg ?_
   refine og 2 [(2, (Value.slice (some ⟨G4, 0, none⟩) l0.length cap5))] 2 ?_
   refine od ?_
   refine q_ret (by kernel_rfl) ?_
   refine ⟨(Value.slice (some ⟨G4, 0, none⟩) l0.length cap5), retv_tmp rfl rfl, ?_⟩
   have hMl : EntsMine 5 w16 w.heap.size (.slice (some ⟨G4, 0, none⟩) l.length cap5) l := by rw [List.take_of_length_le (by omega)] at hM; rw [hln]; exact hM
   exact ⟨l, some ⟨G4, 0, none⟩, cap5, by rw [hln], K17, Ents.mine nG4 H18 (by omega) hc10 hR hMl, hK⟩
end Go.Proofs.Ytnmpepjikfbpdaa
namespace Go.Proofs.Ytnmpepjikfbpdaa
open Go.Q Go.RowKit

theorem rising_calls (w : World) (T : Nat → Prop) (t0 : Int) (A : Option Addr) (c : Nat) (l : List EntP) (hE : Ents w T (.slice A l.length c) l) : Calls Try.prog 32 ⟨[(i64 t0), (Value.slice A l.length c)]⟩ w (fun e w' => e = .returned (.bool (risingK t0 (l.map EntP.key))) ∧ Keeps none_ w w') := by
 have hcap := Ents.len hE
 have hcm := hcap.2.2
 unfold maxLen at hcm
 have K0 : Keeps none_ w w := Keeps.refl w
 refine q_calls Try.func32 (by kernel_rfl) (by kernel_rfl) ?_
 refine qs ?_
 refine qg ?_
 refine og 1 [(0, (i64 t0)), (1, (Value.slice A l.length c)), (4, (Value.bool false))] 1 ?_
 refine od ?_
 refine qs ?_
 refine qs ?_
 refine qg ?_
 refine og 3 [(0, (i64 t0)), (4, (Value.bool false)), (7, (Value.slice A l.length c)), (8, (i64 ((l.length : Nat) : Int))), (9, (i64 0))] 3 ?_
 refine od ?_
 refine q_block (id := 0) (by kernel_rfl) ?_
 refine q_keep (R := [(0, (i64 t0)), (7, (Value.slice A l.length c)), (8, (i64 ((l.length : Nat) : Int))), (9, (i64 0))]) (by kernel_rfl) ?_
 refine q_loop (fun (gs : Nat × Int) L (wx : World) => match gs with | (i, t) => L = [(0, (i64 t)), (7, (Value.slice A l.length c)), (8, (i64 ((l.length : Nat) : Int))), (9, (i64 ((i : Nat) : Int)))] ∧ risingK t ((l.map EntP.key).drop i) = risingK t0 (l.map EntP.key) ∧ i ≤ l.length ∧ Ents wx T (.slice A l.length c) l ∧ Keeps none_ w wx) (fun (gs : Nat × Int) => match gs with | (i, t) => l.length - i) (0, t0) (by kernel_rfl) ⟨rfl, rfl, Nat.zero_le _, hE, K0⟩ ?_
 clear hE K0
 rintro ⟨i, t⟩ _ w1 ⟨rfl, hR, hi, hE, K2⟩
 refine qs ?_
 refine qg ?_
 refine og 1 [(0, (i64 t)), (7, (Value.slice A l.length c)), (8, (i64 ((l.length : Nat) : Int))), (9, (i64 ((i : Nat) : Int))), (10, (Value.bool (decide (((i : Nat) : Int) < ((l.length : Nat) : Int)))))] 1 ?_
 refine od ?_
 refine qs ?_
 refine q_cond (o := .tmp 10) (b := (decide (((i : Nat) : Int) < ((l.length : Nat) : Int)))) (by kernel_rfl) rfl (fun h3 => ?_) (fun h3 => ?_)
 ·rw [h3]
  have p4 : ((i : Nat) : Int) < ((l.length : Nat) : Int) := of_decide_eq_true h3
  refine q_skip (by kernel_rfl) ?_
  refine qs ?_
  refine q_block (id := 1) (by kernel_rfl) ?_
  refine qs ?_
  refine qg ?_
  obtain ⟨x, hx⟩ : ∃ y, l[i]? = some y := ⟨_, List.getElem?_eq_getElem (by omega)⟩
  have hRd := risingK_drop (t := t) (ekey_at hx)
  obtain ⟨rb5, ro6, hA7⟩ := Rd.addr (Ents.rd hE) (by omega)
  refine Ops.go (by kernel_rfl) (Runs.ixSliceE (k := IntKind.i64) (t := 22) (len := l.length) (cap := c) (s := 2) (off' := ro6 + i * 2) (i := ((i : Nat) : Int)) hA7 (by kernel_rfl) (by kernel_rfl) (by omega) (by omega) (by omega)) (d := (some 11)) (by kernel_rfl) rfl ?_
  refine Ops.go (v := (agg [(i64 x.term), (Value.slice x.A x.cmd.length x.c)])) (by kernel_rfl) (Runs.load (t := 43) (a := ⟨rb5, ro6 + i * 2, none⟩) (by kernel_rfl) (RdT.ld (f := EntP.cells) (x := x) EntP.two (Ents.rd hE) (by kernel_rfl) (by kernel_rfl) hA7 hx)) (d := (some 12)) (by kernel_rfl) rfl ?_
  refine Ops.new (o := rowL [(i64 0), (Value.slice none 0 0)] 43) (V := fun b => (ptr b)) (by kernel_rfl) (d := (some 6)) (by kernel_rfl) (fun b => rfl) (fun b8 w9 hb10 H11 K12 hs13 => ?_)
  have nb8 : w.heap.size ≤ b8 := by have := K2.size; omega
  have ot14 : ∀ i, T i → i ≠ b8 := fun i hi => by have := Ents.lt hE i hi; omega
  replace K2 := K2.trans K12 (U := none_) (fun i h1 h2 => h2) (fun i h1 h2 => by exact h2)
  replace hE := Ents.keep0 hE K12
  clear K12 hs13
  refine Ops.put (t := 43) (b := b8) (off := 0) (v := (agg [(i64 x.term), (Value.slice x.A x.cmd.length x.c)])) (ys := [(i64 x.term), (Value.slice x.A x.cmd.length x.c)]) (by kernel_rfl) (by kernel_rfl) H11 (by kernel_rfl) (d := none) (by kernel_rfl) rfl (fun w15 H16 K17 => ?_)
  clear H11
  replace K2 := K2.trans K17 (U := none_) (fun i h1 h2 => h2) (fun i h1 h2 => by have h2 : i = b8 := h2; exfalso; omega)
  replace hE := Ents.keep hE K17 ot14
  clear K17
  refine od ?_
  refine qs ?_
  refine qs ?_
  refine qg ?_
  refine og 1 [(0, (i64 t)), (6, (ptr b8)), (7, (Value.slice A l.length c)), (8, (i64 ((l.length : Nat) : Int))), (9, (i64 ((i : Nat) : Int))), (13, (ptr b8))] 1 ?_
  refine Ops.go (v := (i64 x.term)) (by kernel_rfl) (Runs.load (t := 2) (a := ⟨b8, 0, none⟩) (by kernel_rfl) (H16.loads (by kernel_rfl))) (d := (some 14)) (by kernel_rfl) rfl ?_
  refine og 2 [(0, (i64 t)), (6, (ptr b8)), (7, (Value.slice A l.length c)), (8, (i64 ((l.length : Nat) : Int))), (9, (i64 ((i : Nat) : Int))), (14, (i64 x.term)), (16, (i64 (if (1 : Int) > t then (1 : Int) else t)))] 4 ?_
  have e18 : (if (1 : Int) > t then (1 : Int) else t) = max t 1 := by split <;> omega
  rw [e18]
  clear e18
  refine og 2 [(0, (i64 t)), (6, (ptr b8)), (7, (Value.slice A l.length c)), (8, (i64 ((l.length : Nat) : Int))), (9, (i64 ((i : Nat) : Int))), (18, (Value.bool (decide (x.term < max t 1))))] 6 ?_
  refine Ops.split (decide (x.term < max t 1)) (fun h19 => ?_) (fun h19 => ?_)
  ·rw [h19]
   have p20 : x.term < max t 1 := of_decide_eq_true h19
   refine og 4 [(0, (i64 t)), (6, (ptr b8)), (7, (Value.slice A l.length c)), (8, (i64 ((l.length : Nat) : Int))), (9, (i64 ((i : Nat) : Int))), (22, (Value.bool true))] 10 ?_
   refine od ?_
   refine q_then (o := .tmp 22) (by kernel_rfl) rfl ?_
   refine qs ?_
   refine qg ?_
   refine og 1 [(0, (i64 t)), (4, (Value.bool false)), (6, (ptr b8)), (7, (Value.slice A l.length c)), (8, (i64 ((l.length : Nat) : Int))), (9, (i64 ((i : Nat) : Int)))] 1 ?_
   refine od ?_
   refine q_ret (by kernel_rfl) ?_
   refine ⟨(Value.bool false), retv_tmp rfl rfl, ?_⟩
   have e : risingK t0 (l.map EntP.key) = false := by rw [← hR, hRd, if_pos (by omega)]
   exact ⟨by rw [e], K2⟩
  ·rw [h19]
   have p21 : ¬ (x.term < max t 1) := of_decide_eq_false h19
   refine og 1 [(0, (i64 t)), (6, (ptr b8)), (7, (Value.slice A l.length c)), (8, (i64 ((l.length : Nat) : Int))), (9, (i64 ((i : Nat) : Int))), (18, (Value.bool false)), (19, (ptr b8))] 7 ?_
   refine Ops.go (v := (i64 x.term)) (by kernel_rfl) (Runs.load (t := 2) (a := ⟨b8, 0, none⟩) (by kernel_rfl) (H16.loads (by kernel_rfl))) (d := (some 20)) (by kernel_rfl) rfl ?_
   refine og 2 [(0, (i64 t)), (6, (ptr b8)), (7, (Value.slice A l.length c)), (8, (i64 ((l.length : Nat) : Int))), (9, (i64 ((i : Nat) : Int))), (22, (Value.bool (decide (x.term > 1152921504606846976))))] 10 ?_
   refine od ?_
   refine q_cond (o := .tmp 22) (b := (decide (x.term > 1152921504606846976))) (by kernel_rfl) rfl (fun h22 => ?_) (fun h22 => ?_)
   ·rw [h22]
    have p23 : x.term > 1152921504606846976 := of_decide_eq_true h22
    refine qs ?_
    refine qg ?_
    refine og 1 [(0, (i64 t)), (4, (Value.bool false)), (6, (ptr b8)), (7, (Value.slice A l.length c)), (8, (i64 ((l.length : Nat) : Int))), (9, (i64 ((i : Nat) : Int)))] 1 ?_
    refine od ?_
    refine q_ret (by kernel_rfl) ?_
    refine ⟨(Value.bool false), retv_tmp rfl rfl, ?_⟩
    have e : risingK t0 (l.map EntP.key) = false := by rw [← hR, hRd, if_pos (by omega)]
    exact ⟨by rw [e], K2⟩
   ·rw [h22]
    have p24 : ¬ (x.term > 1152921504606846976) := of_decide_eq_false h22
    refine q_skip (by kernel_rfl) ?_
    refine qg ?_
    refine og 1 [(0, (i64 t)), (7, (Value.slice A l.length c)), (8, (i64 ((l.length : Nat) : Int))), (9, (i64 ((i : Nat) : Int))), (23, (ptr b8))] 1 ?_
    refine Ops.go (v := (i64 x.term)) (by kernel_rfl) (Runs.load (t := 2) (a := ⟨b8, 0, none⟩) (by kernel_rfl) (H16.loads (by kernel_rfl))) (d := (some 24)) (by kernel_rfl) rfl ?_
    refine og 1 [(0, (i64 x.term)), (7, (Value.slice A l.length c)), (8, (i64 ((l.length : Nat) : Int))), (9, (i64 ((i : Nat) : Int)))] 3 ?_
    refine od ?_
    refine qg ?_
    refine og 1 [(0, (i64 x.term)), (7, (Value.slice A l.length c)), (8, (i64 ((l.length : Nat) : Int))), (9, (i64 ((i : Nat) : Int))), (25, (i64 (IntKind.i64.wrap (((i : Nat) : Int) + 1))))] 1 ?_
    have e25 : IntKind.i64.wrap (((i : Nat) : Int) + 1) = ((i + 1 : Nat) : Int) := by rw [wrap_i64 (by omega) (by omega)]; omega
    rw [e25]
    clear e25
    refine og 1 [(0, (i64 x.term)), (7, (Value.slice A l.length c)), (8, (i64 ((l.length : Nat) : Int))), (9, (i64 ((i + 1 : Nat) : Int)))] 2 ?_
    refine Ops.keep (R := [(0, (i64 x.term)), (7, (Value.slice A l.length c)), (8, (i64 ((l.length : Nat) : Int))), (9, (i64 ((i + 1 : Nat) : Int)))]) (by kernel_rfl) ?_
    refine od ?_
    exact ⟨(i + 1, x.term), ⟨rfl, (by rw [← hR, hRd, if_neg (by omega)]), (by omega), hE, K2⟩, (show l.length - (i + 1) < l.length - i from by omega)⟩
 ·rw [h3]
  have p26 : ¬ (((i : Nat) : Int) < ((l.length : Nat) : Int)) := of_decide_eq_false h3
  refine q_exit (id := 0) (by kernel_rfl) ?_
  refine qs ?_
  refine qg ?_
  refine og 1 [(4, (Value.bool true))] 1 ?_
  refine od ?_
  refine q_ret (by kernel_rfl) ?_
  refine ⟨(Value.bool true), retv_tmp rfl rfl, ?_⟩
  have e : risingK t0 (l.map EntP.key) = true := by rw [List.drop_of_length_le (by rw [List.length_map]; omega)] at hR; exact hR.symm
  exact ⟨by rw [e], K2⟩

theorem gone_calls (w : World) (n : Int)  : Calls Try.prog 114 ⟨[(agg [(i64 n)])]⟩ w (fun e w' => e = .returned (i64 n) ∧ Keeps none_ w w') := by
 have K0 : Keeps none_ w w := Keeps.refl w
 refine q_calls Try.func114 (by kernel_rfl) (by kernel_rfl) ?_
 refine qs ?_
 refine qg ?_
 refine Ops.new (o := rowL [(i64 n)] 121) (V := fun b => (ptr b)) (by kernel_rfl) (d := (some 1)) (by kernel_rfl) (fun b => rfl) (fun b1 w2 hb3 H4 K5 hs6 => ?_)
 have nb1 : w.heap.size ≤ b1 := by have := K0.size; omega
 replace K0 := K0.t0 K5
 clear K5 hs6
 refine og 1 [(1, (ptr b1)), (2, (i64 0))] 2 ?_
 refine od ?_
 refine qs ?_
 refine qg ?_
 refine og 1 [(2, (i64 0)), (3, (ptr b1))] 1 ?_
 refine Ops.go (v := (i64 n)) (by kernel_rfl) (Runs.load (t := 2) (a := ⟨b1, 0, none⟩) (by kernel_rfl) (H4.loads (by kernel_rfl))) (d := (some 4)) (by kernel_rfl) rfl ?_
 refine og 1 [(2, (i64 n))] 3 ?_
 refine od ?_
 refine q_ret (by kernel_rfl) ?_
 refine ⟨(i64 n), retv_tmp rfl rfl, ?_⟩
 exact ⟨rfl, K0⟩

theorem here_calls (w : World) (x : EntP)  : Calls Try.prog 107 ⟨[(agg [(i64 x.term), (Value.slice x.A x.cmd.length x.c)])]⟩ w (fun e w' => e = .returned (i64 x.term) ∧ Keeps none_ w w') := by
 have K0 : Keeps none_ w w := Keeps.refl w
 refine q_calls Try.func107 (by kernel_rfl) (by kernel_rfl) ?_
 refine qs ?_
 refine qg ?_
 refine Ops.new (o := rowL [(i64 x.term), (Value.slice x.A x.cmd.length x.c)] 88) (V := fun b => (ptr b)) (by kernel_rfl) (d := (some 1)) (by kernel_rfl) (fun b => rfl) (fun b1 w2 hb3 H4 K5 hs6 => ?_)
 have nb1 : w.heap.size ≤ b1 := by have := K0.size; omega
 replace K0 := K0.t0 K5
 clear K5 hs6
 refine og 1 [(1, (ptr b1)), (2, (i64 0))] 2 ?_
 refine od ?_
 refine qs ?_
 refine qg ?_
 refine og 2 [(2, (i64 0)), (4, (ptr b1))] 2 ?_
 refine Ops.go (v := (i64 x.term)) (by kernel_rfl) (Runs.load (t := 2) (a := ⟨b1, 0, none⟩) (by kernel_rfl) (H4.loads (by kernel_rfl))) (d := (some 5)) (by kernel_rfl) rfl ?_
 refine og 1 [(2, (i64 x.term))] 4 ?_
 refine od ?_
 refine q_ret (by kernel_rfl) ?_
 refine ⟨(i64 x.term), retv_tmp rfl rfl, ?_⟩
 exact ⟨rfl, K0⟩

theorem at_low (w : World) (T : Nat → Prop) (g : Nat) (base old : Int) (A : Option Addr) (c : Nat) (l : List EntP) (n : Int) (H0 : Has w g (rowL [i64 base, i64 old, .slice A l.length c] 78)) (hE : Ents w T (.slice A l.length c) l) (hT : ∀ i, T i → i ≠ g) (hB : 0 ≤ base ∧ base ≤ 2305843009213693952) (hL : l.length ≤ 4096) (hq : n < base) : Calls Try.prog 43 ⟨[(ptr g), (i64 n)]⟩ w (fun e w' => e = .returned (Value.nilIface) ∧ Keeps none_ w w') := by
 have hcap := Ents.len hE
 have Hg := H0.lt
 have K0 : Keeps none_ w w := Keeps.refl w
 refine q_calls Try.func43 (by kernel_rfl) (by kernel_rfl) ?_
 refine qs ?_
 refine qg ?_
 refine og 1 [(0, (ptr g)), (1, (i64 n)), (4, Value.nilIface)] 1 ?_
 refine od ?_
 refine qs ?_
 refine qg ?_
 refine og 4 [(0, (ptr g)), (1, (i64 n)), (4, Value.nilIface), (6, (i64 n)), (9, (ptr g))] 4 ?_
 refine Ops.go (v := (i64 base)) (by kernel_rfl) (Runs.load (t := 2) (a := ⟨g, 0, none⟩) (by kernel_rfl) (H0.loads (by kernel_rfl))) (d := (some 10)) (by kernel_rfl) rfl ?_
 refine og 1 [(0, (ptr g)), (1, (i64 n)), (4, Value.nilIface), (11, (i64 (IntKind.i64.wrap (n - base))))] 6 ?_
 refine og 1 [(0, (ptr g)), (1, (i64 n)), (4, Value.nilIface), (5, (i64 (IntKind.i64.wrap (n - base))))] 7 ?_
 refine od ?_
 refine q_block (id := 0) (by kernel_rfl) ?_
 refine qs ?_
 refine qg ?_
 refine og 4 [(0, (ptr g)), (4, Value.nilIface), (5, (i64 (IntKind.i64.wrap (n - base)))), (23, (i64 n)), (26, (ptr g))] 4 ?_
 refine Ops.go (v := (i64 base)) (by kernel_rfl) (Runs.load (t := 2) (a := ⟨g, 0, none⟩) (by kernel_rfl) (H0.loads (by kernel_rfl))) (d := (some 27)) (by kernel_rfl) rfl ?_
 refine og 2 [(0, (ptr g)), (4, Value.nilIface), (5, (i64 (IntKind.i64.wrap (n - base)))), (29, (Value.bool (decide (n < base))))] 7 ?_
 have h1 : (decide (n < base)) = true := decide_eq_true (by omega)
 rw [h1]
 refine og 9 [(0, (ptr g)), (4, Value.nilIface), (5, (i64 (IntKind.i64.wrap (n - base)))), (22, (Value.bool true))] 16 ?_
 refine od ?_
 refine q_then (o := .tmp 22) (by kernel_rfl) rfl ?_
 refine qs ?_
 refine qg ?_
 refine og 1 [(0, (ptr g)), (4, Value.nilIface), (5, (i64 (IntKind.i64.wrap (n - base))))] 1 ?_
 refine od ?_
 refine q_ret (by kernel_rfl) ?_
 refine ⟨Value.nilIface, retv_tmp rfl rfl, ?_⟩
 exact ⟨rfl, K0⟩

theorem at_high (w : World) (T : Nat → Prop) (g : Nat) (base old : Int) (A : Option Addr) (c : Nat) (l : List EntP) (n : Int) (H0 : Has w g (rowL [i64 base, i64 old, .slice A l.length c] 78)) (hE : Ents w T (.slice A l.length c) l) (hT : ∀ i, T i → i ≠ g) (hB : 0 ≤ base ∧ base ≤ 2305843009213693952) (hL : l.length ≤ 4096) (hn : -9223372036854775808 ≤ n ∧ n ≤ 9223372036854775807) (hq : base + (l.length : Int) < n) : Calls Try.prog 43 ⟨[(ptr g), (i64 n)]⟩ w (fun e w' => e = .returned (Value.nilIface) ∧ Keeps none_ w w') := by
 have hcap := Ents.len hE
 have Hg := H0.lt
 have K0 : Keeps none_ w w := Keeps.refl w
 refine q_calls Try.func43 (by kernel_rfl) (by kernel_rfl) ?_
 refine qs ?_
 refine qg ?_
 refine og 1 [(0, (ptr g)), (1, (i64 n)), (4, Value.nilIface)] 1 ?_
 refine od ?_
 refine qs ?_
 refine qg ?_
 refine og 4 [(0, (ptr g)), (1, (i64 n)), (4, Value.nilIface), (6, (i64 n)), (9, (ptr g))] 4 ?_
 refine Ops.go (v := (i64 base)) (by kernel_rfl) (Runs.load (t := 2) (a := ⟨g, 0, none⟩) (by kernel_rfl) (H0.loads (by kernel_rfl))) (d := (some 10)) (by kernel_rfl) rfl ?_
 refine og 1 [(0, (ptr g)), (1, (i64 n)), (4, Value.nilIface), (11, (i64 (IntKind.i64.wrap (n - base))))] 6 ?_
 have e1 : IntKind.i64.wrap (n - base) = n - base := wrap_i64 (by omega) (by omega)
 rw [e1]
 refine og 1 [(0, (ptr g)), (1, (i64 n)), (4, Value.nilIface), (5, (i64 (n - base)))] 7 ?_
 refine od ?_
 refine q_block (id := 0) (by kernel_rfl) ?_
 refine qs ?_
 refine qg ?_
 refine og 4 [(0, (ptr g)), (4, Value.nilIface), (5, (i64 (n - base))), (23, (i64 n)), (26, (ptr g))] 4 ?_
 refine Ops.go (v := (i64 base)) (by kernel_rfl) (Runs.load (t := 2) (a := ⟨g, 0, none⟩) (by kernel_rfl) (H0.loads (by kernel_rfl))) (d := (some 27)) (by kernel_rfl) rfl ?_
 refine og 2 [(0, (ptr g)), (4, Value.nilIface), (5, (i64 (n - base))), (29, (Value.bool (decide (n < base))))] 7 ?_
 have h2 : (decide (n < base)) = false := decide_eq_false (by omega)
 rw [h2]
 refine og 4 [(0, (ptr g)), (4, Value.nilIface), (5, (i64 (n - base))), (29, (Value.bool false)), (30, (i64 (n - base))), (33, (Value.pointer (some ⟨g, 2, none⟩)))] 11 ?_
 refine Ops.go (v := (Value.slice A l.length c)) (by kernel_rfl) (Runs.load (t := 22) (a := ⟨g, 2, none⟩) (by kernel_rfl) (H0.loads (by kernel_rfl))) (d := (some 34)) (by kernel_rfl) rfl ?_
 refine og 4 [(0, (ptr g)), (4, Value.nilIface), (5, (i64 (n - base))), (22, (Value.bool (decide (n - base > ((l.length : Nat) : Int)))))] 16 ?_
 refine od ?_
 have h3 : (decide (n - base > ((l.length : Nat) : Int))) = true := decide_eq_true (by omega)
 rw [h3]
 refine q_then (o := .tmp 22) (by kernel_rfl) rfl ?_
 refine qs ?_
 refine qg ?_
 refine og 1 [(0, (ptr g)), (4, Value.nilIface), (5, (i64 (n - base)))] 1 ?_
 refine od ?_
 refine q_ret (by kernel_rfl) ?_
 refine ⟨Value.nilIface, retv_tmp rfl rfl, ?_⟩
 exact ⟨rfl, K0⟩

theorem at_gone (w : World) (T : Nat → Prop) (g : Nat) (base old : Int) (A : Option Addr) (c : Nat) (l : List EntP) (n : Int) (H0 : Has w g (rowL [i64 base, i64 old, .slice A l.length c] 78)) (hE : Ents w T (.slice A l.length c) l) (hT : ∀ i, T i → i ≠ g) (hB : 0 ≤ base ∧ base ≤ 2305843009213693952) (hL : l.length ≤ 4096) (hq : n = base) : Calls Try.prog 43 ⟨[(ptr g), (i64 n)]⟩ w (fun e w' => e = .returned (.iface 121 (agg [i64 old])) ∧ Keeps none_ w w') := by
 have hcap := Ents.len hE
 have Hg := H0.lt
 have K0 : Keeps none_ w w := Keeps.refl w
 have hq := hq.symm
 subst hq
 refine q_calls Try.func43 (by kernel_rfl) (by kernel_rfl) ?_
 refine qs ?_
 refine qg ?_
 refine og 1 [(0, (ptr g)), (1, (i64 base)), (4, Value.nilIface)] 1 ?_
 refine od ?_
 refine qs ?_
 refine qg ?_
 refine og 4 [(0, (ptr g)), (1, (i64 base)), (4, Value.nilIface), (6, (i64 base)), (9, (ptr g))] 4 ?_
 refine Ops.go (v := (i64 base)) (by kernel_rfl) (Runs.load (t := 2) (a := ⟨g, 0, none⟩) (by kernel_rfl) (H0.loads (by kernel_rfl))) (d := (some 10)) (by kernel_rfl) rfl ?_
 refine og 1 [(0, (ptr g)), (1, (i64 base)), (4, Value.nilIface), (11, (i64 (IntKind.i64.wrap (base - base))))] 6 ?_
 have e1 : IntKind.i64.wrap (base - base) = 0 := by rw [wrap_i64 (by omega) (by omega)]; omega
 rw [e1]
 refine og 1 [(0, (ptr g)), (1, (i64 base)), (4, Value.nilIface), (5, (i64 0))] 7 ?_
 refine od ?_
 refine q_block (id := 0) (by kernel_rfl) ?_
 refine qs ?_
 refine qg ?_
 refine og 4 [(0, (ptr g)), (4, Value.nilIface), (5, (i64 0)), (23, (i64 base)), (26, (ptr g))] 4 ?_
 refine Ops.go (v := (i64 base)) (by kernel_rfl) (Runs.load (t := 2) (a := ⟨g, 0, none⟩) (by kernel_rfl) (H0.loads (by kernel_rfl))) (d := (some 27)) (by kernel_rfl) rfl ?_
 refine og 2 [(0, (ptr g)), (4, Value.nilIface), (5, (i64 0)), (29, (Value.bool (decide (base < base))))] 7 ?_
 have h2 : (decide (base < base)) = false := decide_eq_false (by omega)
 rw [h2]
 refine og 4 [(0, (ptr g)), (4, Value.nilIface), (5, (i64 0)), (29, (Value.bool false)), (30, (i64 0)), (33, (Value.pointer (some ⟨g, 2, none⟩)))] 11 ?_
 refine Ops.go (v := (Value.slice A l.length c)) (by kernel_rfl) (Runs.load (t := 22) (a := ⟨g, 2, none⟩) (by kernel_rfl) (H0.loads (by kernel_rfl))) (d := (some 34)) (by kernel_rfl) rfl ?_
 refine og 4 [(0, (ptr g)), (4, Value.nilIface), (5, (i64 0)), (22, (Value.bool (decide (0 > ((l.length : Nat) : Int)))))] 16 ?_
 refine od ?_
 have h3 : (decide (0 > ((l.length : Nat) : Int))) = false := decide_eq_false (by omega)
 rw [h3]
 refine q_else (o := .tmp 22) (by kernel_rfl) rfl ?_
 refine qs ?_
 refine qg ?_
 refine og 3 [(0, (ptr g)), (4, Value.nilIface), (5, (i64 0)), (38, (Value.bool (0 == 0)))] 3 ?_
 refine od ?_
 have h4 : (0 == 0) = true := by simp
 rw [h4]
 refine q_then (o := .tmp 38) (by kernel_rfl) rfl ?_
 refine qs ?_
 refine qg ?_
 refine og 3 [(0, (ptr g)), (4, Value.nilIface), (5, (i64 0)), (43, (Value.pointer (some ⟨g, 1, none⟩)))] 3 ?_
 refine Ops.go (v := (i64 old)) (by kernel_rfl) (Runs.load (t := 2) (a := ⟨g, 1, none⟩) (by kernel_rfl) (H0.loads (by kernel_rfl))) (d := (some 44)) (by kernel_rfl) rfl ?_
 refine og 3 [(0, (ptr g)), (4, (Value.iface 121 (agg [(i64 old)]))), (5, (i64 0))] 7 ?_
 refine od ?_
 refine q_ret (by kernel_rfl) ?_
 refine ⟨(Value.iface 121 (agg [(i64 old)])), retv_tmp rfl rfl, ?_⟩
 exact ⟨rfl, K0⟩

theorem at_here (w : World) (T : Nat → Prop) (g : Nat) (base old : Int) (A : Option Addr) (c : Nat) (l : List EntP) (n : Int) (k : Nat) (x : EntP) (H0 : Has w g (rowL [i64 base, i64 old, .slice A l.length c] 78)) (hE : Ents w T (.slice A l.length c) l) (hT : ∀ i, T i → i ≠ g) (hB : 0 ≤ base ∧ base ≤ 2305843009213693952) (hL : l.length ≤ 4096) (hq : n = base + (k : Int) + 1) (hk : k < l.length) (hx : l[k]? = some x) : Calls Try.prog 43 ⟨[(ptr g), (i64 n)]⟩ w (fun e w' => e = .returned (.iface 88 (agg x.cells)) ∧ Keeps none_ w w') := by
 have hcap := Ents.len hE
 have Hg := H0.lt
 have K0 : Keeps none_ w w := Keeps.refl w
 subst hq
 refine q_calls Try.func43 (by kernel_rfl) (by kernel_rfl) ?_
 refine qs ?_
 refine qg ?_
 refine og 1 [(0, (ptr g)), (1, (i64 (base + (k : Int) + 1))), (4, Value.nilIface)] 1 ?_
 refine od ?_
 refine qs ?_
 refine qg ?_
 refine og 4 [(0, (ptr g)), (1, (i64 (base + (k : Int) + 1))), (4, Value.nilIface), (6, (i64 (base + (k : Int) + 1))), (9, (ptr g))] 4 ?_
 refine Ops.go (v := (i64 base)) (by kernel_rfl) (Runs.load (t := 2) (a := ⟨g, 0, none⟩) (by kernel_rfl) (H0.loads (by kernel_rfl))) (d := (some 10)) (by kernel_rfl) rfl ?_
 refine og 1 [(0, (ptr g)), (1, (i64 (base + (k : Int) + 1))), (4, Value.nilIface), (11, (i64 (IntKind.i64.wrap ((base + (k : Int) + 1) - base))))] 6 ?_
 have e1 : IntKind.i64.wrap ((base + (k : Int) + 1) - base) = ((k + 1 : Nat) : Int) := by rw [wrap_i64 (by omega) (by omega)]; omega
 rw [e1]
 refine og 1 [(0, (ptr g)), (1, (i64 (base + (k : Int) + 1))), (4, Value.nilIface), (5, (i64 ((k + 1 : Nat) : Int)))] 7 ?_
 refine od ?_
 refine q_block (id := 0) (by kernel_rfl) ?_
 refine qs ?_
 refine qg ?_
 refine og 4 [(0, (ptr g)), (4, Value.nilIface), (5, (i64 ((k + 1 : Nat) : Int))), (23, (i64 (base + (k : Int) + 1))), (26, (ptr g))] 4 ?_
 refine Ops.go (v := (i64 base)) (by kernel_rfl) (Runs.load (t := 2) (a := ⟨g, 0, none⟩) (by kernel_rfl) (H0.loads (by kernel_rfl))) (d := (some 27)) (by kernel_rfl) rfl ?_
 refine og 2 [(0, (ptr g)), (4, Value.nilIface), (5, (i64 ((k + 1 : Nat) : Int))), (29, (Value.bool (decide (base + (k : Int) + 1 < base))))] 7 ?_
 have h2 : (decide (base + (k : Int) + 1 < base)) = false := decide_eq_false (by omega)
 rw [h2]
 refine og 4 [(0, (ptr g)), (4, Value.nilIface), (5, (i64 ((k + 1 : Nat) : Int))), (29, (Value.bool false)), (30, (i64 ((k + 1 : Nat) : Int))), (33, (Value.pointer (some ⟨g, 2, none⟩)))] 11 ?_
 refine Ops.go (v := (Value.slice A l.length c)) (by kernel_rfl) (Runs.load (t := 22) (a := ⟨g, 2, none⟩) (by kernel_rfl) (H0.loads (by kernel_rfl))) (d := (some 34)) (by kernel_rfl) rfl ?_
 refine og 4 [(0, (ptr g)), (4, Value.nilIface), (5, (i64 ((k + 1 : Nat) : Int))), (22, (Value.bool (decide (((k + 1 : Nat) : Int) > ((l.length : Nat) : Int)))))] 16 ?_
 refine od ?_
 have h3 : (decide (((k + 1 : Nat) : Int) > ((l.length : Nat) : Int))) = false := decide_eq_false (by omega)
 rw [h3]
 refine q_else (o := .tmp 22) (by kernel_rfl) rfl ?_
 refine qs ?_
 refine qg ?_
 refine og 3 [(0, (ptr g)), (4, Value.nilIface), (5, (i64 ((k + 1 : Nat) : Int))), (38, (Value.bool (((k + 1 : Nat) : Int) == 0)))] 3 ?_
 refine od ?_
 have h4 : (((k + 1 : Nat) : Int) == 0) = false := beq_f (by omega)
 rw [h4]
 refine q_else (o := .tmp 38) (by kernel_rfl) rfl ?_
 refine qs ?_
 refine qg ?_
 refine og 3 [(4, Value.nilIface), (5, (i64 ((k + 1 : Nat) : Int))), (14, (Value.pointer (some ⟨g, 2, none⟩)))] 3 ?_
 refine Ops.go (v := (Value.slice A l.length c)) (by kernel_rfl) (Runs.load (t := 22) (a := ⟨g, 2, none⟩) (by kernel_rfl) (H0.loads (by kernel_rfl))) (d := (some 15)) (by kernel_rfl) rfl ?_
 refine og 2 [(4, Value.nilIface), (15, (Value.slice A l.length c)), (17, (i64 (IntKind.i64.wrap (((k + 1 : Nat) : Int) - 1))))] 6 ?_
 have e5 : IntKind.i64.wrap (((k + 1 : Nat) : Int) - 1) = ((k : Nat) : Int) := by rw [wrap_i64 (by omega) (by omega)]; omega
 rw [e5]
 obtain ⟨rb6, ro7, hA8⟩ := Rd.addr (Ents.rd hE) (by omega)
 refine Ops.go (by kernel_rfl) (Runs.ixSliceE (k := IntKind.i64) (t := 22) (len := l.length) (cap := c) (s := 2) (off' := ro7 + k * 2) (i := ((k : Nat) : Int)) hA8 (by kernel_rfl) (by kernel_rfl) (by omega) (by omega) (by omega)) (d := (some 18)) (by kernel_rfl) rfl ?_
 refine Ops.go (v := (agg [(i64 x.term), (Value.slice x.A x.cmd.length x.c)])) (by kernel_rfl) (Runs.load (t := 43) (a := ⟨rb6, ro7 + k * 2, none⟩) (by kernel_rfl) (RdT.ld (f := EntP.cells) (x := x) EntP.two (Ents.rd hE) (by kernel_rfl) (by kernel_rfl) hA8 hx)) (d := (some 19)) (by kernel_rfl) rfl ?_
 refine og 3 [(4, (Value.iface 88 (agg [(i64 x.term), (Value.slice x.A x.cmd.length x.c)])))] 11 ?_
 refine od ?_
 refine q_ret (by kernel_rfl) ?_
 refine ⟨(Value.iface 88 (agg [(i64 x.term), (Value.slice x.A x.cmd.length x.c)])), retv_tmp rfl rfl, ?_⟩
 exact ⟨rfl, K0⟩
end Go.Proofs.Ytnmpepjikfbpdaa
namespace Go.Proofs.Ytnmpepjikfbpdaa
open Go.Q Go.RowKit

theorem Last_calls (w : World) (T : Nat → Prop) (g : Nat) (base old : Int) (A : Option Addr) (c : Nat) (l : List EntP) (H0 : Has w g (rowL [i64 base, i64 old, .slice A l.length c] 78)) (hE : Ents w T (.slice A l.length c) l) (hT : ∀ i, T i → i ≠ g) (hB : 0 ≤ base ∧ base ≤ 2305843009213693952) (hL : l.length ≤ 4096) : Calls Try.prog 23 ⟨[(ptr g)]⟩ w (fun e w' => e = .returned (.tuple #[i64 (base + ((l.length : Nat) : Int)), i64 (lastK base old (l.map EntP.key))]) ∧ Keeps none_ w w') := by
 have hcap := Ents.len hE
 have Hg := H0.lt
 have hcm := hcap.2.2
 unfold maxLen at hcm
 have K0 : Keeps none_ w w := Keeps.refl w
 refine q_calls Try.func23 (by kernel_rfl) (by kernel_rfl) ?_
 refine qs ?_
 refine qg ?_
 refine og 2 [(0, (ptr g)), (2, (i64 0)), (3, (i64 0))] 2 ?_
 refine od ?_
 refine qs ?_
 refine qs ?_
 refine qg ?_
 refine og 2 [(0, (ptr g)), (2, (i64 0)), (3, (i64 0)), (6, (Value.bool false))] 2 ?_
 refine od ?_
 refine q_else (o := .tmp 6) (by kernel_rfl) rfl ?_
 refine q_skip (by kernel_rfl) ?_
 refine qs ?_
 refine q_draw (fun wz => Keeps none_ w wz) 11 (by kernel_rfl) (by kernel_rfl) (by kernel_rfl) (fun w1 K2 _ _ => ⟨K2, ?_⟩)
 replace K0 := K0.t0 K2
 replace H0 := H0.keep K2 (fun h => h)
 replace hE := Ents.keep0 hE K2
 refine Dr.strong (S' := (fun wz => Keeps none_ w1 wz)) (Keeps.refl w1) (fun wz hx => K2.trans hx (fun i _ h => h) (fun _ _ h => h)) ?_
 clear K2
 refine Dr.takes (fuel' := 8) (is' := _) [0, 1, 2] [(0, (ptr g)), (2, (i64 0)), (3, (i64 0)), (9, (ptr g))] (by kernel_rfl) rfl (by kernel_rfl) ?_
 refine Dr.take (i := 3) (v := (i64 base)) (by kernel_rfl) (by kernel_rfl) (fun wz hS => Runs.load (t := 2) (a := ⟨g, 0, none⟩) (by kernel_rfl) ((H0.keep hS (fun h => h)).loads (by kernel_rfl))) (d := (some 10)) (by kernel_rfl) rfl ?_
 refine Dr.takes (fuel' := 4) (is' := _) [4, 5, 6] [(0, (ptr g)), (2, (i64 0)), (3, (i64 0)), (10, (i64 base)), (13, (Value.pointer (some ⟨g, 2, none⟩)))] (by kernel_rfl) rfl (by kernel_rfl) ?_
 refine Dr.take (i := 7) (v := (Value.slice A l.length c)) (by kernel_rfl) (by kernel_rfl) (fun wz hS => Runs.load (t := 22) (a := ⟨g, 2, none⟩) (by kernel_rfl) ((H0.keep hS (fun h => h)).loads (by kernel_rfl))) (d := (some 14)) (by kernel_rfl) rfl ?_
 refine Dr.takes (fuel' := 1) (is' := _) [8, 9] [(0, (ptr g)), (2, (i64 0)), (3, (i64 0)), (16, (i64 (IntKind.i64.wrap (base + ((l.length : Nat) : Int)))))] (by kernel_rfl) rfl (by kernel_rfl) ?_
 have e3 : IntKind.i64.wrap (base + ((l.length : Nat) : Int)) = base + ((l.length : Nat) : Int) := wrap_i64 (by omega) (by omega)
 rw [e3]
 refine Dr.takes (fuel' := 0) (is' := _) [10] [(0, (ptr g)), (2, (i64 0)), (3, (i64 0)), (4, (i64 (base + ((l.length : Nat) : Int))))] (by kernel_rfl) rfl (by kernel_rfl) ?_
 refine Dr.done (by kernel_rfl) ?_
 refine qs ?_
 refine qg ?_
 refine og 3 [(2, (i64 0)), (3, (i64 0)), (17, (i64 (base + ((l.length : Nat) : Int)))), (18, (ptr g)), (19, (i64 (base + ((l.length : Nat) : Int))))] 3 ?_
 rcases at_or base l.length (base + ((l.length : Nat) : Int)) with q4 | q5 | q6 | ⟨k9, q7, q8⟩
 ·exfalso; omega
 ·exfalso; omega
 ·skip
  refine Ops.call (by kernel_rfl) (d := (some 20)) (by kernel_rfl) (at_gone _ T g base old A c l (base + ((l.length : Nat) : Int)) H0 hE hT (by omega) (by omega) q6) ?_
  rintro _ w13 ⟨rfl, K12⟩
  refine ⟨_, _, rfl, rfl, ?_⟩
  replace K0 := K0.t0 K12
  replace H0 := H0.keep K12 (fun h => h)
  replace hE := Ents.keep0 hE K12
  clear K12
  refine Ops.call (by kernel_rfl) (d := (some 21)) (by kernel_rfl) (gone_calls _ old) ?_
  rintro _ w15 ⟨rfl, K14⟩
  refine ⟨_, _, rfl, rfl, ?_⟩
  replace K0 := K0.t0 K14
  replace H0 := H0.keep K14 (fun h => h)
  replace hE := Ents.keep0 hE K14
  clear K14
  refine og 2 [(2, (i64 (base + ((l.length : Nat) : Int)))), (3, (i64 old))] 7 ?_
  refine od ?_
  refine q_ret (by kernel_rfl) ?_
  refine ⟨(Value.tuple #[(i64 (base + ((l.length : Nat) : Int))), (i64 old)]), retv_tmp2 rfl rfl rfl, ?_⟩
  have e : lastK base old (l.map EntP.key) = old := by unfold lastK; rw [List.length_map, q6, termK_base]
  exact ⟨by rw [e], K0⟩
 ·skip
  obtain ⟨x10, hx11⟩ : ∃ y, l[k9]? = some y := ⟨_, List.getElem?_eq_getElem q8⟩
  refine Ops.call (by kernel_rfl) (d := (some 20)) (by kernel_rfl) (at_here _ T g base old A c l (base + ((l.length : Nat) : Int)) k9 x10 H0 hE hT (by omega) (by omega) q7 q8 hx11) ?_
  rintro _ w17 ⟨rfl, K16⟩
  refine ⟨_, _, rfl, rfl, ?_⟩
  replace K0 := K0.t0 K16
  replace H0 := H0.keep K16 (fun h => h)
  replace hE := Ents.keep0 hE K16
  clear K16
  refine Ops.call (by kernel_rfl) (d := (some 21)) (by kernel_rfl) (here_calls _ x10) ?_
  rintro _ w19 ⟨rfl, K18⟩
  refine ⟨_, _, rfl, rfl, ?_⟩
  replace K0 := K0.t0 K18
  replace H0 := H0.keep K18 (fun h => h)
  replace hE := Ents.keep0 hE K18
  clear K18
  refine og 2 [(2, (i64 (base + ((l.length : Nat) : Int)))), (3, (i64 x10.term))] 7 ?_
  refine od ?_
  refine q_ret (by kernel_rfl) ?_
  refine ⟨(Value.tuple #[(i64 (base + ((l.length : Nat) : Int))), (i64 x10.term)]), retv_tmp2 rfl rfl rfl, ?_⟩
  have e : lastK base old (l.map EntP.key) = x10.term := by unfold lastK; rw [List.length_map, q7, termK_at (ekey_at hx11)]
  exact ⟨by rw [e], K0⟩

theorem Term_calls (w : World) (T : Nat → Prop) (g : Nat) (base old : Int) (A : Option Addr) (c : Nat) (l : List EntP) (n : Int) (H0 : Has w g (rowL [i64 base, i64 old, .slice A l.length c] 78)) (hE : Ents w T (.slice A l.length c) l) (hT : ∀ i, T i → i ≠ g) (hB : 0 ≤ base ∧ base ≤ 2305843009213693952) (hL : l.length ≤ 4096) (hn : -9223372036854775808 ≤ n ∧ n ≤ 9223372036854775807) : Calls Try.prog 56 ⟨[(ptr g), (i64 n)]⟩ w (fun e w' => e = .returned (.tuple #[i64 (termK base old (l.map EntP.key) n).1, i64 (termK base old (l.map EntP.key) n).2]) ∧ Keeps none_ w w') := by
 have hcap := Ents.len hE
 have Hg := H0.lt
 have hcm := hcap.2.2
 unfold maxLen at hcm
 have K0 : Keeps none_ w w := Keeps.refl w
 refine q_calls Try.func56 (by kernel_rfl) (by kernel_rfl) ?_
 refine qs ?_
 refine qg ?_
 refine og 2 [(0, (ptr g)), (1, (i64 n)), (4, (i64 0)), (5, (i64 0))] 2 ?_
 refine od ?_
 refine qs ?_
 refine qs ?_
 refine qg ?_
 refine og 2 [(0, (ptr g)), (1, (i64 n)), (4, (i64 0)), (5, (i64 0)), (9, (Value.bool false))] 2 ?_
 refine od ?_
 refine q_else (o := .tmp 9) (by kernel_rfl) rfl ?_
 refine q_skip (by kernel_rfl) ?_
 refine qs ?_
 refine qs ?_
 refine qg ?_
 refine og 2 [(4, (i64 0)), (5, (i64 0)), (10, (ptr g)), (11, (i64 n))] 2 ?_
 rcases at_or base l.length n with q1 | q2 | q3 | ⟨k6, q4, q5⟩
 ·skip
  refine Ops.call (by kernel_rfl) (d := (some 12)) (by kernel_rfl) (at_low _ T g base old A c l n H0 hE hT (by omega) (by omega) q1) ?_
  rintro _ w10 ⟨rfl, K9⟩
  refine ⟨_, _, rfl, rfl, ?_⟩
  replace K0 := K0.t0 K9
  replace H0 := H0.keep K9 (fun h => h)
  replace hE := Ents.keep0 hE K9
  clear K9
  refine od ?_
  refine q_block (id := 0) (by kernel_rfl) ?_
  refine qs ?_
  refine qg ?_
  refine og 3 [(4, (i64 0)), (5, (i64 0)), (12, Value.nilIface), (14, (Value.bool false)), (15, (agg [(i64 0)]))] 3 ?_
  refine od ?_
  refine q_else (o := .tmp 14) (by kernel_rfl) rfl ?_
  refine qs ?_
  refine qg ?_
  refine og 3 [(4, (i64 0)), (5, (i64 0)), (19, (Value.bool false)), (20, (agg [(i64 0), (Value.slice none 0 0)]))] 3 ?_
  refine od ?_
  refine q_else (o := .tmp 19) (by kernel_rfl) rfl ?_
  refine q_skip (by kernel_rfl) ?_
  refine qs ?_
  refine qg ?_
  refine og 2 [(4, (i64 0)), (5, (i64 1))] 2 ?_
  refine od ?_
  refine q_ret (by kernel_rfl) ?_
  refine ⟨(Value.tuple #[(i64 0), (i64 1)]), retv_tmp2 rfl rfl rfl, ?_⟩
  have e : termK base old (l.map EntP.key) n = (0, 1) := by rw [termK_none (by rw [List.length_map]; omega)]
  exact ⟨by rw [e], K0⟩
 ·skip
  refine Ops.call (by kernel_rfl) (d := (some 12)) (by kernel_rfl) (at_high _ T g base old A c l n H0 hE hT (by omega) (by omega) (by omega) q2) ?_
  rintro _ w12 ⟨rfl, K11⟩
  refine ⟨_, _, rfl, rfl, ?_⟩
  replace K0 := K0.t0 K11
  replace H0 := H0.keep K11 (fun h => h)
  replace hE := Ents.keep0 hE K11
  clear K11
  refine od ?_
  refine q_block (id := 0) (by kernel_rfl) ?_
  refine qs ?_
  refine qg ?_
  refine og 3 [(4, (i64 0)), (5, (i64 0)), (12, Value.nilIface), (14, (Value.bool false)), (15, (agg [(i64 0)]))] 3 ?_
  refine od ?_
  refine q_else (o := .tmp 14) (by kernel_rfl) rfl ?_
  refine qs ?_
  refine qg ?_
  refine og 3 [(4, (i64 0)), (5, (i64 0)), (19, (Value.bool false)), (20, (agg [(i64 0), (Value.slice none 0 0)]))] 3 ?_
  refine od ?_
  refine q_else (o := .tmp 19) (by kernel_rfl) rfl ?_
  refine q_skip (by kernel_rfl) ?_
  refine qs ?_
  refine qg ?_
  refine og 2 [(4, (i64 0)), (5, (i64 1))] 2 ?_
  refine od ?_
  refine q_ret (by kernel_rfl) ?_
  refine ⟨(Value.tuple #[(i64 0), (i64 1)]), retv_tmp2 rfl rfl rfl, ?_⟩
  have e : termK base old (l.map EntP.key) n = (0, 1) := by rw [termK_none (by rw [List.length_map]; omega)]
  exact ⟨by rw [e], K0⟩
 ·skip
  refine Ops.call (by kernel_rfl) (d := (some 12)) (by kernel_rfl) (at_gone _ T g base old A c l n H0 hE hT (by omega) (by omega) q3) ?_
  rintro _ w14 ⟨rfl, K13⟩
  refine ⟨_, _, rfl, rfl, ?_⟩
  replace K0 := K0.t0 K13
  replace H0 := H0.keep K13 (fun h => h)
  replace hE := Ents.keep0 hE K13
  clear K13
  refine od ?_
  refine q_block (id := 0) (by kernel_rfl) ?_
  refine qs ?_
  refine qg ?_
  refine og 3 [(4, (i64 0)), (5, (i64 0)), (12, (Value.iface 121 (agg [(i64 old)]))), (14, (Value.bool true)), (15, (agg [(i64 old)]))] 3 ?_
  refine od ?_
  refine q_then (o := .tmp 14) (by kernel_rfl) rfl ?_
  refine qs ?_
  refine qg ?_
  refine Ops.new (o := rowL [(i64 0)] 121) (V := fun b => (ptr b)) (by kernel_rfl) (d := (some 6)) (by kernel_rfl) (fun b => rfl) (fun b15 w16 hb17 H18 K19 hs20 => ?_)
  have lb15 : g < b15 := by have := H0.lt; omega
  have nb15 : w.heap.size ≤ b15 := by have := K0.size; omega
  have ot21 : ∀ i, T i → i ≠ b15 := fun i hi => by have := Ents.lt hE i hi; omega
  replace K0 := K0.t0 K19
  replace H0 := H0.keep K19 (fun h => h)
  replace hE := Ents.keep0 hE K19
  clear K19 hs20
  refine Ops.put (t := 121) (b := b15) (off := 0) (v := (agg [(i64 old)])) (ys := [(i64 old)]) (by kernel_rfl) (by kernel_rfl) H18 (by kernel_rfl) (d := none) (by kernel_rfl) rfl (fun w22 H23 K24 => ?_)
  clear H18
  replace K0 := K0.trans K24 (U := none_) (fun i h1 h2 => h2) (fun i h1 h2 => by have h2 : i = b15 := h2; exfalso; omega)
  replace H0 := H0.k1 K24 (by omega)
  replace hE := Ents.keep hE K24 ot21
  clear K24
  refine od ?_
  refine qs ?_
  refine qg ?_
  refine og 1 [(4, (i64 0)), (5, (i64 0)), (12, (Value.iface 121 (agg [(i64 old)]))), (16, (ptr b15))] 1 ?_
  refine Ops.go (v := (i64 old)) (by kernel_rfl) (Runs.load (t := 2) (a := ⟨b15, 0, none⟩) (by kernel_rfl) (H23.loads (by kernel_rfl))) (d := (some 17)) (by kernel_rfl) rfl ?_
  refine og 2 [(4, (i64 old)), (5, (i64 0)), (12, (Value.iface 121 (agg [(i64 old)])))] 4 ?_
  refine od ?_
  refine q_ret (by kernel_rfl) ?_
  refine ⟨(Value.tuple #[(i64 old), (i64 0)]), retv_tmp2 rfl rfl rfl, ?_⟩
  have e : termK base old (l.map EntP.key) n = (old, 0) := by rw [q3, termK_base]
  exact ⟨by rw [e], K0⟩
 ·skip
  obtain ⟨x7, hx8⟩ : ∃ y, l[k6]? = some y := ⟨_, List.getElem?_eq_getElem q5⟩
  refine Ops.call (by kernel_rfl) (d := (some 12)) (by kernel_rfl) (at_here _ T g base old A c l n k6 x7 H0 hE hT (by omega) (by omega) q4 q5 hx8) ?_
  rintro _ w26 ⟨rfl, K25⟩
  refine ⟨_, _, rfl, rfl, ?_⟩
  replace K0 := K0.t0 K25
  replace H0 := H0.keep K25 (fun h => h)
  replace hE := Ents.keep0 hE K25
  clear K25
  refine od ?_
  refine q_block (id := 0) (by kernel_rfl) ?_
  refine qs ?_
  refine qg ?_
  refine og 3 [(4, (i64 0)), (5, (i64 0)), (12, (Value.iface 88 (agg [(i64 x7.term), (Value.slice x7.A x7.cmd.length x7.c)]))), (14, (Value.bool false)), (15, (agg [(i64 0)]))] 3 ?_
  refine od ?_
  refine q_else (o := .tmp 14) (by kernel_rfl) rfl ?_
  refine qs ?_
  refine qg ?_
  refine og 3 [(4, (i64 0)), (5, (i64 0)), (19, (Value.bool true)), (20, (agg [(i64 x7.term), (Value.slice x7.A x7.cmd.length x7.c)]))] 3 ?_
  refine od ?_
  refine q_then (o := .tmp 19) (by kernel_rfl) rfl ?_
  refine qs ?_
  refine qg ?_
  refine Ops.new (o := rowL [(i64 0), (Value.slice none 0 0)] 88) (V := fun b => (ptr b)) (by kernel_rfl) (d := (some 7)) (by kernel_rfl) (fun b => rfl) (fun b27 w28 hb29 H30 K31 hs32 => ?_)
  have lb27 : g < b27 := by have := H0.lt; omega
  have nb27 : w.heap.size ≤ b27 := by have := K0.size; omega
  have ot33 : ∀ i, T i → i ≠ b27 := fun i hi => by have := Ents.lt hE i hi; omega
  replace K0 := K0.t0 K31
  replace H0 := H0.keep K31 (fun h => h)
  replace hE := Ents.keep0 hE K31
  clear K31 hs32
  refine Ops.put (t := 88) (b := b27) (off := 0) (v := (agg [(i64 x7.term), (Value.slice x7.A x7.cmd.length x7.c)])) (ys := [(i64 x7.term), (Value.slice x7.A x7.cmd.length x7.c)]) (by kernel_rfl) (by kernel_rfl) H30 (by kernel_rfl) (d := none) (by kernel_rfl) rfl (fun w34 H35 K36 => ?_)
  clear H30
  replace K0 := K0.trans K36 (U := none_) (fun i h1 h2 => h2) (fun i h1 h2 => by have h2 : i = b27 := h2; exfalso; omega)
  replace H0 := H0.k1 K36 (by omega)
  replace hE := Ents.keep hE K36 ot33
  clear K36
  refine od ?_
  refine qs ?_
  refine qg ?_
  refine og 2 [(4, (i64 0)), (5, (i64 0)), (22, (ptr b27))] 2 ?_
  refine Ops.go (v := (i64 x7.term)) (by kernel_rfl) (Runs.load (t := 2) (a := ⟨b27, 0, none⟩) (by kernel_rfl) (H35.loads (by kernel_rfl))) (d := (some 23)) (by kernel_rfl) rfl ?_
  refine og 2 [(4, (i64 x7.term)), (5, (i64 0))] 5 ?_
  refine od ?_
  refine q_ret (by kernel_rfl) ?_
  refine ⟨(Value.tuple #[(i64 x7.term), (i64 0)]), retv_tmp2 rfl rfl rfl, ?_⟩
  have e : termK base old (l.map EntP.key) n = (x7.term, 0) := by rw [q4, termK_at (ekey_at hx8)]
  exact ⟨by rw [e], K0⟩

theorem Base_calls (w : World) (T : Nat → Prop) (g : Nat) (base old : Int) (A : Option Addr) (c : Nat) (l : List EntP) (H0 : Has w g (rowL [i64 base, i64 old, .slice A l.length c] 78)) (hE : Ents w T (.slice A l.length c) l) (hT : ∀ i, T i → i ≠ g) (hB : 0 ≤ base ∧ base ≤ 2305843009213693952) (hL : l.length ≤ 4096) : Calls Try.prog 29 ⟨[(ptr g)]⟩ w (fun e w' => e = .returned (.tuple #[i64 base, i64 old]) ∧ Keeps none_ w w') := by
 have hcap := Ents.len hE
 have Hg := H0.lt
 have hcm := hcap.2.2
 unfold maxLen at hcm
 have K0 : Keeps none_ w w := Keeps.refl w
 refine q_calls Try.func29 (by kernel_rfl) (by kernel_rfl) ?_
 refine qs ?_
 refine qg ?_
 refine og 2 [(0, (ptr g)), (2, (i64 0)), (3, (i64 0))] 2 ?_
 refine od ?_
 refine qs ?_
 refine qs ?_
 refine qg ?_
 refine og 2 [(0, (ptr g)), (2, (i64 0)), (3, (i64 0)), (5, (Value.bool false))] 2 ?_
 refine od ?_
 refine q_else (o := .tmp 5) (by kernel_rfl) rfl ?_
 refine q_skip (by kernel_rfl) ?_
 refine qs ?_
 refine q_draw (fun wz => Keeps none_ w wz) 10 (by kernel_rfl) (by kernel_rfl) (by kernel_rfl) (fun w1 K2 _ _ => ⟨K2, ?_⟩)
 replace K0 := K0.t0 K2
 replace H0 := H0.keep K2 (fun h => h)
 replace hE := Ents.keep0 hE K2
 refine Dr.strong (S' := (fun wz => Keeps none_ w1 wz)) (Keeps.refl w1) (fun wz hx => K2.trans hx (fun i _ h => h) (fun _ _ h => h)) ?_
 clear K2
 refine Dr.takes (fuel' := 7) (is' := _) [0, 1, 2] [(0, (ptr g)), (2, (i64 0)), (3, (i64 0)), (8, (ptr g))] (by kernel_rfl) rfl (by kernel_rfl) ?_
 refine Dr.take (i := 3) (v := (i64 base)) (by kernel_rfl) (by kernel_rfl) (fun wz hS => Runs.load (t := 2) (a := ⟨g, 0, none⟩) (by kernel_rfl) ((H0.keep hS (fun h => h)).loads (by kernel_rfl))) (d := (some 9)) (by kernel_rfl) rfl ?_
 refine Dr.takes (fuel' := 3) (is' := _) [4, 5, 6] [(2, (i64 0)), (3, (i64 0)), (9, (i64 base)), (12, (Value.pointer (some ⟨g, 1, none⟩)))] (by kernel_rfl) rfl (by kernel_rfl) ?_
 refine Dr.take (i := 7) (v := (i64 old)) (by kernel_rfl) (by kernel_rfl) (fun wz hS => Runs.load (t := 2) (a := ⟨g, 1, none⟩) (by kernel_rfl) ((H0.keep hS (fun h => h)).loads (by kernel_rfl))) (d := (some 13)) (by kernel_rfl) rfl ?_
 refine Dr.takes (fuel' := 0) (is' := _) [8, 9] [(2, (i64 base)), (3, (i64 old))] (by kernel_rfl) rfl (by kernel_rfl) ?_
 refine Dr.done (by kernel_rfl) ?_
 refine q_ret (by kernel_rfl) ?_
 refine ⟨(Value.tuple #[(i64 base), (i64 old)]), retv_tmp2 rfl rfl rfl, ?_⟩
 exact ⟨rfl, K0⟩

theorem Newer_calls (w : World) (T : Nat → Prop) (g : Nat) (base old : Int) (A : Option Addr) (c : Nat) (l : List EntP) (n t : Int) (H0 : Has w g (rowL [i64 base, i64 old, .slice A l.length c] 78)) (hE : Ents w T (.slice A l.length c) l) (hT : ∀ i, T i → i ≠ g) (hB : 0 ≤ base ∧ base ≤ 2305843009213693952) (hL : l.length ≤ 4096) : Calls Try.prog 45 ⟨[(ptr g), (i64 n), (i64 t)]⟩ w (fun e w' => ∃ b, e = .returned (.bool b) ∧ (b = true ↔ (lastK base old (l.map EntP.key) < t ∨ t = lastK base old (l.map EntP.key) ∧ base + ((l.length : Nat) : Int) ≤ n)) ∧ Keeps none_ w w') := by
 have hcap := Ents.len hE
 have Hg := H0.lt
 have hcm := hcap.2.2
 unfold maxLen at hcm
 have K0 : Keeps none_ w w := Keeps.refl w
 refine q_calls Try.func45 (by kernel_rfl) (by kernel_rfl) ?_
 refine qs ?_
 refine qg ?_
 refine og 1 [(0, (ptr g)), (1, (i64 n)), (2, (i64 t)), (6, (Value.bool false))] 1 ?_
 refine od ?_
 refine qs ?_
 refine qs ?_
 refine qg ?_
 refine og 2 [(0, (ptr g)), (1, (i64 n)), (2, (i64 t)), (6, (Value.bool false)), (10, (Value.bool false))] 2 ?_
 refine od ?_
 refine q_else (o := .tmp 10) (by kernel_rfl) rfl ?_
 refine q_skip (by kernel_rfl) ?_
 refine qs ?_
 refine qg ?_
 refine og 1 [(1, (i64 n)), (2, (i64 t)), (6, (Value.bool false)), (12, (ptr g))] 1 ?_
 refine Ops.call (by kernel_rfl) (d := (some 13)) (by kernel_rfl) (Last_calls _ T g base old A c l H0 hE hT (by omega) (by omega)) ?_
 rintro _ w2 ⟨rfl, K1⟩
 refine ⟨_, _, rfl, rfl, ?_⟩
 replace K0 := K0.t0 K1
 replace H0 := H0.keep K1 (fun h => h)
 replace hE := Ents.keep0 hE K1
 clear K1
 refine og 5 [(1, (i64 n)), (2, (i64 t)), (6, (Value.bool false)), (7, (i64 (base + ((l.length : Nat) : Int)))), (8, (i64 (lastK base old (l.map EntP.key))))] 7 ?_
 refine od ?_
 refine qs ?_
 refine qg ?_
 refine og 4 [(1, (i64 n)), (2, (i64 t)), (6, (Value.bool false)), (7, (i64 (base + ((l.length : Nat) : Int)))), (8, (i64 (lastK base old (l.map EntP.key)))), (19, (Value.bool (decide (t > lastK base old (l.map EntP.key)))))] 4 ?_
 refine Ops.split (decide (t > lastK base old (l.map EntP.key))) (fun h3 => ?_) (fun h3 => ?_)
 ·rw [h3]
  have p4 : t > lastK base old (l.map EntP.key) := of_decide_eq_true h3
  refine og 10 [(6, (Value.bool true))] 14 ?_
  refine od ?_
  refine q_ret (by kernel_rfl) ?_
  refine ⟨(Value.bool true), retv_tmp rfl rfl, ?_⟩
  refine ⟨_, rfl, ?_, K0⟩
  first | (constructor <;> intro h <;> first | rfl | omega | (cases h; done)) | (rw [decide_eq_true_iff]; constructor <;> intro h <;> omega)
 ·rw [h3]
  have p5 : ¬ (t > lastK base old (l.map EntP.key)) := of_decide_eq_false h3
  refine og 4 [(1, (i64 n)), (6, (Value.bool false)), (7, (i64 (base + ((l.length : Nat) : Int)))), (19, (Value.bool false)), (23, (Value.bool (t == (lastK base old (l.map EntP.key)))))] 8 ?_
  refine Ops.split (t == (lastK base old (l.map EntP.key))) (fun h6 => ?_) (fun h6 => ?_)
  ·rw [h6]
   have p7 : t = lastK base old (l.map EntP.key) := of_beq_t h6
   refine og 6 [(6, (Value.bool (decide (n ≥ base + ((l.length : Nat) : Int)))))] 14 ?_
   refine od ?_
   refine q_ret (by kernel_rfl) ?_
   refine ⟨(Value.bool (decide (n ≥ base + ((l.length : Nat) : Int)))), retv_tmp rfl rfl, ?_⟩
   refine ⟨_, rfl, ?_, K0⟩
   first | (constructor <;> intro h <;> first | rfl | omega | (cases h; done)) | (rw [decide_eq_true_iff]; constructor <;> intro h <;> omega)
  ·rw [h6]
   have p8 : ¬ (t = lastK base old (l.map EntP.key)) := of_beq_f h6
   refine og 6 [(6, (Value.bool false))] 14 ?_
   refine od ?_
   refine q_ret (by kernel_rfl) ?_
   refine ⟨(Value.bool false), retv_tmp rfl rfl, ?_⟩
   refine ⟨_, rfl, ?_, K0⟩
   first | (constructor <;> intro h <;> first | rfl | omega | (cases h; done)) | (rw [decide_eq_true_iff]; constructor <;> intro h <;> omega)
end Go.Proofs.Ytnmpepjikfbpdaa
namespace Go.Proofs.Ytnmpepjikfbpdaa
open Go.Q Go.RowKit

theorem Append_ok (w : World) (T : Nat → Prop) (g : Nat) (base old : Int) (A : Option Addr) (l : List EntP) (U : Nat → Prop) (B : Option Addr) (d : Nat) (ys : List EntP) (H0 : Has w g (rowL [i64 base, i64 old, .slice A l.length l.length] 78)) (hE : Ents w T (.slice A l.length l.length) l) (hT : ∀ i, T i → i ≠ g) (hB : 0 ≤ base ∧ base ≤ 2305843009213693952) (hL : l.length ≤ 4096) (hY : Ents w U (.slice B ys.length d) ys) (hU : ∀ i, U i → i ≠ g) (hBig : BigK (l.map EntP.key)) (hBigY : BigK (ys.map EntP.key)) (hYl : ys.length * 32 ≤ 140737488351232) (hq : appE base old (l.map EntP.key) (ys.map EntP.key) = 0) : Calls Try.prog 41 ⟨[(ptr g), (Value.slice B ys.length d)]⟩ w (fun e w' => ∃ l' A' c' T', e = .returned (i64 0) ∧ Keeps (fun i => i = g) w w' ∧ Has w' g (rowL [i64 base, i64 old, .slice A' l'.length c'] 78) ∧ Ents w' T' (.slice A' l'.length c') l' ∧ l'.map EntP.key = (l.map EntP.key) ++ ys.map EntP.key ∧ ∀ i, T' i → i ≠ g ∧ (T i ∨ w.heap.size ≤ i)) := by
 have hcap := Ents.len hE
 have Hg := H0.lt
 have hcy := Ents.len hY
 have hT0 := hT
 have hTl := Ents.lt hE
 have hUl := Ents.lt hY
 have K0 : Keeps (fun i => i = g) w w := (Keeps.refl w).mono (fun _ _ h => h.elim)
 refine q_calls Try.func41 (by kernel_rfl) (by kernel_rfl) ?_
 refine qs ?_
 refine qg ?_
 refine og 1 [(0, (ptr g)), (1, (Value.slice B ys.length d)), (4, (i64 0))] 1 ?_
 refine od ?_
 refine qs ?_
 refine qs ?_
 refine qg ?_
 refine og 2 [(0, (ptr g)), (1, (Value.slice B ys.length d)), (4, (i64 0)), (8, (Value.bool false))] 2 ?_
 refine od ?_
 refine q_else (o := .tmp 8) (by kernel_rfl) rfl ?_
 refine q_skip (by kernel_rfl) ?_
 refine qs ?_
 refine qg ?_
 refine og 1 [(0, (ptr g)), (1, (Value.slice B ys.length d)), (4, (i64 0)), (10, (ptr g))] 1 ?_
 refine Ops.call (by kernel_rfl) (d := (some 11)) (by kernel_rfl) (Last_calls _ T g base old A l.length l H0 hE hT (by omega) (by omega)) ?_
 rintro _ w2 ⟨rfl, K1⟩
 refine ⟨_, _, rfl, rfl, ?_⟩
 replace K0 := K0.tn K1
 replace H0 := H0.keep K1 (fun h => h)
 replace hE := Ents.keep0 hE K1
 replace hY := Ents.keep0 hY K1
 clear K1
 refine og 5 [(0, (ptr g)), (1, (Value.slice B ys.length d)), (4, (i64 0)), (6, (i64 (lastK base old (l.map EntP.key))))] 7 ?_
 refine od ?_
 refine qs ?_
 refine q_block (id := 0) (by kernel_rfl) ?_
 refine qs ?_
 refine qg ?_
 refine og 3 [(0, (ptr g)), (1, (Value.slice B ys.length d)), (4, (i64 0)), (6, (i64 (lastK base old (l.map EntP.key)))), (17, (Value.pointer (some ⟨g, 2, none⟩)))] 3 ?_
 refine Ops.go (v := (Value.slice A l.length l.length)) (by kernel_rfl) (Runs.load (t := 22) (a := ⟨g, 2, none⟩) (by kernel_rfl) (H0.loads (by kernel_rfl))) (d := (some 18)) (by kernel_rfl) rfl ?_
 refine og 4 [(0, (ptr g)), (1, (Value.slice B ys.length d)), (4, (i64 0)), (6, (i64 (lastK base old (l.map EntP.key)))), (22, (i64 (IntKind.i64.wrap (((l.length : Nat) : Int) + ((ys.length : Nat) : Int)))))] 8 ?_
 have e3 : IntKind.i64.wrap (((l.length : Nat) : Int) + ((ys.length : Nat) : Int)) = ((l.length + ys.length : Nat) : Int) := by rw [wrap_i64 (by omega) (by omega)]; omega
 rw [e3]
 clear e3
 refine og 2 [(0, (ptr g)), (1, (Value.slice B ys.length d)), (4, (i64 0)), (6, (i64 (lastK base old (l.map EntP.key)))), (14, (Value.bool (decide (((l.length + ys.length : Nat) : Int) > 4096))))] 10 ?_
 refine od ?_
 refine q_cond (o := .tmp 14) (b := (decide (((l.length + ys.length : Nat) : Int) > 4096))) (by kernel_rfl) rfl (fun h4 => ?_) (fun h4 => ?_)
 ·rw [h4]
  have p5 : ((l.length + ys.length : Nat) : Int) > 4096 := of_decide_eq_true h4
  refine qs ?_
  refine qg ?_
  refine og 1 [(0, (ptr g)), (1, (Value.slice B ys.length d)), (4, (i64 4)), (6, (i64 (lastK base old (l.map EntP.key))))] 1 ?_
  refine od ?_
  refine q_ret (by kernel_rfl) ?_
  refine ⟨(i64 4), retv_tmp rfl rfl, ?_⟩
  exfalso; have hq := appE_ok hq; rw [List.length_map, List.length_map] at hq; omega
 ·rw [h4]
  have p6 : ¬ (((l.length + ys.length : Nat) : Int) > 4096) := of_decide_eq_false h4
  refine qs ?_
  refine qg ?_
  refine og 2 [(0, (ptr g)), (1, (Value.slice B ys.length d)), (4, (i64 0)), (25, (i64 (lastK base old (l.map EntP.key)))), (26, (Value.slice B ys.length d))] 2 ?_
  refine Ops.call (by kernel_rfl) (d := (some 27)) (by kernel_rfl) (rising_calls _ U (lastK base old (l.map EntP.key)) B d ys hY) ?_
  rintro _ w8 ⟨rfl, K7⟩
  refine ⟨_, _, rfl, rfl, ?_⟩
  replace K0 := K0.tn K7
  replace H0 := H0.keep K7 (fun h => h)
  replace hE := Ents.keep0 hE K7
  replace hY := Ents.keep0 hY K7
  clear K7
  refine og 2 [(0, (ptr g)), (1, (Value.slice B ys.length d)), (4, (i64 0)), (24, (Value.bool (!(risingK (lastK base old (l.map EntP.key)) (ys.map EntP.key)))))] 5 ?_
  refine od ?_
  refine q_cond (o := .tmp 24) (b := (!(risingK (lastK base old (l.map EntP.key)) (ys.map EntP.key)))) (by kernel_rfl) rfl (fun h9 => ?_) (fun h9 => ?_)
  ·rw [h9]
   have p10 : (risingK (lastK base old (l.map EntP.key)) (ys.map EntP.key)) = false := (bnot_true h9)
   refine qs ?_
   refine qg ?_
   refine og 1 [(0, (ptr g)), (1, (Value.slice B ys.length d)), (4, (i64 1))] 1 ?_
   refine od ?_
   refine q_ret (by kernel_rfl) ?_
   refine ⟨(i64 1), retv_tmp rfl rfl, ?_⟩
   exfalso; have hq := appE_ok hq; rw [List.length_map, List.length_map] at hq; have hq2 := hq.2; rw [(bnot_true h9)] at hq2; cases hq2
  ·rw [h9]
   have p11 : (risingK (lastK base old (l.map EntP.key)) (ys.map EntP.key)) = true := (bnot_false h9)
   refine q_skip (by kernel_rfl) ?_
   refine qs ?_
   refine q_draw (fun wz => Keeps (fun i => i = g) w8 wz) 11 (by kernel_rfl) (by kernel_rfl) (by kernel_rfl) (fun w12 K13 _ _ => ⟨(K13.mono (fun _ _ h => h.elim)), ?_⟩)
   replace K0 := K0.tn K13
   replace H0 := H0.keep K13 (fun h => h)
   replace hE := Ents.keep0 hE K13
   replace hY := Ents.keep0 hY K13
   refine Dr.strong (S' := (fun wz => Keeps (fun i => i = g) w12 wz)) ((Keeps.refl w12).mono (fun _ _ h => h.elim)) (fun wz hx => K13.trans hx (fun i _ h => h.elim) (fun _ _ h => h)) ?_
   clear K13
   refine Dr.takes (fuel' := 6) (is' := _) [0, 1, 2, 3, 5] [(4, (i64 0)), (29, (ptr g)), (32, (Value.pointer (some ⟨g, 2, none⟩))), (34, (Value.slice B ys.length d))] (by kernel_rfl) rfl (by kernel_rfl) ?_
   refine Dr.float [(4, (i64 0)), (29, (ptr g)), (33, (Value.slice A l.length l.length)), (34, (Value.slice B ys.length d))] 4 ?_
   refine DrB.call (i := 4) (j := 6) (t := 22) (a := ⟨g, 2, none⟩) (v := (Value.slice A l.length l.length)) (by kernel_rfl) (.inl rfl) (by kernel_rfl) (by kernel_rfl) (by kernel_rfl) (by kernel_rfl) (di := (some 33)) (by kernel_rfl) (by kernel_rfl) (by kernel_rfl) (by kernel_rfl) (dj := (some 35)) (by kernel_rfl) (H0.loads (by kernel_rfl)) ((Keeps.refl _).mono (fun _ _ h => h.elim)) (own_calls _ U B d ys hY (BigK.l hBigY) (by omega)) ?_
   rintro _ w17 ⟨l14, A15, c16, rfl, K18, hE19, hK20⟩
   have ot21 : ∀ i, (fun i => w12.heap.size ≤ i ∧ i < w17.heap.size) i → i ≠ g := fun i hi => by have := hi.1; have := H0.lt; omega
   have hz22 := K0.size
   have hn23 := keys_len2 hK20
   try rw [List.length_drop] at hn23
   try rw [List.length_append] at hn23
   try rw [List.length_map] at hn23
   try rw [List.length_map] at hn23
   replace K0 := K0.tn K18
   replace H0 := H0.keep K18 (fun h => h)
   replace hE := Ents.keep0 hE K18
   replace hY := Ents.keep0 hY K18
   refine ⟨_, _, _, rfl, (K18.mono (fun _ _ h => h.elim)), rfl, rfl, ?_⟩
   refine DrB.strong (S' := (fun wz => Keeps (fun i => i = g) w17 wz)) ((Keeps.refl w17).mono (fun _ _ h => h.elim)) (fun wz hx => K18.trans hx (fun i _ h => h.elim) (fun _ _ h => h)) ?_
   clear K18
   refine DrB.end_ (t := 22) (a := ⟨g, 2, none⟩) (v := (Value.slice A l.length l.length)) (R := [(4, (i64 0)), (29, (ptr g)), (33, (Value.slice A l.length l.length)), (35, (Value.slice A15 l14.length c16))]) (by kernel_rfl) (by kernel_rfl) (by kernel_rfl) (di := (some 33)) (by kernel_rfl) (by kernel_rfl) (by kernel_rfl) (H0.loads (by kernel_rfl)) ((Keeps.refl _).mono (fun _ _ h => h.elim)) ?_
   obtain ⟨A24, c25, w26, hr27, K28, hE29⟩ := Ents.app (ty := 22) tyE hE hE19 (by omega) (by omega)
   obtain ⟨l30, hl31⟩ : ∃ z, z = l ++ l14 := ⟨_, rfl⟩
   rw [← hl31] at hr27 hE29
   have ot32 : ∀ i, (fun i => (T i ∨ (fun i => w12.heap.size ≤ i ∧ i < w17.heap.size) i ∨ w17.heap.size ≤ i) ∧ i < w26.heap.size) i → i ≠ g := fun i hi => by rcases hi.1 with h | h | h; (exact hT i h); (exact ot21 i h); (have := H0.lt; omega)
   have hz33 := K0.size
   replace K0 := K0.tn K28
   replace H0 := H0.keep K28 (fun h => h)
   replace hE := Ents.keep0 hE K28
   replace hY := Ents.keep0 hY K28
   replace hE19 := Ents.keep0 hE19 K28
   refine Dr.go (i := 7) (v := (Value.slice A24 l30.length c25)) (by kernel_rfl) (by kernel_rfl) (Runs.append (ts := #[22, 22]) (ty := 22) (vs := [(Value.slice A l.length l.length), (Value.slice A15 l14.length c16)]) (by kernel_rfl) hr27) (d := (some 36)) (by kernel_rfl) rfl (K28.mono (fun _ _ h => h.elim)) ?_
   refine Dr.strong (S' := (fun wz => Keeps (fun i => i = g) w26 wz)) ((Keeps.refl w26).mono (fun _ _ h => h.elim)) (fun wz hx => K28.trans hx (fun i _ h => h.elim) (fun _ _ h => h)) ?_
   clear K28 hr27
   have hn34 : l30.length = l.length + l14.length := by rw [hl31]; simp
   refine Dr.takes (fuel' := 1) (is' := _) [8, 9] [(4, (i64 0)), (36, (Value.slice A24 l30.length c25)), (38, (Value.pointer (some ⟨g, 2, none⟩)))] (by kernel_rfl) rfl (by kernel_rfl) ?_
   refine Dr.put (i := 10) (t := 22) (b := g) (off := 2) (v := (Value.slice A24 l30.length c25)) (ys := [(i64 base), (i64 old), (Value.slice A24 l30.length c25)]) (by kernel_rfl) (by kernel_rfl) (by kernel_rfl) H0 (by kernel_rfl) (d := none) (by kernel_rfl) rfl (fun w35 H36 K37 => ?_)
   clear H0
   replace K0 := K0.t1 K37 (fun _ => rfl)
   replace hE := Ents.keep hE K37 hT
   replace hY := Ents.keep hY K37 hU
   replace hE19 := Ents.keep hE19 K37 ot21
   replace hE29 := Ents.keep hE29 K37 ot32
   refine ⟨K37, ?_⟩
   refine Dr.strong (S' := (fun wz => Keeps (fun i => i = g) w35 wz)) ((Keeps.refl w35).mono (fun _ _ h => h.elim)) (fun wz hx => K37.trans hx (fun i _ h => by have h : i = g := h; show i = g; omega) (fun _ _ h => h)) ?_
   clear K37
   refine Dr.done (by kernel_rfl) ?_
   refine qs ?_
   refine qg ?_
   refine og 1 [(4, (i64 0))] 1 ?_
   refine od ?_
   refine q_ret (by kernel_rfl) ?_
   refine ⟨(i64 0), retv_tmp rfl rfl, ?_⟩
   exact ⟨l30, A24, c25, (fun i => (T i ∨ (fun i => w12.heap.size ≤ i ∧ i < w17.heap.size) i ∨ w17.heap.size ≤ i) ∧ i < w26.heap.size), rfl, K0, H36, hE29, by rw [hl31, List.map_append, hK20], fun i hi => by rcases hi.1 with h | h | h; (exact ⟨hT0 i h, .inl h⟩); (have := h.1; exact ⟨by omega, .inr (by omega)⟩); (exact ⟨by omega, .inr (by omega)⟩)⟩

theorem Append_bad (w : World) (T : Nat → Prop) (g : Nat) (base old : Int) (A : Option Addr) (l : List EntP) (U : Nat → Prop) (B : Option Addr) (d : Nat) (ys : List EntP) (H0 : Has w g (rowL [i64 base, i64 old, .slice A l.length l.length] 78)) (hE : Ents w T (.slice A l.length l.length) l) (hT : ∀ i, T i → i ≠ g) (hB : 0 ≤ base ∧ base ≤ 2305843009213693952) (hL : l.length ≤ 4096) (hY : Ents w U (.slice B ys.length d) ys) (hU : ∀ i, U i → i ≠ g) (hBig : BigK (l.map EntP.key)) (hBigY : BigK (ys.map EntP.key)) (hYl : ys.length * 32 ≤ 140737488351232) (hq : appE base old (l.map EntP.key) (ys.map EntP.key) ≠ 0) : Calls Try.prog 41 ⟨[(ptr g), (Value.slice B ys.length d)]⟩ w (fun e w' => e = .returned (i64 (appE base old (l.map EntP.key) (ys.map EntP.key))) ∧ Keeps none_ w w') := by
 have hcap := Ents.len hE
 have Hg := H0.lt
 have hcy := Ents.len hY
 have hT0 := hT
 have hTl := Ents.lt hE
 have hUl := Ents.lt hY
 have K0 : Keeps none_ w w := Keeps.refl w
 refine q_calls Try.func41 (by kernel_rfl) (by kernel_rfl) ?_
 refine qs ?_
 refine qg ?_
 refine og 1 [(0, (ptr g)), (1, (Value.slice B ys.length d)), (4, (i64 0))] 1 ?_
 refine od ?_
 refine qs ?_
 refine qs ?_
 refine qg ?_
 refine og 2 [(0, (ptr g)), (1, (Value.slice B ys.length d)), (4, (i64 0)), (8, (Value.bool false))] 2 ?_
 refine od ?_
 refine q_else (o := .tmp 8) (by kernel_rfl) rfl ?_
 refine q_skip (by kernel_rfl) ?_
 refine qs ?_
 refine qg ?_
 refine og 1 [(0, (ptr g)), (1, (Value.slice B ys.length d)), (4, (i64 0)), (10, (ptr g))] 1 ?_
 refine Ops.call (by kernel_rfl) (d := (some 11)) (by kernel_rfl) (Last_calls _ T g base old A l.length l H0 hE hT (by omega) (by omega)) ?_
 rintro _ w2 ⟨rfl, K1⟩
 refine ⟨_, _, rfl, rfl, ?_⟩
 replace K0 := K0.t0 K1
 replace H0 := H0.keep K1 (fun h => h)
 replace hE := Ents.keep0 hE K1
 replace hY := Ents.keep0 hY K1
 clear K1
 refine og 5 [(0, (ptr g)), (1, (Value.slice B ys.length d)), (4, (i64 0)), (6, (i64 (lastK base old (l.map EntP.key))))] 7 ?_
 refine od ?_
 refine qs ?_
 refine q_block (id := 0) (by kernel_rfl) ?_
 refine qs ?_
 refine qg ?_
 refine og 3 [(0, (ptr g)), (1, (Value.slice B ys.length d)), (4, (i64 0)), (6, (i64 (lastK base old (l.map EntP.key)))), (17, (Value.pointer (some ⟨g, 2, none⟩)))] 3 ?_
 refine Ops.go (v := (Value.slice A l.length l.length)) (by kernel_rfl) (Runs.load (t := 22) (a := ⟨g, 2, none⟩) (by kernel_rfl) (H0.loads (by kernel_rfl))) (d := (some 18)) (by kernel_rfl) rfl ?_
 refine og 4 [(0, (ptr g)), (1, (Value.slice B ys.length d)), (4, (i64 0)), (6, (i64 (lastK base old (l.map EntP.key)))), (22, (i64 (IntKind.i64.wrap (((l.length : Nat) : Int) + ((ys.length : Nat) : Int)))))] 8 ?_
 have e3 : IntKind.i64.wrap (((l.length : Nat) : Int) + ((ys.length : Nat) : Int)) = ((l.length + ys.length : Nat) : Int) := by rw [wrap_i64 (by omega) (by omega)]; omega
 rw [e3]
 clear e3
 refine og 2 [(0, (ptr g)), (1, (Value.slice B ys.length d)), (4, (i64 0)), (6, (i64 (lastK base old (l.map EntP.key)))), (14, (Value.bool (decide (((l.length + ys.length : Nat) : Int) > 4096))))] 10 ?_
 refine od ?_
 refine q_cond (o := .tmp 14) (b := (decide (((l.length + ys.length : Nat) : Int) > 4096))) (by kernel_rfl) rfl (fun h4 => ?_) (fun h4 => ?_)
 ·rw [h4]
  have p5 : ((l.length + ys.length : Nat) : Int) > 4096 := of_decide_eq_true h4
  refine qs ?_
  refine qg ?_
  refine og 1 [(0, (ptr g)), (1, (Value.slice B ys.length d)), (4, (i64 4)), (6, (i64 (lastK base old (l.map EntP.key))))] 1 ?_
  refine od ?_
  refine q_ret (by kernel_rfl) ?_
  refine ⟨(i64 4), retv_tmp rfl rfl, ?_⟩
  have e : appE base old (l.map EntP.key) (ys.map EntP.key) = 4 := by unfold appE; rw [List.length_map, List.length_map]; rw [if_pos (by omega)]
  exact ⟨by rw [e], K0⟩
 ·rw [h4]
  have p6 : ¬ (((l.length + ys.length : Nat) : Int) > 4096) := of_decide_eq_false h4
  refine qs ?_
  refine qg ?_
  refine og 2 [(0, (ptr g)), (1, (Value.slice B ys.length d)), (4, (i64 0)), (25, (i64 (lastK base old (l.map EntP.key)))), (26, (Value.slice B ys.length d))] 2 ?_
  refine Ops.call (by kernel_rfl) (d := (some 27)) (by kernel_rfl) (rising_calls _ U (lastK base old (l.map EntP.key)) B d ys hY) ?_
  rintro _ w8 ⟨rfl, K7⟩
  refine ⟨_, _, rfl, rfl, ?_⟩
  replace K0 := K0.t0 K7
  replace H0 := H0.keep K7 (fun h => h)
  replace hE := Ents.keep0 hE K7
  replace hY := Ents.keep0 hY K7
  clear K7
  refine og 2 [(0, (ptr g)), (1, (Value.slice B ys.length d)), (4, (i64 0)), (24, (Value.bool (!(risingK (lastK base old (l.map EntP.key)) (ys.map EntP.key)))))] 5 ?_
  refine od ?_
  have h9 : (!(risingK (lastK base old (l.map EntP.key)) (ys.map EntP.key))) = true := by rw [show (risingK (lastK base old (l.map EntP.key)) (ys.map EntP.key)) = false from Bool.eq_false_iff.2 (fun h => hq (by unfold appE; rw [List.length_map, List.length_map, if_neg (by omega), if_pos h]))]; rfl
  rw [h9]
  refine q_then (o := .tmp 24) (by kernel_rfl) rfl ?_
  refine qs ?_
  refine qg ?_
  refine og 1 [(0, (ptr g)), (1, (Value.slice B ys.length d)), (4, (i64 1))] 1 ?_
  refine od ?_
  refine q_ret (by kernel_rfl) ?_
  refine ⟨(i64 1), retv_tmp rfl rfl, ?_⟩
  have e : appE base old (l.map EntP.key) (ys.map EntP.key) = 1 := by unfold appE; rw [List.length_map, List.length_map]; rw [if_neg (by omega), if_neg (by rw [(bnot_true h9)]; decide)]
  exact ⟨by rw [e], K0⟩
end Go.Proofs.Ytnmpepjikfbpdaa
