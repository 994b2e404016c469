/- Messages: as they come in, as they are written. -/
import Derived.Test.YtooginpgclcldaaDoorLE
set_option linter.unusedVariables false
namespace Go.Q
open Go.ChangeShapes Go.WideShapes Go.ChangeAt Go.RowKit Go.Deep

/-- An entry: what is in it, and where its bytes stand. -/
structure EntP where
  term : Int
  A : Option Addr
  c : Nat
  cmd : List UInt8
def EntP.cells (x : EntP) : List Value := [i64 x.term, .slice x.A x.cmd.length x.c]
def EntP.key (x : EntP) : Int × List UInt8 := (x.term, x.cmd)
theorem EntP.two (x : EntP) : x.cells.length = 2 := rfl
theorem EntP.one (x : EntP) : oneCells x.cells = true := rfl
abbrev RdE (w : World) (v : Value) (l : List EntP) : Prop := RdT w 2 EntP.cells v l
abbrev OwnE (w : World) (base e : Nat) (v : Value) (l : List EntP) : Prop := OwnT w base e 2 EntP.cells v l
def EntsIn (w : World) (l : List EntP) : Prop := ∀ x ∈ l, RdB w (.slice x.A x.cmd.length x.c) x.cmd
def EntsOk (l : List EntP) : Prop := ∀ x ∈ l, -9223372036854775808 ≤ x.term ∧ x.term ≤ 9223372036854775807
structure MsgP where
  kind : Int
  group : Int
  frm : Int
  to : Int
  term : Int
  index : Int
  logTerm : Int
  commit : Int
  ok : Bool
  entries : List EntP
  data : List UInt8
def MsgP.ints (m : MsgP) : List Int := [m.kind, m.group, m.frm, m.to, m.term, m.index, m.logTerm, m.commit]
structure MsgP.Ok (m : MsgP) : Prop where
  kind : -9223372036854775808 ≤ m.kind ∧ m.kind ≤ 9223372036854775807
  group : -9223372036854775808 ≤ m.group ∧ m.group ≤ 9223372036854775807
  frm : -9223372036854775808 ≤ m.frm ∧ m.frm ≤ 9223372036854775807
  to : -9223372036854775808 ≤ m.to ∧ m.to ≤ 9223372036854775807
  term : -9223372036854775808 ≤ m.term ∧ m.term ≤ 9223372036854775807
  index : -9223372036854775808 ≤ m.index ∧ m.index ≤ 9223372036854775807
  logTerm : -9223372036854775808 ≤ m.logTerm ∧ m.logTerm ≤ 9223372036854775807
  commit : -9223372036854775808 ≤ m.commit ∧ m.commit ≤ 9223372036854775807
  ents : EntsOk m.entries
def entsv : List EntP → List UInt8
  | [] => []
  | x :: l => iv x.term ++ (tv x.cmd ++ entsv l)
def headv (m : MsgP) : List UInt8 := iv m.kind ++ (iv m.group ++ (iv m.frm ++ (iv m.to ++ (iv m.term ++ (iv m.index ++ (iv m.logTerm ++ (iv m.commit ++ uv m.ok.toNat)))))))
def msgv (m : MsgP) : List UInt8 := headv m ++ (uv m.entries.length ++ (entsv m.entries ++ tv m.data))
def sumc : List EntP → Nat
  | [] => 0
  | x :: l => x.cmd.length + sumc l
structure MsgP.Fits (m : MsgP) : Prop where
  count : m.entries.length ≤ 4096
  data : m.data.length ≤ 65536
  cmds : ∀ x ∈ m.entries, x.cmd.length ≤ 65536
  size : (msgv m).length ≤ 1048576

theorem entsv_append : ∀ (l m : List EntP), entsv (l ++ m) = entsv l ++ entsv m
  | [], m => rfl
  | x :: l, m => by simp [entsv, entsv_append l m, List.append_assoc]
theorem entsv_take {l : List EntP} {i : Nat} {x : EntP} (h : l[i]? = some x) : entsv (l.take (i + 1)) = entsv (l.take i) ++ (iv x.term ++ tv x.cmd) := by
  obtain ⟨h1, h2⟩ := List.getElem?_eq_some_iff.1 h
  rw [List.take_succ_eq_append_getElem h1, entsv_append, h2]
  simp [entsv]
theorem entsv_take_le (l : List EntP) (i : Nat) : (entsv (l.take i)).length ≤ (entsv l).length := by
  have := congrArg List.length (entsv_append (l.take i) (l.drop i))
  rw [List.take_append_drop, List.length_append] at this
  omega
theorem sumc_append : ∀ (l m : List EntP), sumc (l ++ m) = sumc l + sumc m
  | [], m => by simp [sumc]
  | x :: l, m => by simp only [List.cons_append, sumc, sumc_append l m]; omega
theorem sumc_take {l : List EntP} {i : Nat} {x : EntP} (h : l[i]? = some x) : sumc (l.take (i + 1)) = sumc (l.take i) + x.cmd.length := by
  obtain ⟨h1, h2⟩ := List.getElem?_eq_some_iff.1 h
  rw [List.take_succ_eq_append_getElem h1, sumc_append, h2]
  simp [sumc]
theorem sumc_take_le (l : List EntP) (i : Nat) : sumc (l.take i) ≤ sumc l := by
  have := sumc_append (l.take i) (l.drop i)
  rw [List.take_append_drop] at this
  omega
theorem entsv_sum : ∀ (l : List EntP), sumc l ≤ (entsv l).length
  | [] => Nat.le_refl _
  | x :: l => by
    have h1 := entsv_sum l
    have h2 := tv_ge x.cmd
    simp only [entsv, sumc, List.length_append]
    omega
theorem entsv_le : ∀ (l : List EntP), EntsOk l → (∀ x ∈ l, x.cmd.length ≤ 65536) → (entsv l).length ≤ sumc l + 20 * l.length
  | [], _, _ => by simp [entsv, sumc]
  | x :: l, h, hc => by
    have h1 := entsv_le l (fun y hy => h y (by simp [hy])) (fun y hy => hc y (by simp [hy]))
    have h2 := tv_le (s := x.cmd) (by have := hc x (by simp); omega)
    have h3 := iv_length_10 (h x (by simp))
    simp only [entsv, sumc, List.length_append, List.length_cons]
    omega
theorem headv_len {m : MsgP} (h : m.Ok) : (headv m).length ≤ 90 := by
  have h1 := iv_length_10 h.kind
  have h2 := iv_length_10 h.group
  have h3 := iv_length_10 h.frm
  have h4 := iv_length_10 h.to
  have h5 := iv_length_10 h.term
  have h6 := iv_length_10 h.index
  have h7 := iv_length_10 h.logTerm
  have h8 := iv_length_10 h.commit
  have h9 := uvb_len m.ok
  unfold headv
  simp only [List.length_append]
  omega
theorem msgv_len (m : MsgP) : (msgv m).length = (headv m).length + (uv m.entries.length).length + (entsv m.entries).length + (tv m.data).length := by
  unfold msgv
  simp only [List.length_append]
  omega
/-- What the reference asks ahead of writing: all up to i is short enough. -/
def MsgP.Pre (m : MsgP) (i : Nat) : Prop := m.entries.length ≤ 4096 ∧ m.data.length ≤ 65536 ∧ (∀ x ∈ m.entries.take i, x.cmd.length ≤ 65536) ∧ (i = 0 ∨ m.data.length + sumc (m.entries.take i) ≤ 1048576)
theorem MsgP.Fits.pre {m : MsgP} (h : m.Fits) (i : Nat) : m.Pre i := by
  refine ⟨h.count, h.data, fun x hx => h.cmds x (List.mem_of_mem_take hx), .inr ?_⟩
  have h1 := h.size
  rw [msgv_len] at h1
  have h2 := entsv_sum m.entries
  have h3 := sumc_take_le m.entries i
  have h4 := tv_ge m.data
  omega
theorem MsgP.pre_next {m : MsgP} {i : Nat} {x : EntP} (hx : m.entries[i]? = some x) (h : m.Pre i) : m.Pre (i + 1) ↔ x.cmd.length ≤ 65536 ∧ m.data.length + sumc (m.entries.take (i + 1)) ≤ 1048576 := by
  obtain ⟨h1, h2⟩ := List.getElem?_eq_some_iff.1 hx
  constructor
  · rintro ⟨_, _, h3, h4⟩
    refine ⟨h3 x ?_, by omega⟩
    rw [List.take_succ_eq_append_getElem h1, h2]; simp
  · rintro ⟨h3, h4⟩
    refine ⟨h.1, h.2.1, fun y hy => ?_, .inr h4⟩
    rw [List.take_succ_eq_append_getElem h1, h2, List.mem_append, List.mem_singleton] at hy
    rcases hy with hy | rfl
    · exact h.2.2.1 y hy
    · exact h3
theorem MsgP.fits_of {m : MsgP} (h : m.Pre m.entries.length) (hs : (msgv m).length ≤ 1048576) : m.Fits := ⟨h.1, h.2.1, fun x hx => h.2.2.1 x (by rw [List.take_length]; exact hx), hs⟩

section
variable {H : Type} {enc : TypeId × Value → H} {P : Program} {w : World} {base : Nat} {spare : Nat → Bool} {held : Bool}
theorem dec_ent {e b : TypeId} {fs : Array Field} {m : Nat} {cs : List Value} {y : DataW H × List MemPlace} (he : P.underlying e = some (.struct fs)) (hone : oneCellFields P fs = true) (hC : P.cellsOf e = fs.size) (h2 : fs.size = 2)
    (k0 : fieldOf? P fs 0 = some (.int .i64)) (k1 : fieldOf? P fs 1 = some (.slice b)) (hb : P.underlying b = some (.int .u8)) (hbC : P.cellsOf b = 1) (hl : cs.length = 2) (h : DataW.trod enc P w base spare held m e cs = some y) :
    ∃ x : EntP, ((-9223372036854775808 ≤ x.term ∧ x.term ≤ 9223372036854775807) ∧ RdB w (.slice x.A x.cmd.length x.c) x.cmd) ∧ cs = x.cells := by
  match cs, hl with
  | [c0, c1], _ =>
    obtain ⟨n0, e0, r0⟩ := cell_i64 he hone hC h 0 k0
    obtain ⟨v1, t1, m1, d1, p1, e1, ht1, hf1, htr⟩ := cell_slice he hone hC h 1 k1
    obtain rfl : c0 = _ := Option.some.inj e0
    obtain rfl : c1 = _ := Option.some.inj e1
    obtain ⟨bs, hB, _⟩ := open_bytes_in ht1 hb hbC hf1 htr
    obtain ⟨A, c, rfl⟩ := hB.form
    exact ⟨⟨n0, A, c, bs⟩, ⟨r0, hB⟩, rfl⟩
/-- A message that comes in. -/
theorem open_msg {e r b : TypeId} {fs rs : Array Field} {v : Value} {d : DataW H} {ps : List MemPlace} (he : P.underlying e = some (.struct fs)) (hone : oneCellFields P fs = true) (hC : P.cellsOf e = fs.size) (h11 : fs.size = 11)
    (hi : ∀ j, j < 8 → fieldOf? P fs j = some (.int .i64)) (k8 : fieldOf? P fs 8 = some .bool) (k9 : fieldOf? P fs 9 = some (.slice r)) (k10 : fieldOf? P fs 10 = some (.slice b))
    (hr : P.underlying r = some (.struct rs)) (hrone : oneCellFields P rs = true) (hrC : P.cellsOf r = rs.size) (hr2 : rs.size = 2) (j0 : fieldOf? P rs 0 = some (.int .i64)) (j1 : fieldOf? P rs 1 = some (.slice b)) (hb : P.underlying b = some (.int .u8)) (hbC : P.cellsOf b = 1)
    (hv : Value.okWide P w .any 0 e v) (h : DataW.Trod enc P w base spare held e v d ps) :
    ∃ (m : MsgP) (E D : Option Addr) (ec dc : Nat), m.Ok ∧ v = agg [i64 m.kind, i64 m.group, i64 m.frm, i64 m.to, i64 m.term, i64 m.index, i64 m.logTerm, i64 m.commit, .bool m.ok, .slice E m.entries.length ec, .slice D m.data.length dc] ∧
      RdE w (.slice E m.entries.length ec) m.entries ∧ EntsIn w m.entries ∧ RdB w (.slice D m.data.length dc) m.data := by
  obtain ⟨cs, m, rfl, hl, h⟩ := struct_cells he hC hv h
  rw [h11] at hl
  match cs, hl with
  | [c0, c1, c2, c3, c4, c5, c6, c7, c8, c9, c10], _ =>
    obtain ⟨n0, e0, r0⟩ := cell_i64 he hone hC h 0 (hi 0 (by decide))
    obtain ⟨n1, e1, r1⟩ := cell_i64 he hone hC h 1 (hi 1 (by decide))
    obtain ⟨n2, e2, r2⟩ := cell_i64 he hone hC h 2 (hi 2 (by decide))
    obtain ⟨n3, e3, r3⟩ := cell_i64 he hone hC h 3 (hi 3 (by decide))
    obtain ⟨n4, e4, r4⟩ := cell_i64 he hone hC h 4 (hi 4 (by decide))
    obtain ⟨n5, e5, r5⟩ := cell_i64 he hone hC h 5 (hi 5 (by decide))
    obtain ⟨n6, e6, r6⟩ := cell_i64 he hone hC h 6 (hi 6 (by decide))
    obtain ⟨n7, e7, r7⟩ := cell_i64 he hone hC h 7 (hi 7 (by decide))
    obtain ⟨b8, e8⟩ := cell_bool he hone hC h 8 k8
    obtain ⟨v9, t9, m9, d9, p9, e9, ht9, hf9, htr9⟩ := cell_slice he hone hC h 9 k9
    obtain ⟨v10, t10, m10, d10, p10, e10, ht10, hf10, htr10⟩ := cell_slice he hone hC h 10 k10
    obtain rfl : c0 = _ := Option.some.inj e0
    obtain rfl : c1 = _ := Option.some.inj e1
    obtain rfl : c2 = _ := Option.some.inj e2
    obtain rfl : c3 = _ := Option.some.inj e3
    obtain rfl : c4 = _ := Option.some.inj e4
    obtain rfl : c5 = _ := Option.some.inj e5
    obtain rfl : c6 = _ := Option.some.inj e6
    obtain rfl : c7 = _ := Option.some.inj e7
    obtain rfl : c8 = _ := Option.some.inj e8
    obtain rfl : c9 = _ := Option.some.inj e9
    obtain rfl : c10 = _ := Option.some.inj e10
    obtain ⟨l, hR, hg, _, A, c, rfl⟩ := open_models EntP.cells (fun x => (-9223372036854775808 ≤ x.term ∧ x.term ≤ 9223372036854775807) ∧ RdB w (.slice x.A x.cmd.length x.c) x.cmd) ht9 (by rw [hrC, hr2]) (by decide) hf9 htr9 fun m cs y hl h => dec_ent hr hrone hrC hr2 j0 j1 hb hbC hl h
    obtain ⟨bs, hB, _⟩ := open_bytes_in ht10 hb hbC hf10 htr10
    obtain ⟨D, dc, rfl⟩ := hB.form
    exact ⟨⟨n0, n1, n2, n3, n4, n5, n6, n7, b8, l, bs⟩, A, D, c, dc, ⟨r0, r1, r2, r3, r4, r5, r6, r7, fun x hx => (hg x hx).1⟩, rfl, hR, fun x hx => (hg x hx).2, hB⟩
end
end Go.Q
namespace Go.Q
theorem EntsIn.keep {w w' : World} {l : List EntP} (h : EntsIn w l) (K : Keeps none_ w w') : EntsIn w' l := fun x hx => (h x hx).keep0 (by omega) K
end Go.Q
namespace Go.Q
theorem entsv_le2 : ∀ (l : List EntP), EntsOk l → (∀ x ∈ l, x.cmd.length ≤ 65536) → (entsv l).length ≤ l.length * 65556
  | [], _, _ => by simp [entsv]
  | x :: l, h, hc => by
    have h1 := entsv_le2 l (fun y hy => h y (by simp [hy])) (fun y hy => hc y (by simp [hy]))
    have h0 := hc x (by simp)
    have h2 := tv_le (s := x.cmd) (by omega)
    have h3 := iv_length_10 (h x (by simp))
    simp only [entsv, List.length_append, List.length_cons]
    omega
theorem entsv_take_bound {l : List EntP} {i : Nat} (h : EntsOk l) (hc : ∀ x ∈ l.take i, x.cmd.length ≤ 65536) : (entsv (l.take i)).length ≤ i * 65556 := by
  have h1 := entsv_le2 (l.take i) (fun y hy => h y (List.mem_of_mem_take hy)) hc
  have h2 : (l.take i).length ≤ i := by rw [List.length_take]; omega
  exact Nat.le_trans h1 (Nat.mul_le_mul_right _ h2)
end Go.Q
namespace Go.Q
theorem msg_same {m : MsgP} {e1 e2 : Int} {o1 o2 : List UInt8} (h1 : m.Fits ∧ e1 = 0 ∧ o1 = msgv m ∨ ¬ m.Fits ∧ e1 = 3 ∧ o1 = []) (h2 : m.Fits ∧ e2 = 0 ∧ o2 = msgv m ∨ ¬ m.Fits ∧ e2 = 3 ∧ o2 = []) : o1 = o2 ∧ e1 = e2 := by
  rcases h1 with ⟨a, rfl, rfl⟩ | ⟨a, rfl, rfl⟩ <;> rcases h2 with ⟨b, rfl, rfl⟩ | ⟨b, rfl, rfl⟩ <;> first | exact ⟨rfl, rfl⟩ | exact absurd a b | exact absurd b a
end Go.Q
