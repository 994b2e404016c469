/- What the claim stands on, part 5: rules of the walk, contracts of the functions, plain laws. -/
import Derived.Test.YtlnidnadpdpciaaKDDesk4
import Derived.ChangeMaps5
import Derived.SizedLaws
import Derived.Test.YtlnidnadpdpciaaKDDesk1
import Derived.Test.YtlnidnadpdpciaaProg
import Derived.Test.YtlnidnadpdpciaaKDDesk3
set_option linter.unusedVariables false
namespace Go.Q
open Go.ChangeShapes Go.WideShapes Go.ChangeAt Go.RowKit Go.Deep

def fieldOf? (P : Program) (fs : Array Field) (j : Nat) : Option TypeDesc := match fs[j]? with
  | some f => P.underlying f.type
  | none => none

section
variable {H : Type} {enc : TypeId × Value → H} {P : Program} {w : World} {base : Nat} {spare : Nat → Bool} {held : Bool}

theorem trod_cell {e : TypeId} {fs : Array Field} {m : Nat} {cs : List Value} {y : DataW H × List MemPlace} (he : P.underlying e = some (.struct fs)) (hone : oneCellFields P fs = true) (hC : P.cellsOf e = fs.size)
    (h : DataW.trod enc P w base spare held m e cs = some y) {j : Nat} {d : TypeDesc} (hk : fieldOf? P fs j = some d) :
    ∃ v m' t z, cs[j]? = some v ∧ P.underlying t = some d ∧ DataW.trod enc P w base spare held m' t [v] = some z := by
  obtain ⟨xs, m', hm, _, hlen, hxl, hf⟩ := DataW.trod_struct he h
  rw [hC] at hlen
  unfold fieldOf? at hk
  cases hfj : fs[j]? with
  | none => rw [hfj] at hk; cases hk
  | some f =>
    rw [hfj] at hk
    simp only at hk
    have hj : j < fs.size := (Array.getElem?_eq_some_iff.1 hfj).1
    obtain ⟨ho, hc⟩ := hone_of hone j _ hfj
    have h2 := hf j _ hfj
    rw [ho, hc] at h2
    have hone' : (cs.drop j).take 1 = [cs[j]'(by omega)] := by
      rw [List.drop_eq_getElem_cons (by omega)]
      rfl
    rw [hone', List.getElem?_eq_getElem (by omega : j < xs.length)] at h2
    exact ⟨_, _, _, _, List.getElem?_eq_getElem (by omega), hk, h2⟩
theorem cell_i64 {e : TypeId} {fs : Array Field} {m : Nat} {cs : List Value} {y : DataW H × List MemPlace} (he : P.underlying e = some (.struct fs)) (hone : oneCellFields P fs = true) (hC : P.cellsOf e = fs.size)
    (h : DataW.trod enc P w base spare held m e cs = some y) (j : Nat) (hk : fieldOf? P fs j = some (.int .i64)) : ∃ n : Int, cs[j]? = some (i64 n) ∧ -9223372036854775808 ≤ n ∧ n ≤ 9223372036854775807 := by
  obtain ⟨v, m', t, z, hv, ht, hz⟩ := trod_cell he hone hC h hk
  obtain ⟨n, hn, _, hw⟩ := DataW.trod_int ht hz
  simp only [List.cons.injEq, and_true] at hn
  exact ⟨n, by rw [hv, hn], wf_i64 hw⟩
theorem cell_str {e : TypeId} {fs : Array Field} {m : Nat} {cs : List Value} {y : DataW H × List MemPlace} (he : P.underlying e = some (.struct fs)) (hone : oneCellFields P fs = true) (hC : P.cellsOf e = fs.size)
    (h : DataW.trod enc P w base spare held m e cs = some y) (j : Nat) (hk : fieldOf? P fs j = some .string) : ∃ s : List UInt8, cs[j]? = some (.string (str s)) := by
  obtain ⟨v, m', t, z, hv, ht, hz⟩ := trod_cell he hone hC h hk
  obtain ⟨s, hs, _⟩ := DataW.trod_string ht hz
  simp only [List.cons.injEq, and_true] at hs
  exact ⟨s.toList, by rw [hv, hs, str_eta]⟩
theorem slice_trod {t e : TypeId} {v : Value} {fuel : Nat} {z : DataW H × List MemPlace} (ht : P.underlying t = some (.slice e)) (h : DataW.trod enc P w base spare held fuel t [v] = some z) : ∃ A n c, v = .slice A n c := by
  rcases open_slice ht h with ⟨hcs, _⟩ | ⟨a, len, cap', m, k, D, Pl, hcs, _⟩
  · simp only [List.cons.injEq, and_true] at hcs
    exact ⟨_, _, _, hcs⟩
  · simp only [List.cons.injEq, and_true] at hcs
    exact ⟨_, _, _, hcs⟩
/-- An operation that comes in. -/
theorem dec_op {e : TypeId} {fs : Array Field} {m : Nat} {cs : List Value} {y : DataW H × List MemPlace} (he : P.underlying e = some (.struct fs)) (hone : oneCellFields P fs = true) (hC : P.cellsOf e = fs.size) (h7 : fs.size = 7)
    (k0 : fieldOf? P fs 0 = some (.int .i64)) (k1 : fieldOf? P fs 1 = some .string) (k2 : fieldOf? P fs 2 = some .string) (k3 : fieldOf? P fs 3 = some (.int .i64)) (k4 : fieldOf? P fs 4 = some .string) (k5 : fieldOf? P fs 5 = some (.int .i64)) (k6 : fieldOf? P fs 6 = some (.int .i64))
    (hl : cs.length = fs.size) (h : DataW.trod enc P w base spare held m e cs = some y) : ∃ o : Opm, o.Ok ∧ cs = o.cells := by
  rw [h7] at hl
  match cs, hl with
  | [c0, c1, c2, c3, c4, c5, c6], _ =>
    obtain ⟨n0, e0, r0⟩ := cell_i64 he hone hC h 0 k0
    obtain ⟨s1, e1⟩ := cell_str he hone hC h 1 k1
    obtain ⟨s2, e2⟩ := cell_str he hone hC h 2 k2
    obtain ⟨n3, e3, r3⟩ := cell_i64 he hone hC h 3 k3
    obtain ⟨s4, e4⟩ := cell_str he hone hC h 4 k4
    obtain ⟨n5, e5, r5⟩ := cell_i64 he hone hC h 5 k5
    obtain ⟨n6, e6, r6⟩ := cell_i64 he hone hC h 6 k6
    obtain rfl : c0 = _ := Option.some.inj e0
    obtain rfl : c1 = _ := Option.some.inj e1
    obtain rfl : c2 = _ := Option.some.inj e2
    obtain rfl : c3 = _ := Option.some.inj e3
    obtain rfl : c4 = _ := Option.some.inj e4
    obtain rfl : c5 = _ := Option.some.inj e5
    obtain rfl : c6 = _ := Option.some.inj e6
    exact ⟨⟨n0, s1, s2, n3, s4, n5, n6⟩, ⟨r0, r3, r5, r6⟩, rfl⟩
theorem flat_models {α : Type} {f : α → List Value} {Good : α → Prop} : ∀ {css : List (List Value)}, (∀ cs ∈ css, ∃ x : α, Good x ∧ cs = f x) → ∃ l : List α, css.flatten = l.flatMap f ∧ l.length = css.length ∧ ∀ x ∈ l, Good x
  | [], _ => ⟨[], rfl, rfl, by simp⟩
  | cs :: css, h => by
    obtain ⟨x, hx, rfl⟩ := h cs (by simp)
    obtain ⟨l, hb, hl, hr⟩ := flat_models (css := css) fun c hc => h c (by simp [hc])
    refine ⟨x :: l, by rw [List.flatten_cons, hb, List.flatMap_cons], by simp [hl], fun y hy => ?_⟩
    rcases List.mem_cons.1 hy with rfl | hy
    · exact hx
    · exact hr y hy
/-- A slice of structs that comes in, by its elements' models. -/
theorem open_models {α : Type} (f : α → List Value) (Good : α → Prop) {t e : TypeId} {sz : Nat} {v : Value} {d : DataW H} {ps : List MemPlace} (ht : P.underlying t = some (.slice e)) (hC : P.cellsOf e = sz) (hsz : 0 < sz)
    (hv : ∃ A n c, v = .slice A n c) {fuel : Nat} (h : DataW.trod enc P w base spare held fuel t [v] = some (d, ps))
    (dec : ∀ (m : Nat) (cs : List Value) (y : DataW H × List MemPlace), cs.length = sz → DataW.trod enc P w base spare held m e cs = some y → ∃ x, Good x ∧ cs = f x) :
    ∃ l : List α, RdT w sz f v l ∧ (∀ x ∈ l, Good x) ∧ (l.length = 0 ∨ ∃ el sp, d = .slice el sp ∧ el.length = l.length) ∧ ∃ A c, v = .slice A l.length c := by
  obtain ⟨css, hr, hc, hd, A, c, hA⟩ := open_rows (fun cs => ∃ x, Good x ∧ cs = f x) ht hC hsz hv h dec
  obtain ⟨l, hb, hl, hg⟩ := flat_models fun cs hcs => (hc cs hcs).2
  refine ⟨l, by unfold RdT; rw [← hb]; exact hr, hg, ?_, A, c, by rw [hA, hl]⟩
  rcases hd with rfl | ⟨el, sp, h1, h2⟩
  · exact .inl (by simpa using hl)
  · exact .inr ⟨el, sp, h1, by omega⟩
def RowM.Ok (x : RowM) : Prop := -9223372036854775808 ≤ x.amount ∧ x.amount ≤ 9223372036854775807
theorem dec_row {e : TypeId} {fs : Array Field} {m : Nat} {cs : List Value} {y : DataW H × List MemPlace} (he : P.underlying e = some (.struct fs)) (hone : oneCellFields P fs = true) (hC : P.cellsOf e = fs.size) (h2 : fs.size = 2)
    (k0 : fieldOf? P fs 0 = some .string) (k1 : fieldOf? P fs 1 = some (.int .i64)) (hl : cs.length = 2) (h : DataW.trod enc P w base spare held m e cs = some y) : ∃ x : RowM, x.Ok ∧ cs = x.cells := by
  match cs, hl with
  | [c0, c1], _ =>
    obtain ⟨s0, e0⟩ := cell_str he hone hC h 0 k0
    obtain ⟨n1, e1, r1⟩ := cell_i64 he hone hC h 1 k1
    obtain rfl : c0 = _ := Option.some.inj e0
    obtain rfl : c1 = _ := Option.some.inj e1
    exact ⟨⟨s0, n1⟩, r1, rfl⟩
end
end Go.Q
namespace Go.Q
open Go.ChangeShapes Go.WideShapes Go.ChangeAt Go.RowKit Go.Deep

/-- An entry: what is in it, and where its bytes stand. -/
structure EntP where
  term : Int
  A : Option Addr
  c : Nat
  cmd : List UInt8
def EntP.cells (x : EntP) : List Value := [i64 x.term, .slice x.A x.cmd.length x.c]
def EntP.key (x : EntP) : Int × List UInt8 := (x.term, x.cmd)
theorem EntP.two (x : EntP) : x.cells.length = 2 := rfl
theorem EntP.one (x : EntP) : oneCells x.cells = true := rfl
abbrev RdE (w : World) (v : Value) (l : List EntP) : Prop := RdT w 2 EntP.cells v l
abbrev OwnE (w : World) (base e : Nat) (v : Value) (l : List EntP) : Prop := OwnT w base e 2 EntP.cells v l
def EntsIn (w : World) (l : List EntP) : Prop := ∀ x ∈ l, RdB w (.slice x.A x.cmd.length x.c) x.cmd
def EntsOk (l : List EntP) : Prop := ∀ x ∈ l, -9223372036854775808 ≤ x.term ∧ x.term ≤ 9223372036854775807
structure MsgP where
  kind : Int
  group : Int
  frm : Int
  to : Int
  term : Int
  index : Int
  logTerm : Int
  commit : Int
  ok : Bool
  entries : List EntP
  data : List UInt8
def MsgP.ints (m : MsgP) : List Int := [m.kind, m.group, m.frm, m.to, m.term, m.index, m.logTerm, m.commit]
structure MsgP.Ok (m : MsgP) : Prop where
  kind : -9223372036854775808 ≤ m.kind ∧ m.kind ≤ 9223372036854775807
  group : -9223372036854775808 ≤ m.group ∧ m.group ≤ 9223372036854775807
  frm : -9223372036854775808 ≤ m.frm ∧ m.frm ≤ 9223372036854775807
  to : -9223372036854775808 ≤ m.to ∧ m.to ≤ 9223372036854775807
  term : -9223372036854775808 ≤ m.term ∧ m.term ≤ 9223372036854775807
  index : -9223372036854775808 ≤ m.index ∧ m.index ≤ 9223372036854775807
  logTerm : -9223372036854775808 ≤ m.logTerm ∧ m.logTerm ≤ 9223372036854775807
  commit : -9223372036854775808 ≤ m.commit ∧ m.commit ≤ 9223372036854775807
  ents : EntsOk m.entries
def entsv : List EntP → List UInt8
  | [] => []
  | x :: l => iv x.term ++ (tv x.cmd ++ entsv l)
def headv (m : MsgP) : List UInt8 := iv m.kind ++ (iv m.group ++ (iv m.frm ++ (iv m.to ++ (iv m.term ++ (iv m.index ++ (iv m.logTerm ++ (iv m.commit ++ uv m.ok.toNat)))))))
def msgv (m : MsgP) : List UInt8 := headv m ++ (uv m.entries.length ++ (entsv m.entries ++ tv m.data))
def sumc : List EntP → Nat
  | [] => 0
  | x :: l => x.cmd.length + sumc l
structure MsgP.Fits (m : MsgP) : Prop where
  count : m.entries.length ≤ 4096
  data : m.data.length ≤ 65536
  cmds : ∀ x ∈ m.entries, x.cmd.length ≤ 65536
  size : (msgv m).length ≤ 1048576

theorem sumc_append : ∀ (l m : List EntP), sumc (l ++ m) = sumc l + sumc m
  | [], m => by simp [sumc]
  | x :: l, m => by simp only [List.cons_append, sumc, sumc_append l m]; omega
theorem sumc_take_le (l : List EntP) (i : Nat) : sumc (l.take i) ≤ sumc l := by
  have := sumc_append (l.take i) (l.drop i)
  rw [List.take_append_drop] at this
  omega
theorem entsv_sum : ∀ (l : List EntP), sumc l ≤ (entsv l).length
  | [] => Nat.le_refl _
  | x :: l => by
    have h1 := entsv_sum l
    have h2 := tv_ge x.cmd
    simp only [entsv, sumc, List.length_append]
    omega
theorem msgv_len (m : MsgP) : (msgv m).length = (headv m).length + (uv m.entries.length).length + (entsv m.entries).length + (tv m.data).length := by
  unfold msgv
  simp only [List.length_append]
  omega
/-- What the reference asks ahead of writing: all up to i is short enough. -/
def MsgP.Pre (m : MsgP) (i : Nat) : Prop := m.entries.length ≤ 4096 ∧ m.data.length ≤ 65536 ∧ (∀ x ∈ m.entries.take i, x.cmd.length ≤ 65536) ∧ (i = 0 ∨ m.data.length + sumc (m.entries.take i) ≤ 1048576)
theorem MsgP.Fits.pre {m : MsgP} (h : m.Fits) (i : Nat) : m.Pre i := by
  refine ⟨h.count, h.data, fun x hx => h.cmds x (List.mem_of_mem_take hx), .inr ?_⟩
  have h1 := h.size
  rw [msgv_len] at h1
  have h2 := entsv_sum m.entries
  have h3 := sumc_take_le m.entries i
  have h4 := tv_ge m.data
  omega
section
variable {H : Type} {enc : TypeId × Value → H} {P : Program} {w : World} {base : Nat} {spare : Nat → Bool} {held : Bool}
end
end Go.Q
namespace Go.Q
theorem EntsIn.keep {w w' : World} {l : List EntP} (h : EntsIn w l) (K : Keeps none_ w w') : EntsIn w' l := fun x hx => (h x hx).keep0 (by omega) K
end Go.Q
namespace Go.Q
end Go.Q
namespace Go.Q
end Go.Q
namespace Go.Q
open Go.ChangeShapes Go.WideShapes Go.ChangeAt Go.RowKit Go.Deep

/-- A measure of what is read: at least its letters, its elements, its parts. -/
structure Bulk {H : Type} (B : DataW H → Nat) : Prop where
  str : ∀ s, s.length ≤ B (.lit (.string s))
  agg : ∀ ps z, z ∈ ps → B z ≤ B (.agg ps)
  el : ∀ es sp z, z ∈ es → B z ≤ B (.slice es sp)
  len : ∀ es sp, es.length ≤ B (.slice es sp)

section
variable {H : Type} {enc : TypeId × Value → H} {P : Program} {w : World} {base : Nat} {spare : Nat → Bool} {held : Bool} {B : DataW H → Nat}

def i64s (P : Program) (fs : Array Field) : Nat → Bool
  | 0 => true
  | j + 1 => (match fieldOf? P fs j with | some (.int .i64) => true | _ => false) && i64s P fs j
end
end Go.Q
namespace Go.Q
open Go.RowKit

structure MsgP.Same (a b : MsgP) : Prop where
  kind : a.kind = b.kind
  group : a.group = b.group
  frm : a.frm = b.frm
  to : a.to = b.to
  term : a.term = b.term
  index : a.index = b.index
  logTerm : a.logTerm = b.logTerm
  commit : a.commit = b.commit
  ok : a.ok = b.ok
  ents : a.entries.map EntP.key = b.entries.map EntP.key
  data : a.data = b.data
end Go.Q
namespace Go.Q
open Go.ChangeShapes Go.WideShapes Go.ChangeAt Go.RowKit Go.Deep

structure LetP where
  kind : Int
  n : Int
  group : Int
  op : Opm
  rep : ReplyM
  body : List UInt8
structure LetP.Ok (x : LetP) : Prop where
  kind : -9223372036854775808 ≤ x.kind ∧ x.kind ≤ 9223372036854775807
  n : -9223372036854775808 ≤ x.n ∧ x.n ≤ 9223372036854775807
  group : -9223372036854775808 ≤ x.group ∧ x.group ≤ 9223372036854775807
  op : x.op.Ok
  rep : x.rep.Ok
/-- The cells of a letter whose rows and bytes stand at V and D. -/
def LetP.cells (x : LetP) (V : Option Addr) (c : Nat) (D : Option Addr) (dc : Nat) : List Value :=
  [i64 x.kind, i64 x.n, i64 x.group, i64 x.op.kind, .string (str x.op.frm), .string (str x.op.to), i64 x.op.amount, .string (str x.op.key), i64 x.op.slot, i64 x.op.shard, i64 x.rep.why, i64 x.rep.amount, .slice V x.rep.rows.length c, .slice D x.body.length dc]
section
variable {H : Type} {enc : TypeId × Value → H} {P : Program} {w : World} {base : Nat} {spare : Nat → Bool} {held : Bool}
/-- A field: where it begins, how many cells it has, its type. -/
def fieldAt? (P : Program) (fs : Array Field) (j : Nat) : Option (Nat × Nat × TypeId) := match fs[j]? with
  | some f => some (f.offset, P.cellsOf f.type, f.type)
  | none => none
theorem trod_field {e : TypeId} {fs : Array Field} {m : Nat} {cs : List Value} {y : DataW H × List MemPlace} (he : P.underlying e = some (.struct fs)) (h : DataW.trod enc P w base spare held m e cs = some y) {j off sz : Nat} {t : TypeId} (hj : fieldAt? P fs j = some (off, sz, t)) :
    ∃ m' z, DataW.trod enc P w base spare held m' t ((cs.drop off).take sz) = some z ∧ ∀ n ∈ z.1.weights P t, n ∈ y.1.weights P e := by
  obtain ⟨xs, m', hm, hy, hlen, hxl, hf⟩ := DataW.trod_struct he h
  unfold fieldAt? at hj
  cases hfj : fs[j]? with
  | none => rw [hfj] at hj; cases hj
  | some f =>
    rw [hfj] at hj
    simp only [Option.some.injEq, Prod.mk.injEq] at hj
    obtain ⟨rfl, rfl, rfl⟩ := hj
    have h2 := hf j f hfj
    have hlt : j < xs.length := by have := (Array.getElem?_eq_some_iff.1 hfj).1; omega
    rw [List.getElem?_eq_getElem hlt] at h2
    refine ⟨_, _, h2, fun n hn => ?_⟩
    subst hy
    simp only [DataW.weights, he]
    exact DataW.weights_mem_each (j := j) (by rw [List.getElem?_map, Array.getElem?_toList, hfj]; rfl) (by rw [List.getElem?_map, List.getElem?_eq_getElem hlt]; rfl) n hn
theorem slice_weight {t e : TypeId} {n sz : Nat} {d : DataW H} (hu : P.underlying t = some (.slice e)) (hb : P.bytesOf e = sz) (hz : ∀ k ∈ d.weights P t, k ≤ reachBytes) (h : n = 0 ∨ ∃ el sp, d = .slice el sp ∧ el.length = n) : n * sz ≤ 140737488351232 := by
  rcases h with rfl | ⟨el, sp, rfl, rfl⟩
  · simp
  · have := hz ((el.length + sp.length) * P.bytesOf e) (by simp [DataW.weights, hu])
    rw [hb] at this
    have e : reachBytes = 140737488351232 := by decide
    rw [e, Nat.add_mul] at this
    omega
theorem weight_in {ts : List TypeId} {ds : List (DataW H)} (hz : (DataW.weightsEach P ts ds).all (· ≤ reachBytes) = true) {j : Nat} {t : TypeId} {d : DataW H} (ht : ts[j]? = some t) (hd : ds[j]? = some d) : ∀ k ∈ d.weights P t, k ≤ reachBytes :=
  fun k hk => of_decide_eq_true (List.all_eq_true.1 hz k (DataW.weights_mem_each ht hd k hk))
theorem dec_reply {e r t0 t1 t2 : TypeId} {fs rs : Array Field} {m : Nat} {cs : List Value} {y : DataW H × List MemPlace} (he : P.underlying e = some (.struct fs))
    (k0 : fieldAt? P fs 0 = some (0, 1, t0)) (k1 : fieldAt? P fs 1 = some (1, 1, t1)) (k2 : fieldAt? P fs 2 = some (2, 1, t2)) (u0 : P.underlying t0 = some (.int .i64)) (u1 : P.underlying t1 = some (.int .i64)) (u2 : P.underlying t2 = some (.slice r))
    (hr : P.underlying r = some (.struct rs)) (hrone : oneCellFields P rs = true) (hrC : P.cellsOf r = rs.size) (hr2 : rs.size = 2) (hrb : P.bytesOf r = 24)
    (j0 : fieldOf? P rs 0 = some .string) (j1 : fieldOf? P rs 1 = some (.int .i64)) (hl : cs.length = 3) (hz : ∀ k ∈ y.1.weights P e, k ≤ reachBytes) (h : DataW.trod enc P w base spare held m e cs = some y) :
    ∃ (p : ReplyM) (A : Option Addr) (c : Nat), p.Ok ∧ cs = [i64 p.why, i64 p.amount, .slice A p.rows.length c] ∧ RdR w (.slice A p.rows.length c) p.rows ∧ p.rows.length * 24 ≤ 140737488351232 := by
  match cs, hl with
  | [c0, c1, c2], _ =>
    obtain ⟨m0, z0, s0, _⟩ := trod_field he h k0
    obtain ⟨m1, z1, s1, _⟩ := trod_field he h k1
    obtain ⟨m2, z2, s2, w2⟩ := trod_field he h k2
    obtain ⟨n0, e0, _, r0⟩ := DataW.trod_int u0 s0
    obtain ⟨n1, e1, _, r1⟩ := DataW.trod_int u1 s1
    have hs2 := slice_trod u2 (v := c2) s2
    obtain ⟨l, hR, hg, hd, A, c, rfl⟩ := open_models (d := z2.1) (ps := z2.2) RowM.cells RowM.Ok u2 (by rw [hrC, hr2]) (by decide) hs2 s2 fun m cs y hl h => dec_row hr hrone hrC hr2 j0 j1 hl h
    simp only [List.drop_succ_cons, List.drop_zero, List.take_succ_cons, List.take_zero, List.cons.injEq, and_true] at e0 e1
    subst e0; subst e1
    exact ⟨⟨n0, n1, l⟩, A, c, ⟨wf_i64 r0, wf_i64 r1, hg⟩, rfl, hR, slice_weight u2 hrb (fun k hk => hz k (w2 k hk)) hd⟩
end
/-! ### as bytes -/
/-- Can it be packed? -/
def LetP.Fits (x : LetP) : Prop :=
  (x.kind = 2 → x.op.frm.length ≤ 65536 ∧ x.op.to.length ≤ 65536 ∧ x.op.key.length ≤ 65536) ∧ (x.kind = 3 → x.rep.rows.length ≤ 600 ∧ ∀ r ∈ x.rep.rows, r.name.length ≤ 65536) ∧ (x.kind ≠ 2 → x.kind ≠ 3 → x.body.length ≤ 65536)
instance (x : LetP) : Decidable x.Fits := by unfold LetP.Fits; infer_instance
def letv (x : LetP) : List UInt8 :=
  iv x.kind ++ (if x.kind = 2 then iv x.n ++ opv x.op else if x.kind = 3 then iv x.n ++ rpv x.rep else if x.kind = 5 then iv x.n ++ (iv x.group ++ tv x.body) else if x.kind = 4 then iv x.n ++ tv x.body else tv x.body)
/-- A letter as bytes, and the error. -/
def packB (x : LetP) : List UInt8 × Int :=
  if x.kind < 1 ∨ 5 < x.kind then ([], 1) else if ¬ x.Fits then ([], 3) else if 1048576 < (letv x).length then ([], 3) else (letv x, 0)
theorem let_op {x : LetP} (h : x.Ok) (hf : x.Fits) (hk : x.kind = 2) : (opv x.op).length ≤ 300000 := by
  obtain ⟨a1, a2, a3⟩ := hf.1 hk
  have := opv_len x.op
  have b1 := tv_le (s := x.op.frm) (by omega)
  have b2 := tv_le (s := x.op.to) (by omega)
  have b3 := tv_le (s := x.op.key) (by omega)
  have b4 := iv_length_10 h.op.kind
  have b5 := iv_length_10 h.op.amount
  have b6 := iv_length_10 h.op.slot
  have b7 := iv_length_10 h.op.shard
  omega
theorem let_rep {x : LetP} (h : x.Ok) (hf : x.Fits) (hk : x.kind = 3) : (rpv x.rep).length ≤ 40000000 := by
  obtain ⟨a1, a2⟩ := hf.2.1 hk
  have := rpv_len x.rep
  have b1 := iv_length_10 h.rep.why
  have b2 := iv_length_10 h.rep.amount
  have b3 := uv_length_10 (n := x.rep.rows.length) (by omega)
  have b4 := rowsv_len_le x.rep.rows a2 h.rep.rows (by decide)
  have b5 : x.rep.rows.length * (65536 + 20) ≤ 600 * (65536 + 20) := Nat.mul_le_mul_right _ a1
  omega
theorem let_body {x : LetP} (hf : x.Fits) (h2 : x.kind ≠ 2) (h3 : x.kind ≠ 3) : x.body.length ≤ 65536 := hf.2.2 h2 h3
/-- The group that an operation goes to. -/
def groupI (k : Int) : Int := if k = 6 ∨ k = 7 then 0 else -1
/-- What counts of a letter. -/
def LetP.just (x : LetP) : LetP :=
  ⟨x.kind, if x.kind = 1 then 0 else x.n, if x.kind = 5 then x.group else 0, if x.kind = 2 then x.op else ⟨0, [], [], 0, [], 0, 0⟩, if x.kind = 3 then x.rep else ⟨0, 0, []⟩, if x.kind = 2 ∨ x.kind = 3 then [] else x.body⟩
end Go.Q
namespace Go.Q
variable {P : Program} {n : Nat} {Q : Exit → Loc → World → Prop} {L : Loc} {w : World} {f : Func} {p : List Nat} {os : Array Oper} {i : Nat} {K : Loc → World → Prop}
theorem qs (h : wp P n (cd f (0 :: p)) (thn (wp P n (cd f (1 :: p)) Q) Q) L w) (hc : isSeq (cd f p) = true := by kernel_rfl) : wp P n (cd f p) Q L w := q_seq hc h
theorem qg (h : Ops P n (opsOf (cd f p)) 0 (Q .normal) L w) (hc : isRegion (cd f p) = true := by kernel_rfl) : wp P n (cd f p) Q L w := q_region hc h
theorem od (h : K L w) (hi : Nat.beq os.size i = true := by kernel_rfl) : Ops P n os i K L w := Ops.done hi h
theorem og (k : Nat) (R : Loc) (j : Nat) (hn : Ops P n os j K R w) (hj : Nat.beq (i + k) j = true := by kernel_rfl) (h : (match Go.Q.regs P n os k i L with | some L1 => restrict L1 (R.map Prod.fst) | none => none) = some R := by kernel_rfl) : Ops P n os i K L w := Ops.regs k R hj h hn
theorem Keeps.t0 {a b c : World} (h : Keeps none_ a b) (k : Keeps none_ b c) : Keeps none_ a c := h.trans k (fun _ _ h => h) (fun _ _ h => h)
theorem Has.k1 {a b : World} {x c : Nat} {o : Obj} (h : Has a x o) (k : Keeps (fun i => i = c) a b) (hn : x ≠ c) : Has b x o := h.keep k hn
theorem Keeps.t1 {U : Nat → Prop} {a b c : World} {x : Nat} (h : Keeps U a b) (k : Keeps (fun i => i = x) b c) (hx : x < a.heap.size → U x) : Keeps U a c := h.trans k (fun _ _ h => h) (fun i hi h => by subst h; exact hx hi)
theorem Keeps.tn {U : Nat → Prop} {a b c : World} (h : Keeps U a b) (k : Keeps none_ b c) : Keeps U a c := h.trans k (fun _ _ h => h) (fun _ _ h => h.elim)
end Go.Q
namespace Go.Proofs.Ytlnidnadpdpciaa
open Go.Q Go.RowKit
theorem tyB : ElemTy Try.prog 28 5 1 1 := elemTy (by kernel_rfl)

theorem Clip_calls (w : World) (A : Option Addr) (n c : Nat) (hnc : n ≤ c)  : Calls Try.prog 83 ⟨[(Value.slice A n c)]⟩ w (fun e w' => e = .returned (.slice A n n) ∧ w = w') := by
 have K0 : Keeps none_ w w := Keeps.refl w
 refine q_calls Try.func83 (by kernel_rfl) (by kernel_rfl) ?_
 refine qs ?_
 refine qg ?_
 refine og 1 [(0, (Value.slice A n c)), (2, (Value.slice none 0 0))] 1 ?_
 refine od ?_
 refine qs ?_
 refine qg ?_
 refine og 5 [(2, (Value.slice none 0 0)), (3, (Value.slice A n c)), (5, (i64 ((n : Nat) : Int))), (7, (i64 ((n : Nat) : Int)))] 5 ?_
 have hcut := run_cut (sz := 1) (P := Try.prog) (w := w) (t := 28) (A := A) (n := n) (c := c) 0 n n (lo := none) (hi := some (i64 ((n : Nat) : Int))) (mx := some (i64 ((n : Nat) : Int))) tyB.slice (by kernel_rfl) (.inl ⟨rfl, rfl⟩) (.inr ⟨_, rfl⟩) (.inr ⟨_, rfl⟩) (by omega) (by omega) (by omega)
 have hA : (if n = 0 then A else Option.map (fun q => Addr.add q (0 * 1)) A) = A := by cases A <;> simp [Addr.add]
 rw [hA, Nat.sub_zero] at hcut
 refine Ops.go (v := (Value.slice A n n)) (by kernel_rfl) (Runs.slice (by kernel_rfl) hcut) (d := (some 8)) (by kernel_rfl) rfl ?_
 clear hcut hA
 refine og 1 [(2, (Value.slice A n n))] 7 ?_
 refine od ?_
 refine q_ret (by kernel_rfl) ?_
 refine ⟨(Value.slice A n n), retv_tmp rfl rfl, ?_⟩
 exact ⟨rfl, rfl⟩

theorem Uint_calls (w : World) (v : Value) (xs : List UInt8) (m0 : Nat) (hv : RdB w v xs) (hm0 : m0 < 18446744073709551616) (hl : xs.length ≤ 140737488351232) : Calls Try.prog 67 ⟨[v, (Value.int IntKind.u64 ((m0 : Nat) : Int))]⟩ w (fun e w' => ∃ v', e = .returned v' ∧ Keeps none_ w w' ∧ OwnB w' w.heap.size 5 v' (xs ++ uv m0)) := by
 obtain ⟨A, c, rfl⟩ := hv.form
 have hsl := hv.slice
 have K0 : Keeps none_ w w := Keeps.refl w
 refine q_calls Try.func67 (by kernel_rfl) (by kernel_rfl) ?_
 refine qs ?_
 refine qg ?_
 refine og 1 [(0, (Value.slice A xs.length c)), (1, (Value.int IntKind.u64 ((m0 : Nat) : Int))), (4, (Value.slice none 0 0))] 1 ?_
 refine od ?_
 refine qs ?_
 refine qg ?_
 refine og 1 [(0, (Value.slice A xs.length c)), (1, (Value.int IntKind.u64 ((m0 : Nat) : Int))), (4, (Value.slice none 0 0)), (5, (Value.slice A xs.length c))] 1 ?_
 refine Ops.call (by kernel_rfl) (d := (some 6)) (by kernel_rfl) (Clip_calls _ A xs.length c (by omega)) ?_
 rintro _ _ ⟨rfl, rfl⟩
 refine ⟨_, _, rfl, rfl, ?_⟩
 refine og 1 [(0, (Value.slice A xs.length xs.length)), (1, (Value.int IntKind.u64 ((m0 : Nat) : Int))), (4, (Value.slice none 0 0))] 3 ?_
 refine od ?_
 refine qs ?_
 refine q_block (id := 0) (by kernel_rfl) ?_
 refine q_keep (R := [(0, (Value.slice A xs.length xs.length)), (1, (Value.int IntKind.u64 ((m0 : Nat) : Int))), (4, (Value.slice none 0 0))]) (by kernel_rfl) ?_
 refine q_loop (fun (gs : Value × Nat × (List UInt8)) L (wx : World) => match gs with | (v, m, ys) => L = [(0, v), (1, (Value.int IntKind.u64 ((m : Nat) : Int))), (4, (Value.slice none 0 0))] ∧ Wr wx w.heap.size 5 v ys ∧ ys ++ uv m = xs ++ uv m0 ∧ m < 18446744073709551616 ∧ Keeps none_ w wx) (fun (gs : Value × Nat × (List UInt8)) => match gs with | (v, m, ys) => m) (.slice A xs.length xs.length, m0, xs) (by kernel_rfl) ⟨rfl, .inl ⟨A, rfl, hv.clip⟩, rfl, hm0, K0⟩ ?_
 clear K0
 rintro ⟨v, m, ys⟩ _ w1 ⟨rfl, hW, hE, hm, K2⟩
 have hlen := congrArg List.length hE
 simp only [List.length_append] at hlen
 have hu := uv_length_10 hm0
 have hp := uv_pos m
 refine qs ?_
 refine qs ?_
 refine qg ?_
 refine og 2 [(0, v), (1, (Value.int IntKind.u64 ((m : Nat) : Int))), (4, (Value.slice none 0 0)), (8, (Value.bool (decide (((m : Nat) : Int) > 127))))] 2 ?_
 refine od ?_
 refine q_cond (o := .tmp 8) (b := (decide (((m : Nat) : Int) > 127))) (by kernel_rfl) rfl (fun h3 => ?_) (fun h3 => ?_)
 ·rw [h3]
  have p4 : ((m : Nat) : Int) > 127 := of_decide_eq_true h3
  refine q_skip (by kernel_rfl) ?_
  refine qs ?_
  refine q_block (id := 1) (by kernel_rfl) ?_
  refine qg ?_
  refine og 3 [(0, v), (1, (Value.int IntKind.u64 ((m : Nat) : Int))), (4, (Value.slice none 0 0)), (11, v), (13, (Value.int IntKind.u8 (IntKind.u8.wrap ((m : Nat) : Int))))] 3 ?_
  have e5 : IntKind.u8.wrap ((m : Nat) : Int) = ((m % 256 : Nat) : Int) := u8_wrap m
  rw [e5]
  clear e5
  refine Ops.go (v := (Value.int IntKind.u8 (((m % 256) % 128 + 128 : Nat) : Int))) (by kernel_rfl) (Runs.int (op := .or) (t := 5) (by kernel_rfl) (run_or128 (by omega))) (d := (some 14)) (by kernel_rfl) rfl ?_
  refine Ops.new (o := rowL [(Value.int IntKind.u8 (((m % 256) % 128 + 128 : Nat) : Int))] 5) (V := fun b => (Value.slice (some ⟨b, 0, none⟩) 1 1)) (by kernel_rfl) (d := (some 15)) (by kernel_rfl) (fun b => rfl) (fun b6 w7 hb8 H9 K10 hs11 => ?_)
  have nb6 : w.heap.size ≤ b6 := by have := K2.size; omega
  replace K2 := K2.trans K10 (U := none_) (fun i h1 h2 => h2) (fun i h1 h2 => by exact h2)
  replace hW := hW.keep0 K10
  clear K10 hs11
  obtain ⟨v12, w13, hr14, hO15, K16⟩ := Wr.app (ty := 28) tyB hW (lit1 (by omega) H9) (by simp) (by (try simp only at *); (try simp only [List.length_append] at *); (try simp only [List.length_cons] at *); (try simp only [List.length_nil] at *); omega) K2.size
  refine Ops.go (v := v12) (by kernel_rfl) (Runs.append (ts := #[28, 28]) (ty := 28) (vs := [v, (Value.slice (some ⟨b6, 0, none⟩) 1 1)]) (by kernel_rfl) hr14) (d := (some 16)) (by kernel_rfl) rfl ?_
  have K17 := Keeps.own2 K2 K16
  clear H9 hW K2 hr14 K16
  refine og 1 [(0, v12), (1, (Value.int IntKind.u64 ((m : Nat) : Int))), (4, (Value.slice none 0 0))] 7 ?_
  refine od ?_
  refine qg ?_
  refine og 2 [(0, v12), (1, (Value.int IntKind.u64 ((m : Nat) : Int))), (4, (Value.slice none 0 0)), (10, (Value.int IntKind.u64 ((((m : Nat) : Int)).fdiv 128)))] 2 ?_
  have e18 : (((m : Nat) : Int)).fdiv 128 = ((m / 128 : Nat) : Int) := fdiv_nat m 128
  rw [e18]
  clear e18
  refine og 1 [(0, v12), (1, (Value.int IntKind.u64 ((m / 128 : Nat) : Int))), (4, (Value.slice none 0 0))] 3 ?_
  refine Ops.keep (R := [(0, v12), (1, (Value.int IntKind.u64 ((m / 128 : Nat) : Int))), (4, (Value.slice none 0 0))]) (by kernel_rfl) ?_
  refine od ?_
  exact ⟨(v12, m / 128, ys ++ [byte (m % 256 % 128 + 128)]), ⟨rfl, .inr hO15, (by rw [← hE, uv_ge (n := m) (by omega)]; rw [show byte (m % 256 % 128 + 128) = byte (m % 128 + 128) from (by rw [Nat.mod_mod_of_dvd m (by decide)])]; simp), (by omega), K17⟩, (show (m / 128) < m from by omega)⟩
 ·rw [h3]
  have p19 : ¬ (((m : Nat) : Int) > 127) := of_decide_eq_false h3
  refine q_exit (id := 0) (by kernel_rfl) ?_
  refine qs ?_
  refine qg ?_
  refine og 3 [(4, (Value.slice none 0 0)), (17, v), (19, (Value.int IntKind.u8 (IntKind.u8.wrap ((m : Nat) : Int))))] 3 ?_
  have e20 : IntKind.u8.wrap ((m : Nat) : Int) = ((m % 256 : Nat) : Int) := u8_wrap m
  rw [e20]
  clear e20
  refine Ops.new (o := rowL [(Value.int IntKind.u8 ((m % 256 : Nat) : Int))] 5) (V := fun b => (Value.slice (some ⟨b, 0, none⟩) 1 1)) (by kernel_rfl) (d := (some 20)) (by kernel_rfl) (fun b => rfl) (fun b21 w22 hb23 H24 K25 hs26 => ?_)
  have nb21 : w.heap.size ≤ b21 := by have := K2.size; omega
  replace K2 := K2.trans K25 (U := none_) (fun i h1 h2 => h2) (fun i h1 h2 => by exact h2)
  replace hW := hW.keep0 K25
  clear K25 hs26
  obtain ⟨v27, w28, hr29, hO30, K31⟩ := Wr.app (ty := 28) tyB hW (lit1 (by omega) H24) (by simp) (by (try simp only at *); (try simp only [List.length_append] at *); (try simp only [List.length_cons] at *); (try simp only [List.length_nil] at *); omega) K2.size
  refine Ops.go (v := v27) (by kernel_rfl) (Runs.append (ts := #[28, 28]) (ty := 28) (vs := [v, (Value.slice (some ⟨b21, 0, none⟩) 1 1)]) (by kernel_rfl) hr29) (d := (some 21)) (by kernel_rfl) rfl ?_
  have K32 := Keeps.own2 K2 K31
  clear H24 hW K2 hr29 K31
  refine og 1 [(4, v27)] 6 ?_
  refine od ?_
  refine q_ret (by kernel_rfl) ?_
  refine ⟨v27, retv_tmp rfl rfl, ?_⟩
  refine ⟨_, rfl, K32, ?_⟩
  have hfin : ys ++ [byte (m % 256)] = xs ++ uv m0 := by rw [← hE, uv_lt (by omega)]; rw [show m % 256 = m from (by omega)]
  rw [hfin] at hO30
  exact hO30

theorem Int_calls (w : World) (v : Value) (xs : List UInt8) (n : Int) (hv : RdB w v xs) (hn : -9223372036854775808 ≤ n ∧ n ≤ 9223372036854775807) (hl : xs.length ≤ 140737488351232) : Calls Try.prog 65 ⟨[v, (i64 n)]⟩ w (fun e w' => ∃ v', e = .returned v' ∧ Keeps none_ w w' ∧ OwnB w' w.heap.size 5 v' (xs ++ iv n)) := by
 have hz := zz_lt hn
 have hz1 := zz_neg n
 have hz2 := zz_pos n
 have K0 : Keeps none_ w w := Keeps.refl w
 refine q_calls Try.func65 (by kernel_rfl) (by kernel_rfl) ?_
 refine qs ?_
 refine qg ?_
 refine og 1 [(0, v), (1, (i64 n)), (4, (Value.slice none 0 0))] 1 ?_
 refine od ?_
 refine qs ?_
 refine qg ?_
 refine og 7 [(4, (Value.slice none 0 0)), (5, v), (8, (Value.int IntKind.u64 (IntKind.u64.wrap ((IntKind.u64.wrap n) * 2)))), (11, (Value.int IntKind.u64 (IntKind.u64.wrap ((n).fdiv 9223372036854775808))))] 7 ?_
 refine Ops.go (v := (Value.int IntKind.u64 ((zz n : Nat) : Int))) (by kernel_rfl) (Runs.int (op := .xor) (t := 112) (by kernel_rfl) (run_zigzag hn)) (d := (some 12)) (by kernel_rfl) rfl ?_
 refine Ops.call (by kernel_rfl) (d := (some 13)) (by kernel_rfl) (Uint_calls _ v xs (zz n) (hv.keep0 (by omega) K0) (by omega) (by (try simp only at *); (try simp only [List.length_append] at *); (try simp only [List.length_cons] at *); (try simp only [List.length_nil] at *); omega)) ?_
 rintro _ w3 ⟨v2, rfl, K4, hO5⟩
 have O6 := own_base hO5 K0.size
 clear hO5
 have hL1 := uv_length_10 (n := zz n) (by omega)
 refine ⟨_, _, rfl, rfl, ?_⟩
 replace K0 := K0.t0 K4
 clear K4
 refine og 1 [(4, v2)] 10 ?_
 refine od ?_
 refine q_ret (by kernel_rfl) ?_
 refine ⟨v2, retv_tmp rfl rfl, ?_⟩
 exact ⟨_, rfl, K0, O6⟩

theorem ints_calls (w : World) (v : Value) (xs : List UInt8) (b : Nat) (l : List Int) (n : Nat) (hv : RdB w v xs) (H0 : Has w b (rowL (ints l) 2)) (hln : l.length = n) (hr : ∀ x ∈ l, -9223372036854775808 ≤ x ∧ x ≤ 9223372036854775807) (h0 : 0 < n ∧ n ≤ 1000) (hl : xs.length ≤ 70368744173568) : Calls Try.prog 33 ⟨[v, (Value.slice (some ⟨b, 0, none⟩) n n)]⟩ w (fun e w' => ∃ v', e = .returned v' ∧ Keeps none_ w w' ∧ OwnB w' w.heap.size 5 v' (xs ++ ivs l)) := by
 have K0 : Keeps none_ w w := Keeps.refl w
 refine q_calls Try.func33 (by kernel_rfl) (by kernel_rfl) ?_
 refine qs ?_
 refine qg ?_
 refine og 1 [(0, v), (1, (Value.slice (some ⟨b, 0, none⟩) n n)), (4, (Value.slice none 0 0))] 1 ?_
 refine od ?_
 refine qs ?_
 refine qs ?_
 refine qg ?_
 refine og 3 [(0, v), (4, (Value.slice none 0 0)), (7, (Value.slice (some ⟨b, 0, none⟩) n n)), (8, (i64 ((n : Nat) : Int))), (9, (i64 0))] 3 ?_
 refine od ?_
 refine q_block (id := 0) (by kernel_rfl) ?_
 refine q_keep (R := [(0, v), (4, (Value.slice none 0 0)), (7, (Value.slice (some ⟨b, 0, none⟩) n n)), (8, (i64 ((n : Nat) : Int))), (9, (i64 0))]) (by kernel_rfl) ?_
 refine q_loop (fun (gs : Value × Nat × (List UInt8)) L (wx : World) => match gs with | (v, i, ys) => L = [(0, v), (4, (Value.slice none 0 0)), (7, (Value.slice (some ⟨b, 0, none⟩) n n)), (8, (i64 ((n : Nat) : Int))), (9, (i64 ((i : Nat) : Int)))] ∧ RdB wx v ys ∧ (0 < i → OwnB wx w.heap.size 5 v ys) ∧ ys = xs ++ ivs (l.take i) ∧ i ≤ n ∧ Keeps none_ w wx ∧ Has wx b (rowL (ints l) 2)) (fun (gs : Value × Nat × (List UInt8)) => match gs with | (v, i, ys) => n - i) (v, 0, xs) (by kernel_rfl) ⟨rfl, hv, (fun h => absurd h (Nat.lt_irrefl 0)), (by simp), Nat.zero_le _, K0, H0⟩ ?_
 clear H0 K0
 rintro ⟨v, i, ys⟩ _ w1 ⟨rfl, hR, hO, hE, hi, K2, H3⟩
 have hO0 := hO
 have hlen := congrArg List.length hE
 simp only [List.length_append] at hlen
 have htk := ivs_take_length hr i (by omega)
 have hri := getD_range hr i
 refine qs ?_
 refine qg ?_
 refine og 1 [(0, v), (4, (Value.slice none 0 0)), (7, (Value.slice (some ⟨b, 0, none⟩) n n)), (8, (i64 ((n : Nat) : Int))), (9, (i64 ((i : Nat) : Int))), (10, (Value.bool (decide (((i : Nat) : Int) < ((n : Nat) : Int)))))] 1 ?_
 refine od ?_
 refine qs ?_
 refine q_cond (o := .tmp 10) (b := (decide (((i : Nat) : Int) < ((n : Nat) : Int)))) (by kernel_rfl) rfl (fun h4 => ?_) (fun h4 => ?_)
 ·rw [h4]
  have p5 : ((i : Nat) : Int) < ((n : Nat) : Int) := of_decide_eq_true h4
  refine q_skip (by kernel_rfl) ?_
  refine qs ?_
  refine q_block (id := 1) (by kernel_rfl) ?_
  refine qs ?_
  refine qg ?_
  refine Ops.go (by kernel_rfl) (Runs.ixSlice (k := IntKind.i64) (t := 109) (b := b) (off := 0) (len := n) (cap := n) (s := 1) (off' := i) (i := ((i : Nat) : Int)) (by kernel_rfl) (by kernel_rfl) (by omega) (by omega) (by omega)) (d := (some 11)) (by kernel_rfl) rfl ?_
  refine Ops.go (v := (i64 (l.getD i 0))) (by kernel_rfl) (Runs.load (t := 2) (a := ⟨b, i, none⟩) (by kernel_rfl) (H3.loads (loadC1 (by kernel_rfl) (intsL_at _ i (by rw [hln]; omega))))) (d := (some 12)) (by kernel_rfl) rfl ?_
  refine og 1 [(0, v), (4, (Value.slice none 0 0)), (6, (i64 (l.getD i 0))), (7, (Value.slice (some ⟨b, 0, none⟩) n n)), (8, (i64 ((n : Nat) : Int))), (9, (i64 ((i : Nat) : Int)))] 3 ?_
  refine od ?_
  refine qg ?_
  refine og 2 [(0, v), (4, (Value.slice none 0 0)), (7, (Value.slice (some ⟨b, 0, none⟩) n n)), (8, (i64 ((n : Nat) : Int))), (9, (i64 ((i : Nat) : Int))), (13, v), (14, (i64 (l.getD i 0)))] 2 ?_
  refine Ops.call (by kernel_rfl) (d := (some 15)) (by kernel_rfl) (Int_calls _ v ys (l.getD i 0) hR (by omega) (by (try simp only at *); (try simp only [List.length_append] at *); (try simp only [List.length_cons] at *); (try simp only [List.length_nil] at *); omega)) ?_
  rintro _ w8 ⟨v7, rfl, K9, hO10⟩
  have O11 := own_base hO10 K2.size
  clear hO10
  have hL6 := iv_length_10 (n := (l.getD i 0)) (by omega)
  refine ⟨_, _, rfl, rfl, ?_⟩
  replace K2 := K2.trans K9 (U := none_) (fun i h1 h2 => h2) (fun i h1 h2 => by exact h2)
  replace H3 := H3.keep K9 (fun h => h)
  replace hR := hR.keep0 (by omega) K9
  clear K9
  refine og 1 [(0, v7), (4, (Value.slice none 0 0)), (7, (Value.slice (some ⟨b, 0, none⟩) n n)), (8, (i64 ((n : Nat) : Int))), (9, (i64 ((i : Nat) : Int)))] 4 ?_
  refine od ?_
  refine qg ?_
  refine og 1 [(0, v7), (4, (Value.slice none 0 0)), (7, (Value.slice (some ⟨b, 0, none⟩) n n)), (8, (i64 ((n : Nat) : Int))), (9, (i64 ((i : Nat) : Int))), (16, (i64 (IntKind.i64.wrap (((i : Nat) : Int) + 1))))] 1 ?_
  have e12 : IntKind.i64.wrap (((i : Nat) : Int) + 1) = ((i : Nat) : Int) + 1 := wrap_i64 (by omega) (by omega)
  rw [e12]
  refine og 1 [(0, v7), (4, (Value.slice none 0 0)), (7, (Value.slice (some ⟨b, 0, none⟩) n n)), (8, (i64 ((n : Nat) : Int))), (9, (i64 (((i : Nat) : Int) + 1)))] 2 ?_
  refine Ops.keep (R := [(0, v7), (4, (Value.slice none 0 0)), (7, (Value.slice (some ⟨b, 0, none⟩) n n)), (8, (i64 ((n : Nat) : Int))), (9, (i64 ((i + 1 : Nat) : Int)))]) (by kernel_rfl) ?_
  refine od ?_
  exact ⟨(v7, i + 1, ys ++ iv (l.getD i 0)), ⟨rfl, (OwnB.rd O11), (fun _ => O11), (by rw [ivs_take_succ l i (by omega), ← List.append_assoc, ← hE]), (by omega), K2, H3⟩, (show n - (i + 1) < n - i from by omega)⟩
 ·rw [h4]
  have p13 : ¬ (((i : Nat) : Int) < ((n : Nat) : Int)) := of_decide_eq_false h4
  refine q_exit (id := 0) (by kernel_rfl) ?_
  refine qs ?_
  refine qg ?_
  refine og 2 [(4, v)] 2 ?_
  refine od ?_
  refine q_ret (by kernel_rfl) ?_
  refine ⟨v, retv_tmp rfl rfl, ?_⟩
  have hin : i = n := by omega
  have hO1 := hO (by omega)
  rw [hE, show l.take i = l from by rw [hin, ← hln, List.take_length]] at hO1
  exact ⟨_, rfl, K2, hO1⟩
end Go.Proofs.Ytlnidnadpdpciaa
namespace Go.Proofs.Ytlnidnadpdpciaa
open Go.Q Go.RowKit

theorem long_calls (w : World) (s : List UInt8)  : Calls Try.prog 62 ⟨[(Value.string (str s))]⟩ w (fun e w' => ∃ t, e = .returned (.bool t) ∧ (t = true ↔ 65536 < s.length) ∧ w = w') := by
 refine q_calls Try.func62 (by kernel_rfl) (by kernel_rfl) ?_
 refine qs ?_
 refine qg ?_
 refine og 1 [(0, (Value.string (str s))), (2, (Value.bool false))] 1 ?_
 refine od ?_
 refine qs ?_
 refine qg ?_
 refine og 4 [(2, (Value.bool (decide (((s.length : Nat) : Int) > 65536))))] 4 ?_
 refine od ?_
 refine q_ret (by kernel_rfl) ?_
 refine ⟨(Value.bool (decide (((s.length : Nat) : Int) > 65536))), retv_tmp rfl rfl, ?_⟩
 exact ⟨_, rfl, ⟨fun h => by have := of_decide_eq_true h; omega, fun h => decide_eq_true (by omega)⟩, rfl⟩

theorem indexS1 (w : World) (b : Nat) (s0 : List UInt8) (H0 : Has w b (rowL [(Value.string (str s0))] 9)) : Calls Try.prog 81 ⟨[(Value.slice (some ⟨b, 0, none⟩) 1 1), (Value.func (Fn.func 62) ⟨[]⟩ ⟨[]⟩)]⟩ w (fun e w' => ∃ r : Int, e = .returned (i64 r) ∧ (0 ≤ r ↔ 65536 < s0.length) ∧ Keeps none_ w w') := by
 have K0 : Keeps none_ w w := Keeps.refl w
 refine q_calls Try.func81 (by kernel_rfl) (by kernel_rfl) ?_
 refine qs ?_
 refine qg ?_
 refine og 1 [(0, (Value.slice (some ⟨b, 0, none⟩) 1 1)), (1, (Value.func (Fn.func 62) ⟨[]⟩ ⟨[]⟩)), (4, (i64 0))] 1 ?_
 refine od ?_
 refine qs ?_
 refine qs ?_
 refine qg ?_
 refine og 3 [(0, (Value.slice (some ⟨b, 0, none⟩) 1 1)), (1, (Value.func (Fn.func 62) ⟨[]⟩ ⟨[]⟩)), (4, (i64 0)), (7, (i64 1)), (8, (i64 0))] 3 ?_
 refine od ?_
 refine q_block (id := 0) (by kernel_rfl) ?_
 refine q_roll 2 (by kernel_rfl) ?_
 refine roll_step ?_
 refine qs ?_
 refine qg ?_
 refine og 1 [(0, (Value.slice (some ⟨b, 0, none⟩) 1 1)), (1, (Value.func (Fn.func 62) ⟨[]⟩ ⟨[]⟩)), (4, (i64 0)), (7, (i64 1)), (8, (i64 0)), (9, (Value.bool true))] 1 ?_
 refine od ?_
 refine qs ?_
 refine q_then (o := .tmp 9) (by kernel_rfl) rfl ?_
 refine q_skip (by kernel_rfl) ?_
 refine qs ?_
 refine q_block (id := 1) (by kernel_rfl) ?_
 refine qs ?_
 refine qg ?_
 refine og 2 [(0, (Value.slice (some ⟨b, 0, none⟩) 1 1)), (1, (Value.func (Fn.func 62) ⟨[]⟩ ⟨[]⟩)), (4, (i64 0)), (5, (i64 0)), (7, (i64 1)), (8, (i64 0))] 2 ?_
 refine od ?_
 refine qs ?_
 refine qg ?_
 refine og 4 [(0, (Value.slice (some ⟨b, 0, none⟩) 1 1)), (1, (Value.func (Fn.func 62) ⟨[]⟩ ⟨[]⟩)), (4, (i64 0)), (5, (i64 0)), (7, (i64 1)), (8, (i64 0)), (11, (Value.func (Fn.func 62) ⟨[]⟩ ⟨[]⟩)), (14, (ptr b))] 4 ?_
 refine Ops.go (v := (Value.string (str s0))) (by kernel_rfl) (Runs.load (t := 9) (a := ⟨b, 0, none⟩) (by kernel_rfl) (H0.loads (by kernel_rfl))) (d := (some 15)) (by kernel_rfl) rfl ?_
 refine Ops.call (by kernel_rfl) (d := (some 16)) (by kernel_rfl) (long_calls _ s0) ?_
 rintro _ _ ⟨t1, rfl, ht2, rfl⟩
 refine ⟨_, _, rfl, rfl, ?_⟩
 refine od ?_
 refine q_cond (o := .tmp 16) (b := t1) (by kernel_rfl) rfl (fun h3 => ?_) (fun h3 => ?_)
 ·rw [h3]
  have p4 : t1 = true := h3
  refine qs ?_
  refine qg ?_
  refine og 2 [(0, (Value.slice (some ⟨b, 0, none⟩) 1 1)), (1, (Value.func (Fn.func 62) ⟨[]⟩ ⟨[]⟩)), (4, (i64 0)), (7, (i64 1)), (8, (i64 0))] 2 ?_
  refine od ?_
  refine q_ret (by kernel_rfl) ?_
  refine ⟨(i64 0), retv_tmp rfl rfl, ?_⟩
  have ht1 := h3
  have kt1 := ht2.1 ht1
  exact ⟨_, rfl, by constructor <;> intro _ <;> omega, K0⟩
 ·rw [h3]
  have p5 : t1 = false := h3
  refine q_skip (by kernel_rfl) ?_
  refine qg ?_
  refine og 2 [(0, (Value.slice (some ⟨b, 0, none⟩) 1 1)), (1, (Value.func (Fn.func 62) ⟨[]⟩ ⟨[]⟩)), (4, (i64 0)), (7, (i64 1)), (8, (i64 1))] 2 ?_
  refine od ?_
  refine roll_step ?_
  refine qs ?_
  refine qg ?_
  refine og 1 [(0, (Value.slice (some ⟨b, 0, none⟩) 1 1)), (1, (Value.func (Fn.func 62) ⟨[]⟩ ⟨[]⟩)), (4, (i64 0)), (7, (i64 1)), (8, (i64 1)), (9, (Value.bool false))] 1 ?_
  refine od ?_
  refine qs ?_
  refine q_else (o := .tmp 9) (by kernel_rfl) rfl ?_
  refine q_exit (id := 0) (by kernel_rfl) ?_
  refine qs ?_
  refine qg ?_
  refine og 1 [(4, (i64 (-1)))] 1 ?_
  refine od ?_
  refine q_ret (by kernel_rfl) ?_
  refine ⟨(i64 (-1)), retv_tmp rfl rfl, ?_⟩
  have ht1 := h3
  have kt1 : ¬ (65536 < s0.length) := fun q => by have := ht2.2 q; rw [ht1] at this; cases this
  exact ⟨_, rfl, by constructor <;> intro _ <;> omega, K0⟩

theorem containsS1 (w : World) (b : Nat) (s0 : List UInt8) (H0 : Has w b (rowL [(Value.string (str s0))] 9)) : Calls Try.prog 61 ⟨[(Value.slice (some ⟨b, 0, none⟩) 1 1), (Value.func (Fn.func 62) ⟨[]⟩ ⟨[]⟩)]⟩ w (fun e w' => ∃ t, e = .returned (.bool t) ∧ (t = true ↔ 65536 < s0.length) ∧ Keeps none_ w w') := by
 have K0 : Keeps none_ w w := Keeps.refl w
 refine q_calls Try.func61 (by kernel_rfl) (by kernel_rfl) ?_
 refine qs ?_
 refine qg ?_
 refine og 1 [(0, (Value.slice (some ⟨b, 0, none⟩) 1 1)), (1, (Value.func (Fn.func 62) ⟨[]⟩ ⟨[]⟩)), (4, (Value.bool false))] 1 ?_
 refine od ?_
 refine qs ?_
 refine qg ?_
 refine og 2 [(4, (Value.bool false)), (5, (Value.slice (some ⟨b, 0, none⟩) 1 1)), (6, (Value.func (Fn.func 62) ⟨[]⟩ ⟨[]⟩))] 2 ?_
 refine Ops.call (by kernel_rfl) (d := (some 7)) (by kernel_rfl) (indexS1 _ b s0 H0) ?_
 rintro _ w4 ⟨r1, rfl, hr2, K3⟩
 refine ⟨_, _, rfl, rfl, ?_⟩
 replace K0 := K0.t0 K3
 replace H0 := H0.keep K3 (fun h => h)
 clear K3
 refine og 2 [(4, (Value.bool (decide (r1 ≥ 0))))] 5 ?_
 refine od ?_
 refine q_ret (by kernel_rfl) ?_
 refine ⟨(Value.bool (decide (r1 ≥ 0))), retv_tmp rfl rfl, ?_⟩
 exact ⟨_, rfl, ⟨fun h => hr2.1 (of_decide_eq_true h), fun h => decide_eq_true (hr2.2 h)⟩, K0⟩

theorem short1 (w : World) (b : Nat) (s0 : List UInt8) (H0 : Has w b (rowL [(Value.string (str s0))] 9)) : Calls Try.prog 60 ⟨[(Value.slice (some ⟨b, 0, none⟩) 1 1)]⟩ w (fun e w' => ∃ t, e = .returned (.bool t) ∧ (t = true ↔ s0.length ≤ 65536) ∧ Keeps none_ w w') := by
 have K0 : Keeps none_ w w := Keeps.refl w
 refine q_calls Try.func60 (by kernel_rfl) (by kernel_rfl) ?_
 refine qs ?_
 refine qg ?_
 refine og 1 [(0, (Value.slice (some ⟨b, 0, none⟩) 1 1)), (2, (Value.bool false))] 1 ?_
 refine od ?_
 refine qs ?_
 refine qg ?_
 refine og 1 [(2, (Value.bool false)), (3, (Value.slice (some ⟨b, 0, none⟩) 1 1))] 1 ?_
 refine Ops.call (by kernel_rfl) (d := (some 4)) (by kernel_rfl) (containsS1 _ b s0 H0) ?_
 rintro _ w4 ⟨t1, rfl, ht2, K3⟩
 refine ⟨_, _, rfl, rfl, ?_⟩
 replace K0 := K0.t0 K3
 replace H0 := H0.keep K3 (fun h => h)
 clear K3
 refine og 2 [(2, (Value.bool (!t1)))] 4 ?_
 refine od ?_
 refine q_ret (by kernel_rfl) ?_
 refine ⟨(Value.bool (!t1)), retv_tmp rfl rfl, ?_⟩
 exact ⟨_, rfl, by cases hq : t1 <;> (rw [hq] at ht2; simp at ht2 ⊢; omega), K0⟩

theorem indexS3 (w : World) (b : Nat) (s0 : List UInt8) (s1 : List UInt8) (s2 : List UInt8) (H0 : Has w b (rowL [(Value.string (str s0)), (Value.string (str s1)), (Value.string (str s2))] 9)) : Calls Try.prog 81 ⟨[(Value.slice (some ⟨b, 0, none⟩) 3 3), (Value.func (Fn.func 62) ⟨[]⟩ ⟨[]⟩)]⟩ w (fun e w' => ∃ r : Int, e = .returned (i64 r) ∧ (0 ≤ r ↔ 65536 < s0.length ∨ 65536 < s1.length ∨ 65536 < s2.length) ∧ Keeps none_ w w') := by
 have K0 : Keeps none_ w w := Keeps.refl w
 refine q_calls Try.func81 (by kernel_rfl) (by kernel_rfl) ?_
 refine qs ?_
 refine qg ?_
 refine og 1 [(0, (Value.slice (some ⟨b, 0, none⟩) 3 3)), (1, (Value.func (Fn.func 62) ⟨[]⟩ ⟨[]⟩)), (4, (i64 0))] 1 ?_
 refine od ?_
 refine qs ?_
 refine qs ?_
 refine qg ?_
 refine og 3 [(0, (Value.slice (some ⟨b, 0, none⟩) 3 3)), (1, (Value.func (Fn.func 62) ⟨[]⟩ ⟨[]⟩)), (4, (i64 0)), (7, (i64 3)), (8, (i64 0))] 3 ?_
 refine od ?_
 refine q_block (id := 0) (by kernel_rfl) ?_
 refine q_roll 4 (by kernel_rfl) ?_
 refine roll_step ?_
 refine qs ?_
 refine qg ?_
 refine og 1 [(0, (Value.slice (some ⟨b, 0, none⟩) 3 3)), (1, (Value.func (Fn.func 62) ⟨[]⟩ ⟨[]⟩)), (4, (i64 0)), (7, (i64 3)), (8, (i64 0)), (9, (Value.bool true))] 1 ?_
 refine od ?_
 refine qs ?_
 refine q_then (o := .tmp 9) (by kernel_rfl) rfl ?_
 refine q_skip (by kernel_rfl) ?_
 refine qs ?_
 refine q_block (id := 1) (by kernel_rfl) ?_
 refine qs ?_
 refine qg ?_
 refine og 2 [(0, (Value.slice (some ⟨b, 0, none⟩) 3 3)), (1, (Value.func (Fn.func 62) ⟨[]⟩ ⟨[]⟩)), (4, (i64 0)), (5, (i64 0)), (7, (i64 3)), (8, (i64 0))] 2 ?_
 refine od ?_
 refine qs ?_
 refine qg ?_
 refine og 4 [(0, (Value.slice (some ⟨b, 0, none⟩) 3 3)), (1, (Value.func (Fn.func 62) ⟨[]⟩ ⟨[]⟩)), (4, (i64 0)), (5, (i64 0)), (7, (i64 3)), (8, (i64 0)), (11, (Value.func (Fn.func 62) ⟨[]⟩ ⟨[]⟩)), (14, (ptr b))] 4 ?_
 refine Ops.go (v := (Value.string (str s0))) (by kernel_rfl) (Runs.load (t := 9) (a := ⟨b, 0, none⟩) (by kernel_rfl) (H0.loads (by kernel_rfl))) (d := (some 15)) (by kernel_rfl) rfl ?_
 refine Ops.call (by kernel_rfl) (d := (some 16)) (by kernel_rfl) (long_calls _ s0) ?_
 rintro _ _ ⟨t1, rfl, ht2, rfl⟩
 refine ⟨_, _, rfl, rfl, ?_⟩
 refine od ?_
 refine q_cond (o := .tmp 16) (b := t1) (by kernel_rfl) rfl (fun h3 => ?_) (fun h3 => ?_)
 ·rw [h3]
  have p4 : t1 = true := h3
  refine qs ?_
  refine qg ?_
  refine og 2 [(0, (Value.slice (some ⟨b, 0, none⟩) 3 3)), (1, (Value.func (Fn.func 62) ⟨[]⟩ ⟨[]⟩)), (4, (i64 0)), (7, (i64 3)), (8, (i64 0))] 2 ?_
  refine od ?_
  refine q_ret (by kernel_rfl) ?_
  refine ⟨(i64 0), retv_tmp rfl rfl, ?_⟩
  have ht1 := h3
  have kt1 := ht2.1 ht1
  exact ⟨_, rfl, by constructor <;> intro _ <;> omega, K0⟩
 ·rw [h3]
  have p5 : t1 = false := h3
  refine q_skip (by kernel_rfl) ?_
  refine qg ?_
  refine og 2 [(0, (Value.slice (some ⟨b, 0, none⟩) 3 3)), (1, (Value.func (Fn.func 62) ⟨[]⟩ ⟨[]⟩)), (4, (i64 0)), (7, (i64 3)), (8, (i64 1))] 2 ?_
  refine od ?_
  refine roll_step ?_
  refine qs ?_
  refine qg ?_
  refine og 1 [(0, (Value.slice (some ⟨b, 0, none⟩) 3 3)), (1, (Value.func (Fn.func 62) ⟨[]⟩ ⟨[]⟩)), (4, (i64 0)), (7, (i64 3)), (8, (i64 1)), (9, (Value.bool true))] 1 ?_
  refine od ?_
  refine qs ?_
  refine q_then (o := .tmp 9) (by kernel_rfl) rfl ?_
  refine q_skip (by kernel_rfl) ?_
  refine qs ?_
  refine q_block (id := 1) (by kernel_rfl) ?_
  refine qs ?_
  refine qg ?_
  refine og 2 [(0, (Value.slice (some ⟨b, 0, none⟩) 3 3)), (1, (Value.func (Fn.func 62) ⟨[]⟩ ⟨[]⟩)), (4, (i64 0)), (5, (i64 1)), (7, (i64 3)), (8, (i64 1))] 2 ?_
  refine od ?_
  refine qs ?_
  refine qg ?_
  refine og 4 [(0, (Value.slice (some ⟨b, 0, none⟩) 3 3)), (1, (Value.func (Fn.func 62) ⟨[]⟩ ⟨[]⟩)), (4, (i64 0)), (5, (i64 1)), (7, (i64 3)), (8, (i64 1)), (11, (Value.func (Fn.func 62) ⟨[]⟩ ⟨[]⟩)), (14, (Value.pointer (some ⟨b, 1, none⟩)))] 4 ?_
  refine Ops.go (v := (Value.string (str s1))) (by kernel_rfl) (Runs.load (t := 9) (a := ⟨b, 1, none⟩) (by kernel_rfl) (H0.loads (by kernel_rfl))) (d := (some 15)) (by kernel_rfl) rfl ?_
  refine Ops.call (by kernel_rfl) (d := (some 16)) (by kernel_rfl) (long_calls _ s1) ?_
  rintro _ _ ⟨t6, rfl, ht7, rfl⟩
  refine ⟨_, _, rfl, rfl, ?_⟩
  refine od ?_
  refine q_cond (o := .tmp 16) (b := t6) (by kernel_rfl) rfl (fun h8 => ?_) (fun h8 => ?_)
  ·rw [h8]
   have p9 : t6 = true := h8
   refine qs ?_
   refine qg ?_
   refine og 2 [(0, (Value.slice (some ⟨b, 0, none⟩) 3 3)), (1, (Value.func (Fn.func 62) ⟨[]⟩ ⟨[]⟩)), (4, (i64 1)), (7, (i64 3)), (8, (i64 1))] 2 ?_
   refine od ?_
   refine q_ret (by kernel_rfl) ?_
   refine ⟨(i64 1), retv_tmp rfl rfl, ?_⟩
   have ht1 := h3
   have kt1 : ¬ (65536 < s0.length) := fun q => by have := ht2.2 q; rw [ht1] at this; cases this
   have ht6 := h8
   have kt6 := ht7.1 ht6
   exact ⟨_, rfl, by constructor <;> intro _ <;> omega, K0⟩
  ·rw [h8]
   have p10 : t6 = false := h8
   refine q_skip (by kernel_rfl) ?_
   refine qg ?_
   refine og 2 [(0, (Value.slice (some ⟨b, 0, none⟩) 3 3)), (1, (Value.func (Fn.func 62) ⟨[]⟩ ⟨[]⟩)), (4, (i64 0)), (7, (i64 3)), (8, (i64 2))] 2 ?_
   refine od ?_
   refine roll_step ?_
   refine qs ?_
   refine qg ?_
   refine og 1 [(0, (Value.slice (some ⟨b, 0, none⟩) 3 3)), (1, (Value.func (Fn.func 62) ⟨[]⟩ ⟨[]⟩)), (4, (i64 0)), (7, (i64 3)), (8, (i64 2)), (9, (Value.bool true))] 1 ?_
   refine od ?_
   refine qs ?_
   refine q_then (o := .tmp 9) (by kernel_rfl) rfl ?_
   refine q_skip (by kernel_rfl) ?_
   refine qs ?_
   refine q_block (id := 1) (by kernel_rfl) ?_
   refine qs ?_
   refine qg ?_
   refine og 2 [(0, (Value.slice (some ⟨b, 0, none⟩) 3 3)), (1, (Value.func (Fn.func 62) ⟨[]⟩ ⟨[]⟩)), (4, (i64 0)), (5, (i64 2)), (7, (i64 3)), (8, (i64 2))] 2 ?_
   refine od ?_
   refine qs ?_
   refine qg ?_
   refine og 4 [(0, (Value.slice (some ⟨b, 0, none⟩) 3 3)), (1, (Value.func (Fn.func 62) ⟨[]⟩ ⟨[]⟩)), (4, (i64 0)), (5, (i64 2)), (7, (i64 3)), (8, (i64 2)), (11, (Value.func (Fn.func 62) ⟨[]⟩ ⟨[]⟩)), (14, (Value.pointer (some ⟨b, 2, none⟩)))] 4 ?_
   refine Ops.go (v := (Value.string (str s2))) (by kernel_rfl) (Runs.load (t := 9) (a := ⟨b, 2, none⟩) (by kernel_rfl) (H0.loads (by kernel_rfl))) (d := (some 15)) (by kernel_rfl) rfl ?_
   refine Ops.call (by kernel_rfl) (d := (some 16)) (by kernel_rfl) (long_calls _ s2) ?_
   rintro _ _ ⟨t11, rfl, ht12, rfl⟩
   refine ⟨_, _, rfl, rfl, ?_⟩
   refine od ?_
   refine q_cond (o := .tmp 16) (b := t11) (by kernel_rfl) rfl (fun h13 => ?_) (fun h13 => ?_)
   ·rw [h13]
    have p14 : t11 = true := h13
    refine qs ?_
    refine qg ?_
    refine og 2 [(0, (Value.slice (some ⟨b, 0, none⟩) 3 3)), (1, (Value.func (Fn.func 62) ⟨[]⟩ ⟨[]⟩)), (4, (i64 2)), (7, (i64 3)), (8, (i64 2))] 2 ?_
    refine od ?_
    refine q_ret (by kernel_rfl) ?_
    refine ⟨(i64 2), retv_tmp rfl rfl, ?_⟩
    have ht1 := h3
    have kt1 : ¬ (65536 < s0.length) := fun q => by have := ht2.2 q; rw [ht1] at this; cases this
    have ht6 := h8
    have kt6 : ¬ (65536 < s1.length) := fun q => by have := ht7.2 q; rw [ht6] at this; cases this
    have ht11 := h13
    have kt11 := ht12.1 ht11
    exact ⟨_, rfl, by constructor <;> intro _ <;> omega, K0⟩
   ·rw [h13]
    have p15 : t11 = false := h13
    refine q_skip (by kernel_rfl) ?_
    refine qg ?_
    refine og 2 [(0, (Value.slice (some ⟨b, 0, none⟩) 3 3)), (1, (Value.func (Fn.func 62) ⟨[]⟩ ⟨[]⟩)), (4, (i64 0)), (7, (i64 3)), (8, (i64 3))] 2 ?_
    refine od ?_
    refine roll_step ?_
    refine qs ?_
    refine qg ?_
    refine og 1 [(0, (Value.slice (some ⟨b, 0, none⟩) 3 3)), (1, (Value.func (Fn.func 62) ⟨[]⟩ ⟨[]⟩)), (4, (i64 0)), (7, (i64 3)), (8, (i64 3)), (9, (Value.bool false))] 1 ?_
    refine od ?_
    refine qs ?_
    refine q_else (o := .tmp 9) (by kernel_rfl) rfl ?_
    refine q_exit (id := 0) (by kernel_rfl) ?_
    refine qs ?_
    refine qg ?_
    refine og 1 [(4, (i64 (-1)))] 1 ?_
    refine od ?_
    refine q_ret (by kernel_rfl) ?_
    refine ⟨(i64 (-1)), retv_tmp rfl rfl, ?_⟩
    have ht1 := h3
    have kt1 : ¬ (65536 < s0.length) := fun q => by have := ht2.2 q; rw [ht1] at this; cases this
    have ht6 := h8
    have kt6 : ¬ (65536 < s1.length) := fun q => by have := ht7.2 q; rw [ht6] at this; cases this
    have ht11 := h13
    have kt11 : ¬ (65536 < s2.length) := fun q => by have := ht12.2 q; rw [ht11] at this; cases this
    exact ⟨_, rfl, by constructor <;> intro _ <;> omega, K0⟩

theorem containsS3 (w : World) (b : Nat) (s0 : List UInt8) (s1 : List UInt8) (s2 : List UInt8) (H0 : Has w b (rowL [(Value.string (str s0)), (Value.string (str s1)), (Value.string (str s2))] 9)) : Calls Try.prog 61 ⟨[(Value.slice (some ⟨b, 0, none⟩) 3 3), (Value.func (Fn.func 62) ⟨[]⟩ ⟨[]⟩)]⟩ w (fun e w' => ∃ t, e = .returned (.bool t) ∧ (t = true ↔ 65536 < s0.length ∨ 65536 < s1.length ∨ 65536 < s2.length) ∧ Keeps none_ w w') := by
 have K0 : Keeps none_ w w := Keeps.refl w
 refine q_calls Try.func61 (by kernel_rfl) (by kernel_rfl) ?_
 refine qs ?_
 refine qg ?_
 refine og 1 [(0, (Value.slice (some ⟨b, 0, none⟩) 3 3)), (1, (Value.func (Fn.func 62) ⟨[]⟩ ⟨[]⟩)), (4, (Value.bool false))] 1 ?_
 refine od ?_
 refine qs ?_
 refine qg ?_
 refine og 2 [(4, (Value.bool false)), (5, (Value.slice (some ⟨b, 0, none⟩) 3 3)), (6, (Value.func (Fn.func 62) ⟨[]⟩ ⟨[]⟩))] 2 ?_
 refine Ops.call (by kernel_rfl) (d := (some 7)) (by kernel_rfl) (indexS3 _ b s0 s1 s2 H0) ?_
 rintro _ w4 ⟨r1, rfl, hr2, K3⟩
 refine ⟨_, _, rfl, rfl, ?_⟩
 replace K0 := K0.t0 K3
 replace H0 := H0.keep K3 (fun h => h)
 clear K3
 refine og 2 [(4, (Value.bool (decide (r1 ≥ 0))))] 5 ?_
 refine od ?_
 refine q_ret (by kernel_rfl) ?_
 refine ⟨(Value.bool (decide (r1 ≥ 0))), retv_tmp rfl rfl, ?_⟩
 exact ⟨_, rfl, ⟨fun h => hr2.1 (of_decide_eq_true h), fun h => decide_eq_true (hr2.2 h)⟩, K0⟩

theorem short3 (w : World) (b : Nat) (s0 : List UInt8) (s1 : List UInt8) (s2 : List UInt8) (H0 : Has w b (rowL [(Value.string (str s0)), (Value.string (str s1)), (Value.string (str s2))] 9)) : Calls Try.prog 60 ⟨[(Value.slice (some ⟨b, 0, none⟩) 3 3)]⟩ w (fun e w' => ∃ t, e = .returned (.bool t) ∧ (t = true ↔ s0.length ≤ 65536 ∧ s1.length ≤ 65536 ∧ s2.length ≤ 65536) ∧ Keeps none_ w w') := by
 have K0 : Keeps none_ w w := Keeps.refl w
 refine q_calls Try.func60 (by kernel_rfl) (by kernel_rfl) ?_
 refine qs ?_
 refine qg ?_
 refine og 1 [(0, (Value.slice (some ⟨b, 0, none⟩) 3 3)), (2, (Value.bool false))] 1 ?_
 refine od ?_
 refine qs ?_
 refine qg ?_
 refine og 1 [(2, (Value.bool false)), (3, (Value.slice (some ⟨b, 0, none⟩) 3 3))] 1 ?_
 refine Ops.call (by kernel_rfl) (d := (some 4)) (by kernel_rfl) (containsS3 _ b s0 s1 s2 H0) ?_
 rintro _ w4 ⟨t1, rfl, ht2, K3⟩
 refine ⟨_, _, rfl, rfl, ?_⟩
 replace K0 := K0.t0 K3
 replace H0 := H0.keep K3 (fun h => h)
 clear K3
 refine og 2 [(2, (Value.bool (!t1)))] 4 ?_
 refine od ?_
 refine q_ret (by kernel_rfl) ?_
 refine ⟨(Value.bool (!t1)), retv_tmp rfl rfl, ?_⟩
 exact ⟨_, rfl, by cases hq : t1 <;> (rw [hq] at ht2; simp at ht2 ⊢; omega), K0⟩

theorem longrow_calls (w : World) (b : Nat) (x : RowM) (H0 : Has w b (rowL [(Value.func (Fn.func 60) ⟨[]⟩ ⟨[]⟩)] 106)) : Calls Try.prog 64 ⟨[(agg [(Value.string (str x.name)), (i64 x.amount)]), (ptr b)]⟩ w (fun e w' => ∃ t, e = .returned (.bool t) ∧ (t = true ↔ 65536 < x.name.length) ∧ Keeps none_ w w') := by
 have K0 : Keeps none_ w w := Keeps.refl w
 refine q_calls Try.func64 (by kernel_rfl) (by kernel_rfl) ?_
 refine qs ?_
 refine qg ?_
 refine Ops.new (o := rowL [(Value.string (str x.name)), (i64 x.amount)] 59) (V := fun b => (ptr b)) (by kernel_rfl) (d := (some 2)) (by kernel_rfl) (fun b => rfl) (fun b1 w2 hb3 H4 K5 hs6 => ?_)
 have lb1 : b < b1 := by have := H0.lt; omega
 have nb1 : w.heap.size ≤ b1 := by have := K0.size; omega
 replace K0 := K0.t0 K5
 replace H0 := H0.keep K5 (fun h => h)
 clear K5 hs6
 refine og 1 [(1, (ptr b)), (2, (ptr b1)), (3, (Value.bool false))] 2 ?_
 refine od ?_
 refine qs ?_
 refine qg ?_
 refine Ops.go (v := (Value.func (Fn.func 60) ⟨[]⟩ ⟨[]⟩)) (by kernel_rfl) (Runs.load (t := 106) (a := ⟨b, 0, none⟩) (by kernel_rfl) (H0.loads (by kernel_rfl))) (d := (some 4)) (by kernel_rfl) rfl ?_
 refine og 1 [(3, (Value.bool false)), (4, (Value.func (Fn.func 60) ⟨[]⟩ ⟨[]⟩)), (5, (ptr b1))] 2 ?_
 refine Ops.go (v := (Value.string (str x.name))) (by kernel_rfl) (Runs.load (t := 9) (a := ⟨b1, 0, none⟩) (by kernel_rfl) (H4.loads (by kernel_rfl))) (d := (some 6)) (by kernel_rfl) rfl ?_
 refine Ops.new (o := rowL [(Value.string (str x.name))] 9) (V := fun b => (Value.slice (some ⟨b, 0, none⟩) 1 1)) (by kernel_rfl) (d := (some 7)) (by kernel_rfl) (fun b => rfl) (fun b7 w8 hb9 H10 K11 hs12 => ?_)
 have lb7 : b1 < b7 := by have := H4.lt; omega
 have nb7 : w.heap.size ≤ b7 := by have := K0.size; omega
 replace K0 := K0.t0 K11
 replace H0 := H0.keep K11 (fun h => h)
 replace H4 := H4.keep K11 (fun h => h)
 clear K11 hs12
 refine Ops.call (by kernel_rfl) (d := (some 8)) (by kernel_rfl) (short1 _ b7 x.name H10) ?_
 rintro _ w16 ⟨t13, rfl, ht14, K15⟩
 refine ⟨_, _, rfl, rfl, ?_⟩
 replace K0 := K0.t0 K15
 replace H0 := H0.keep K15 (fun h => h)
 replace H4 := H4.keep K15 (fun h => h)
 replace H10 := H10.keep K15 (fun h => h)
 clear K15
 refine og 2 [(3, (Value.bool (!t13)))] 7 ?_
 refine od ?_
 refine q_ret (by kernel_rfl) ?_
 refine ⟨(Value.bool (!t13)), retv_tmp rfl rfl, ?_⟩
 exact ⟨_, rfl, by cases hq : t13 <;> (rw [hq] at ht14; simp at ht14 ⊢; omega), K0⟩

theorem indexR_calls (w : World) (b : Nat) (A : Option Addr) (c : Nat) (l : List RowM) (H0 : Has w b (rowL [(Value.func (Fn.func 60) ⟨[]⟩ ⟨[]⟩)] 106)) (hA : RdR w (.slice A l.length c) l) : Calls Try.prog 82 ⟨[(Value.slice A l.length c), (Value.func (Fn.func 64) ⟨[]⟩ ⟨[(ptr b)]⟩)]⟩ w (fun e w' => ∃ r : Int, e = .returned (i64 r) ∧ (0 ≤ r ↔ ∃ y ∈ l, 65536 < y.name.length) ∧ Keeps none_ w w') := by
 have hla := (RdT.len RowM.two (by decide) hA).2
 unfold maxLen at hla
 have K0 : Keeps none_ w w := Keeps.refl w
 refine q_calls Try.func82 (by kernel_rfl) (by kernel_rfl) ?_
 refine qs ?_
 refine qg ?_
 refine og 1 [(0, (Value.slice A l.length c)), (1, (Value.func (Fn.func 64) ⟨[]⟩ ⟨[(ptr b)]⟩)), (4, (i64 0))] 1 ?_
 refine od ?_
 refine qs ?_
 refine qs ?_
 refine qg ?_
 refine og 3 [(0, (Value.slice A l.length c)), (1, (Value.func (Fn.func 64) ⟨[]⟩ ⟨[(ptr b)]⟩)), (4, (i64 0)), (7, (i64 ((l.length : Nat) : Int))), (8, (i64 0))] 3 ?_
 refine od ?_
 refine q_block (id := 0) (by kernel_rfl) ?_
 refine q_keep (R := [(0, (Value.slice A l.length c)), (1, (Value.func (Fn.func 64) ⟨[]⟩ ⟨[(ptr b)]⟩)), (7, (i64 ((l.length : Nat) : Int))), (8, (i64 0))]) (by kernel_rfl) ?_
 refine q_loop (fun (i : Nat) L (wx : World) => L = [(0, (Value.slice A l.length c)), (1, (Value.func (Fn.func 64) ⟨[]⟩ ⟨[(ptr b)]⟩)), (7, (i64 ((l.length : Nat) : Int))), (8, (i64 ((i : Nat) : Int)))] ∧ (∀ y ∈ l.take i, y.name.length ≤ 65536) ∧ i ≤ l.length ∧ Keeps none_ w wx ∧ Has wx b (rowL [(Value.func (Fn.func 60) ⟨[]⟩ ⟨[]⟩)] 106)) (fun (i : Nat) => l.length - i) 0 (by kernel_rfl) ⟨rfl, (by simp), Nat.zero_le _, K0, H0⟩ ?_
 clear H0 K0
 rintro i _ w1 ⟨rfl, hE, hi, K2, H3⟩
 refine qs ?_
 refine qg ?_
 refine og 1 [(0, (Value.slice A l.length c)), (1, (Value.func (Fn.func 64) ⟨[]⟩ ⟨[(ptr b)]⟩)), (7, (i64 ((l.length : Nat) : Int))), (8, (i64 ((i : Nat) : Int))), (9, (Value.bool (decide (((i : Nat) : Int) < ((l.length : Nat) : Int)))))] 1 ?_
 refine od ?_
 refine qs ?_
 refine q_cond (o := .tmp 9) (b := (decide (((i : Nat) : Int) < ((l.length : Nat) : Int)))) (by kernel_rfl) rfl (fun h4 => ?_) (fun h4 => ?_)
 ·rw [h4]
  have p5 : ((i : Nat) : Int) < ((l.length : Nat) : Int) := of_decide_eq_true h4
  refine q_skip (by kernel_rfl) ?_
  refine qs ?_
  refine q_block (id := 1) (by kernel_rfl) ?_
  refine qs ?_
  refine qg ?_
  refine og 2 [(0, (Value.slice A l.length c)), (1, (Value.func (Fn.func 64) ⟨[]⟩ ⟨[(ptr b)]⟩)), (5, (i64 ((i : Nat) : Int))), (7, (i64 ((l.length : Nat) : Int))), (8, (i64 ((i : Nat) : Int)))] 2 ?_
  refine od ?_
  refine qs ?_
  refine qg ?_
  refine og 3 [(0, (Value.slice A l.length c)), (1, (Value.func (Fn.func 64) ⟨[]⟩ ⟨[(ptr b)]⟩)), (5, (i64 ((i : Nat) : Int))), (7, (i64 ((l.length : Nat) : Int))), (8, (i64 ((i : Nat) : Int))), (11, (Value.func (Fn.func 64) ⟨[]⟩ ⟨[(ptr b)]⟩)), (12, (Value.slice A l.length c)), (13, (i64 ((i : Nat) : Int)))] 3 ?_
  obtain ⟨rb6, ro7, x, hA8, hx9⟩ := RdT.open (Rd.keep0 (by omega) hA K2) rfl (k := i) (by omega)
  have hX := hx9
  refine Ops.go (by kernel_rfl) (Runs.ixSliceE (k := IntKind.i64) (t := 25) (len := l.length) (cap := c) (s := 2) (off' := ro7 + i * 2) (i := ((i : Nat) : Int)) hA8 (by kernel_rfl) (by kernel_rfl) (by omega) (by omega) (by omega)) (d := (some 14)) (by kernel_rfl) rfl ?_
  refine Ops.go (v := (agg [(Value.string (str x.name)), (i64 x.amount)])) (by kernel_rfl) (Runs.load (t := 59) (a := ⟨rb6, ro7 + i * 2, none⟩) (by kernel_rfl) (RdT.ld (f := RowM.cells) (x := x) RowM.two (Rd.keep0 (by omega) hA K2) (by kernel_rfl) (by kernel_rfl) hA8 hx9)) (d := (some 15)) (by kernel_rfl) rfl ?_
  refine Ops.call (by kernel_rfl) (d := (some 16)) (by kernel_rfl) (longrow_calls _ b x H3) ?_
  rintro _ w13 ⟨t10, rfl, ht11, K12⟩
  refine ⟨_, _, rfl, rfl, ?_⟩
  replace K2 := K2.trans K12 (U := none_) (fun i h1 h2 => h2) (fun i h1 h2 => by exact h2)
  replace H3 := H3.keep K12 (fun h => h)
  clear K12
  refine od ?_
  refine q_cond (o := .tmp 16) (b := t10) (by kernel_rfl) rfl (fun h14 => ?_) (fun h14 => ?_)
  ·rw [h14]
   have p15 : t10 = true := h14
   have hxl := ht11.1 h14
   refine qs ?_
   refine qg ?_
   refine og 2 [(0, (Value.slice A l.length c)), (1, (Value.func (Fn.func 64) ⟨[]⟩ ⟨[(ptr b)]⟩)), (4, (i64 ((i : Nat) : Int))), (7, (i64 ((l.length : Nat) : Int))), (8, (i64 ((i : Nat) : Int)))] 2 ?_
   refine od ?_
   refine q_ret (by kernel_rfl) ?_
   refine ⟨(i64 ((i : Nat) : Int)), retv_tmp rfl rfl, ?_⟩
   exact ⟨_, rfl, ⟨fun _ => ⟨x, List.mem_of_getElem? hX, hxl⟩, fun _ => by omega⟩, K2⟩
  ·rw [h14]
   have p16 : t10 = false := h14
   have hxl : x.name.length ≤ 65536 := Nat.le_of_not_lt fun q => by have := ht11.2 q; rw [h14] at this; cases this
   refine q_skip (by kernel_rfl) ?_
   refine qg ?_
   refine og 1 [(0, (Value.slice A l.length c)), (1, (Value.func (Fn.func 64) ⟨[]⟩ ⟨[(ptr b)]⟩)), (7, (i64 ((l.length : Nat) : Int))), (8, (i64 ((i : Nat) : Int))), (18, (i64 (IntKind.i64.wrap (((i : Nat) : Int) + 1))))] 1 ?_
   have e17 : IntKind.i64.wrap (((i : Nat) : Int) + 1) = ((i + 1 : Nat) : Int) := by rw [wrap_i64 (by omega) (by omega)]; omega
   rw [e17]
   clear e17
   refine og 1 [(0, (Value.slice A l.length c)), (1, (Value.func (Fn.func 64) ⟨[]⟩ ⟨[(ptr b)]⟩)), (7, (i64 ((l.length : Nat) : Int))), (8, (i64 ((i + 1 : Nat) : Int)))] 2 ?_
   refine Ops.keep (R := [(0, (Value.slice A l.length c)), (1, (Value.func (Fn.func 64) ⟨[]⟩ ⟨[(ptr b)]⟩)), (7, (i64 ((l.length : Nat) : Int))), (8, (i64 ((i + 1 : Nat) : Int)))]) (by kernel_rfl) ?_
   refine od ?_
   exact ⟨i + 1, ⟨rfl, (fun y hy => by rw [List.take_succ_eq_append_getElem (by omega), List.mem_append, List.mem_singleton] at hy; rcases hy with hy | hy; (exact hE y hy); (subst hy; rw [(List.getElem?_eq_some_iff.1 hX).2]; exact hxl)), (by omega), K2, H3⟩, (show l.length - (i + 1) < l.length - i from by omega)⟩
 ·rw [h4]
  have p18 : ¬ (((i : Nat) : Int) < ((l.length : Nat) : Int)) := of_decide_eq_false h4
  refine q_exit (id := 0) (by kernel_rfl) ?_
  refine qs ?_
  refine qg ?_
  refine og 1 [(4, (i64 (-1)))] 1 ?_
  refine od ?_
  refine q_ret (by kernel_rfl) ?_
  refine ⟨(i64 (-1)), retv_tmp rfl rfl, ?_⟩
  exact ⟨_, rfl, ⟨fun h => absurd h (by decide), fun ⟨y, hy, hl⟩ => by obtain ⟨q, hq⟩ := List.getElem?_of_mem hy; have hql := (List.getElem?_eq_some_iff.1 hq).1; have := hE y (by rw [List.take_of_length_le (by omega)]; exact hy); omega⟩, K2⟩

theorem containsR_calls (w : World) (b : Nat) (A : Option Addr) (c : Nat) (l : List RowM) (H0 : Has w b (rowL [(Value.func (Fn.func 60) ⟨[]⟩ ⟨[]⟩)] 106)) (hA : RdR w (.slice A l.length c) l) : Calls Try.prog 63 ⟨[(Value.slice A l.length c), (Value.func (Fn.func 64) ⟨[]⟩ ⟨[(ptr b)]⟩)]⟩ w (fun e w' => ∃ t, e = .returned (.bool t) ∧ (t = true ↔ ∃ y ∈ l, 65536 < y.name.length) ∧ Keeps none_ w w') := by
 have K0 : Keeps none_ w w := Keeps.refl w
 refine q_calls Try.func63 (by kernel_rfl) (by kernel_rfl) ?_
 refine qs ?_
 refine qg ?_
 refine og 1 [(0, (Value.slice A l.length c)), (1, (Value.func (Fn.func 64) ⟨[]⟩ ⟨[(ptr b)]⟩)), (4, (Value.bool false))] 1 ?_
 refine od ?_
 refine qs ?_
 refine qg ?_
 refine og 2 [(4, (Value.bool false)), (5, (Value.slice A l.length c)), (6, (Value.func (Fn.func 64) ⟨[]⟩ ⟨[(ptr b)]⟩))] 2 ?_
 refine Ops.call (by kernel_rfl) (d := (some 7)) (by kernel_rfl) (indexR_calls _ b A c l H0 (Rd.keep0 (by omega) hA K0)) ?_
 rintro _ w4 ⟨r1, rfl, hr2, K3⟩
 refine ⟨_, _, rfl, rfl, ?_⟩
 replace K0 := K0.t0 K3
 replace H0 := H0.keep K3 (fun h => h)
 clear K3
 refine og 2 [(4, (Value.bool (decide (r1 ≥ 0))))] 5 ?_
 refine od ?_
 refine q_ret (by kernel_rfl) ?_
 refine ⟨(Value.bool (decide (r1 ≥ 0))), retv_tmp rfl rfl, ?_⟩
 exact ⟨_, rfl, ⟨fun h => hr2.1 (of_decide_eq_true h), fun h => decide_eq_true (hr2.2 h)⟩, K0⟩

theorem fits_calls (w : World) (x : LetP) (V : Option Addr) (c : Nat) (D : Option Addr) (dc : Nat) (hV : RdR w (.slice V x.rep.rows.length c) x.rep.rows) : Calls Try.prog 32 ⟨[(agg [(i64 x.kind), (i64 x.n), (i64 x.group), (i64 x.op.kind), (Value.string (str x.op.frm)), (Value.string (str x.op.to)), (i64 x.op.amount), (Value.string (str x.op.key)), (i64 x.op.slot), (i64 x.op.shard), (i64 x.rep.why), (i64 x.rep.amount), (Value.slice V x.rep.rows.length c), (Value.slice D x.body.length dc)])]⟩ w (fun e w' => ∃ t, e = .returned (.bool t) ∧ (t = true ↔ x.Fits) ∧ Keeps none_ w w') := by
 have K0 : Keeps none_ w w := Keeps.refl w
 refine q_calls Try.func32 (by kernel_rfl) (by kernel_rfl) ?_
 refine qs ?_
 refine qg ?_
 refine Ops.new (o := rowL [(i64 x.kind), (i64 x.n), (i64 x.group), (i64 x.op.kind), (Value.string (str x.op.frm)), (Value.string (str x.op.to)), (i64 x.op.amount), (Value.string (str x.op.key)), (i64 x.op.slot), (i64 x.op.shard), (i64 x.rep.why), (i64 x.rep.amount), (Value.slice V x.rep.rows.length c), (Value.slice D x.body.length dc)] 33) (V := fun b => (ptr b)) (by kernel_rfl) (d := (some 1)) (by kernel_rfl) (fun b => rfl) (fun b1 w2 hb3 H4 K5 hs6 => ?_)
 have nb1 : w.heap.size ≤ b1 := by have := K0.size; omega
 replace K0 := K0.t0 K5
 clear K5 hs6
 refine og 1 [(1, (ptr b1)), (2, (Value.bool false))] 2 ?_
 refine od ?_
 refine qs ?_
 refine qg ?_
 refine Ops.new (o := rowL [Value.nilFunc] 106) (V := fun b => (ptr b)) (by kernel_rfl) (d := (some 3)) (by kernel_rfl) (fun b => rfl) (fun b7 w8 hb9 H10 K11 hs12 => ?_)
 have lb7 : b1 < b7 := by have := H4.lt; omega
 have nb7 : w.heap.size ≤ b7 := by have := K0.size; omega
 replace K0 := K0.t0 K11
 replace H4 := H4.keep K11 (fun h => h)
 clear K11 hs12
 refine Ops.put (t := 106) (b := b7) (off := 0) (v := (Value.func (Fn.func 60) ⟨[]⟩ ⟨[]⟩)) (ys := [(Value.func (Fn.func 60) ⟨[]⟩ ⟨[]⟩)]) (by kernel_rfl) (by kernel_rfl) H10 (by kernel_rfl) (d := none) (by kernel_rfl) rfl (fun w13 H14 K15 => ?_)
 clear H10
 replace K0 := K0.trans K15 (U := none_) (fun i h1 h2 => h2) (fun i h1 h2 => by have h2 : i = b7 := h2; exfalso; omega)
 replace H4 := H4.k1 K15 (by omega)
 clear K15
 refine od ?_
 refine qs ?_
 refine qs ?_
 refine qg ?_
 refine og 1 [(1, (ptr b1)), (2, (Value.bool false)), (3, (ptr b7)), (4, (ptr b1))] 1 ?_
 refine Ops.go (v := (i64 x.kind)) (by kernel_rfl) (Runs.load (t := 3) (a := ⟨b1, 0, none⟩) (by kernel_rfl) (H4.loads (by kernel_rfl))) (d := (some 5)) (by kernel_rfl) rfl ?_
 refine od ?_
 refine q_block (id := 0) (by kernel_rfl) ?_
 refine qs ?_
 refine qg ?_
 refine og 2 [(1, (ptr b1)), (2, (Value.bool false)), (3, (ptr b7)), (5, (i64 x.kind)), (6, (Value.bool (x.kind == 2)))] 2 ?_
 refine od ?_
 refine q_cond (o := .tmp 6) (b := (x.kind == 2)) (by kernel_rfl) rfl (fun h16 => ?_) (fun h16 => ?_)
 ·rw [h16]
  have p17 : x.kind = 2 := of_beq_t h16
  refine qs ?_
  refine qg ?_
  refine Ops.go (v := (Value.func (Fn.func 60) ⟨[]⟩ ⟨[]⟩)) (by kernel_rfl) (Runs.load (t := 106) (a := ⟨b7, 0, none⟩) (by kernel_rfl) (H14.loads (by kernel_rfl))) (d := (some 8)) (by kernel_rfl) rfl ?_
  refine og 2 [(1, (ptr b1)), (2, (Value.bool false)), (3, (ptr b7)), (5, (i64 x.kind)), (8, (Value.func (Fn.func 60) ⟨[]⟩ ⟨[]⟩)), (10, (Value.pointer (some ⟨b1, 4, none⟩)))] 3 ?_
  refine Ops.go (v := (Value.string (str x.op.frm))) (by kernel_rfl) (Runs.load (t := 9) (a := ⟨b1, 4, none⟩) (by kernel_rfl) (H4.loads (by kernel_rfl))) (d := (some 11)) (by kernel_rfl) rfl ?_
  refine og 2 [(1, (ptr b1)), (2, (Value.bool false)), (3, (ptr b7)), (5, (i64 x.kind)), (8, (Value.func (Fn.func 60) ⟨[]⟩ ⟨[]⟩)), (11, (Value.string (str x.op.frm))), (13, (Value.pointer (some ⟨b1, 5, none⟩)))] 6 ?_
  refine Ops.go (v := (Value.string (str x.op.to))) (by kernel_rfl) (Runs.load (t := 9) (a := ⟨b1, 5, none⟩) (by kernel_rfl) (H4.loads (by kernel_rfl))) (d := (some 14)) (by kernel_rfl) rfl ?_
  refine og 2 [(1, (ptr b1)), (2, (Value.bool false)), (3, (ptr b7)), (5, (i64 x.kind)), (8, (Value.func (Fn.func 60) ⟨[]⟩ ⟨[]⟩)), (11, (Value.string (str x.op.frm))), (14, (Value.string (str x.op.to))), (16, (Value.pointer (some ⟨b1, 7, none⟩)))] 9 ?_
  refine Ops.go (v := (Value.string (str x.op.key))) (by kernel_rfl) (Runs.load (t := 9) (a := ⟨b1, 7, none⟩) (by kernel_rfl) (H4.loads (by kernel_rfl))) (d := (some 17)) (by kernel_rfl) rfl ?_
  refine Ops.new (o := rowL [(Value.string (str x.op.frm)), (Value.string (str x.op.to)), (Value.string (str x.op.key))] 9) (V := fun b => (Value.slice (some ⟨b, 0, none⟩) 3 3)) (by kernel_rfl) (d := (some 18)) (by kernel_rfl) (fun b => rfl) (fun b18 w19 hb20 H21 K22 hs23 => ?_)
  have lb18 : b7 < b18 := by have := H14.lt; omega
  have nb18 : w.heap.size ≤ b18 := by have := K0.size; omega
  replace K0 := K0.t0 K22
  replace H4 := H4.keep K22 (fun h => h)
  replace H14 := H14.keep K22 (fun h => h)
  clear K22 hs23
  refine Ops.call (by kernel_rfl) (d := (some 19)) (by kernel_rfl) (short3 _ b18 x.op.frm x.op.to x.op.key H21) ?_
  rintro _ w27 ⟨t24, rfl, ht25, K26⟩
  refine ⟨_, _, rfl, rfl, ?_⟩
  replace K0 := K0.t0 K26
  replace H4 := H4.keep K26 (fun h => h)
  replace H14 := H14.keep K26 (fun h => h)
  replace H21 := H21.keep K26 (fun h => h)
  clear K26
  refine og 1 [(1, (ptr b1)), (2, (Value.bool t24)), (3, (ptr b7)), (5, (i64 x.kind))] 13 ?_
  refine od ?_
  refine q_ret (by kernel_rfl) ?_
  refine ⟨(Value.bool t24), retv_tmp rfl rfl, ?_⟩
  exact ⟨_, rfl, ht25.trans ⟨fun h => ⟨fun _ => h, fun q => absurd q (by omega), fun q => absurd (show x.kind = 2 by omega) q⟩, fun h => h.1 (by omega)⟩, K0⟩
 ·rw [h16]
  have p28 : ¬ (x.kind = 2) := of_beq_f h16
  refine qs ?_
  refine qg ?_
  refine og 2 [(1, (ptr b1)), (2, (Value.bool false)), (3, (ptr b7)), (20, (Value.bool (x.kind == 3)))] 2 ?_
  refine od ?_
  refine q_cond (o := .tmp 20) (b := (x.kind == 3)) (by kernel_rfl) rfl (fun h29 => ?_) (fun h29 => ?_)
  ·rw [h29]
   have p30 : x.kind = 3 := of_beq_t h29
   refine qs ?_
   refine qg ?_
   refine og 2 [(1, (ptr b1)), (2, (Value.bool false)), (3, (ptr b7)), (23, (Value.pointer (some ⟨b1, 12, none⟩)))] 2 ?_
   refine Ops.go (v := (Value.slice V x.rep.rows.length c)) (by kernel_rfl) (Runs.load (t := 25) (a := ⟨b1, 12, none⟩) (by kernel_rfl) (H4.loads (by kernel_rfl))) (d := (some 24)) (by kernel_rfl) rfl ?_
   refine og 3 [(1, (ptr b1)), (2, (Value.bool false)), (3, (ptr b7)), (27, (Value.bool (decide (((x.rep.rows.length : Nat) : Int) ≤ 600))))] 6 ?_
   refine Ops.split (decide (((x.rep.rows.length : Nat) : Int) ≤ 600)) (fun h31 => ?_) (fun h31 => ?_)
   ·rw [h31]
    have p32 : ((x.rep.rows.length : Nat) : Int) ≤ 600 := of_decide_eq_true h31
    refine og 2 [(1, (ptr b1)), (2, (Value.bool false)), (3, (ptr b7)), (27, (Value.bool true)), (29, (Value.pointer (some ⟨b1, 12, none⟩)))] 8 ?_
    refine Ops.go (v := (Value.slice V x.rep.rows.length c)) (by kernel_rfl) (Runs.load (t := 25) (a := ⟨b1, 12, none⟩) (by kernel_rfl) (H4.loads (by kernel_rfl))) (d := (some 30)) (by kernel_rfl) rfl ?_
    refine og 1 [(1, (ptr b1)), (2, (Value.bool false)), (27, (Value.bool true)), (30, (Value.slice V x.rep.rows.length c)), (31, (Value.func (Fn.func 64) ⟨[]⟩ ⟨[(ptr b7)]⟩))] 10 ?_
    refine Ops.call (by kernel_rfl) (d := (some 32)) (by kernel_rfl) (containsR_calls _ b7 V c x.rep.rows H14 (Rd.keep0 (by omega) hV K0)) ?_
    rintro _ w36 ⟨t33, rfl, ht34, K35⟩
    refine ⟨_, _, rfl, rfl, ?_⟩
    replace K0 := K0.t0 K35
    replace H4 := H4.keep K35 (fun h => h)
    replace H14 := H14.keep K35 (fun h => h)
    clear K35
    refine og 3 [(1, (ptr b1)), (2, (Value.bool (!t33)))] 14 ?_
    refine od ?_
    refine q_ret (by kernel_rfl) ?_
    refine ⟨(Value.bool (!t33)), retv_tmp rfl rfl, ?_⟩
    exact ⟨_, rfl, ⟨fun h => ⟨fun q => absurd q (by omega), fun _ => ⟨by omega, fun r hr => Nat.le_of_not_lt fun q => by have := ht34.2 ⟨r, hr, q⟩; rw [this] at h; cases h⟩, fun _ q => absurd (show x.kind = 3 by omega) q⟩, fun h => by cases hq : t33; (rfl); (obtain ⟨y, hy, hl⟩ := ht34.1 hq; have := (h.2.1 (by omega)).2 y hy; exfalso; omega)⟩, K0⟩
   ·rw [h31]
    have p37 : ¬ (((x.rep.rows.length : Nat) : Int) ≤ 600) := of_decide_eq_false h31
    refine og 8 [(1, (ptr b1)), (2, (Value.bool false))] 14 ?_
    refine od ?_
    refine q_ret (by kernel_rfl) ?_
    refine ⟨(Value.bool false), retv_tmp rfl rfl, ?_⟩
    exact ⟨false, rfl, ⟨fun h => (by cases h), fun h => by unfold LetP.Fits at h; exfalso; have := h.2.1 (by omega); omega⟩, K0⟩
  ·rw [h29]
   have p38 : ¬ (x.kind = 3) := of_beq_f h29
   refine q_skip (by kernel_rfl) ?_
   refine qs ?_
   refine qg ?_
   refine og 1 [(2, (Value.bool false)), (35, (Value.pointer (some ⟨b1, 13, none⟩)))] 1 ?_
   refine Ops.go (v := (Value.slice D x.body.length dc)) (by kernel_rfl) (Runs.load (t := 28) (a := ⟨b1, 13, none⟩) (by kernel_rfl) (H4.loads (by kernel_rfl))) (d := (some 36)) (by kernel_rfl) rfl ?_
   refine og 3 [(2, (Value.bool (decide (((x.body.length : Nat) : Int) ≤ 65536))))] 5 ?_
   refine od ?_
   refine q_ret (by kernel_rfl) ?_
   refine ⟨(Value.bool (decide (((x.body.length : Nat) : Int) ≤ 65536))), retv_tmp rfl rfl, ?_⟩
   exact ⟨_, rfl, ⟨fun h => ⟨fun q => absurd q (by omega), fun q => absurd q (by omega), fun _ _ => by have := of_decide_eq_true h; omega⟩, fun h => decide_eq_true (by have := h.2.2 (by omega) (by omega); omega)⟩, K0⟩
end Go.Proofs.Ytlnidnadpdpciaa
namespace Go.Proofs.Ytlnidnadpdpciaa
open Go.Q Go.RowKit

theorem Text_calls (w : World) (v : Value) (xs : List UInt8) (ss : List UInt8) (hv : RdB w v xs) (hs : ss.length ≤ 70368744173568) (hl : xs.length ≤ 70368744173568) : Calls Try.prog 66 ⟨[v, (Value.string (str ss))]⟩ w (fun e w' => ∃ v', e = .returned v' ∧ Keeps none_ w w' ∧ OwnB w' w.heap.size 5 v' (xs ++ tv ss)) := by
 have K0 : Keeps none_ w w := Keeps.refl w
 refine q_calls Try.func66 (by kernel_rfl) (by kernel_rfl) ?_
 refine qs ?_
 refine qg ?_
 refine og 1 [(0, v), (1, (Value.string (str ss))), (4, (Value.slice none 0 0))] 1 ?_
 refine od ?_
 refine qs ?_
 refine qg ?_
 refine og 4 [(1, (Value.string (str ss))), (4, (Value.slice none 0 0)), (5, v), (8, (Value.int IntKind.u64 (IntKind.u64.wrap (((ss.length : Nat) : Int)))))] 4 ?_
 have e1 : IntKind.u64.wrap (((ss.length : Nat) : Int)) = ((ss.length : Nat) : Int) := wrap_u64 (by omega) (by omega)
 rw [e1]
 refine Ops.call (by kernel_rfl) (d := (some 9)) (by kernel_rfl) (Uint_calls _ v xs ss.length (hv.keep0 (by omega) K0) (by omega) (by (try simp only at *); (try simp only [List.length_append] at *); (try simp only [List.length_cons] at *); (try simp only [List.length_nil] at *); omega)) ?_
 rintro _ w4 ⟨v3, rfl, K5, hO6⟩
 have O7 := own_base hO6 K0.size
 clear hO6
 have hL2 := uv_length_10 (n := ss.length) (by omega)
 refine ⟨_, _, rfl, rfl, ?_⟩
 replace K0 := K0.t0 K5
 clear K5
 refine og 1 [(4, (Value.slice none 0 0)), (9, v3), (10, (Value.string (str ss)))] 6 ?_
 obtain ⟨v8, w9, hr10, hO11, K12⟩ := OwnB.appS (t := 28) (u := 9) (ty := 28) (ys := ss) (by kernel_rfl) O7 (by (try simp only at *); (try simp only [List.length_append] at *); (try simp only [List.length_cons] at *); (try simp only [List.length_nil] at *); omega) K0.size
 refine Ops.go (v := v8) (by kernel_rfl) (Runs.append (ts := #[28, 9]) (ty := 28) (vs := [v3, (Value.string (str ss))]) (by kernel_rfl) hr10) (d := (some 11)) (by kernel_rfl) rfl ?_
 have K13 := Keeps.own2 K0 K12
 clear O7 K0 hr10 K12
 refine og 1 [(4, v8)] 8 ?_
 refine od ?_
 refine q_ret (by kernel_rfl) ?_
 refine ⟨v8, retv_tmp rfl rfl, ?_⟩
 have hfin : xs ++ uv ss.length ++ ss = xs ++ tv ss := by simp [tv]
 rw [hfin] at hO11
 exact ⟨_, rfl, K13, hO11⟩

theorem BytesW_calls (w : World) (v : Value) (xs : List UInt8) (B : Option Addr) (d : Nat) (ss : List UInt8) (hv : RdB w v xs) (hp : RdB w (.slice B ss.length d) ss) (hs : ss.length ≤ 70368744173568) (hl : xs.length ≤ 70368744173568) : Calls Try.prog 36 ⟨[v, (Value.slice B ss.length d)]⟩ w (fun e w' => ∃ v', e = .returned v' ∧ Keeps none_ w w' ∧ OwnB w' w.heap.size 5 v' (xs ++ tv ss)) := by
 have K0 : Keeps none_ w w := Keeps.refl w
 refine q_calls Try.func36 (by kernel_rfl) (by kernel_rfl) ?_
 refine qs ?_
 refine qg ?_
 refine og 1 [(0, v), (1, (Value.slice B ss.length d)), (4, (Value.slice none 0 0))] 1 ?_
 refine od ?_
 refine qs ?_
 refine qg ?_
 refine og 4 [(1, (Value.slice B ss.length d)), (4, (Value.slice none 0 0)), (5, v), (8, (Value.int IntKind.u64 (IntKind.u64.wrap (((ss.length : Nat) : Int)))))] 4 ?_
 have e1 : IntKind.u64.wrap (((ss.length : Nat) : Int)) = ((ss.length : Nat) : Int) := wrap_u64 (by omega) (by omega)
 rw [e1]
 refine Ops.call (by kernel_rfl) (d := (some 9)) (by kernel_rfl) (Uint_calls _ v xs ss.length (hv.keep0 (by omega) K0) (by omega) (by (try simp only at *); (try simp only [List.length_append] at *); (try simp only [List.length_cons] at *); (try simp only [List.length_nil] at *); omega)) ?_
 rintro _ w4 ⟨v3, rfl, K5, hO6⟩
 have O7 := own_base hO6 K0.size
 clear hO6
 have hL2 := uv_length_10 (n := ss.length) (by omega)
 refine ⟨_, _, rfl, rfl, ?_⟩
 replace K0 := K0.t0 K5
 clear K5
 refine og 1 [(4, (Value.slice none 0 0)), (9, v3), (10, (Value.slice B ss.length d))] 6 ?_
 obtain ⟨v8, w9, hr10, hO11, K12⟩ := OwnB.app (ty := 28) tyB O7 (hp.keep0 (by omega) K0) (by (try simp only at *); (try simp only [List.length_append] at *); (try simp only [List.length_cons] at *); (try simp only [List.length_nil] at *); omega) K0.size
 refine Ops.go (v := v8) (by kernel_rfl) (Runs.append (ts := #[28, 28]) (ty := 28) (vs := [v3, (Value.slice B ss.length d)]) (by kernel_rfl) hr10) (d := (some 11)) (by kernel_rfl) rfl ?_
 have K13 := Keeps.own2 K0 K12
 clear O7 K0 hr10 K12
 refine og 1 [(4, v8)] 8 ?_
 refine od ?_
 refine q_ret (by kernel_rfl) ?_
 refine ⟨v8, retv_tmp rfl rfl, ?_⟩
 have hfin : xs ++ uv ss.length ++ ss = xs ++ tv ss := by simp [tv]
 rw [hfin] at hO11
 exact ⟨_, rfl, K13, hO11⟩
end Go.Proofs.Ytlnidnadpdpciaa
namespace Go.Proofs.Ytlnidnadpdpciaa
open Go.Q Go.RowKit

theorem PutOp_calls (w : World) (v : Value) (xs : List UInt8) (o : Opm) (hv : RdB w v xs) (ho : o.Ok) (hl : xs.length + (opv o).length ≤ 70368744173568) : Calls Try.prog 34 ⟨[v, (agg [(i64 o.kind), (Value.string (str o.frm)), (Value.string (str o.to)), (i64 o.amount), (Value.string (str o.key)), (i64 o.slot), (i64 o.shard)])]⟩ w (fun e w' => ∃ v', e = .returned v' ∧ Keeps none_ w w' ∧ OwnB w' w.heap.size 5 v' (xs ++ opv o)) := by
 have hol := opv_len o
 have hi1 := ho.kind
 have hi2 := ho.amount
 have hi3 := ho.slot
 have hi4 := ho.shard
 have ht1 := tv_ge o.frm
 have ht2 := tv_ge o.to
 have ht3 := tv_ge o.key
 have K0 : Keeps none_ w w := Keeps.refl w
 refine q_calls Try.func34 (by kernel_rfl) (by kernel_rfl) ?_
 refine qs ?_
 refine qg ?_
 refine Ops.new (o := rowL [(i64 o.kind), (Value.string (str o.frm)), (Value.string (str o.to)), (i64 o.amount), (Value.string (str o.key)), (i64 o.slot), (i64 o.shard)] 23) (V := fun b => (ptr b)) (by kernel_rfl) (d := (some 3)) (by kernel_rfl) (fun b => rfl) (fun b1 w2 hb3 H4 K5 hs6 => ?_)
 have nb1 : w.heap.size ≤ b1 := by have := K0.size; omega
 replace K0 := K0.t0 K5
 clear K5 hs6
 refine og 1 [(0, v), (3, (ptr b1)), (4, (Value.slice none 0 0))] 2 ?_
 refine od ?_
 refine qs ?_
 refine q_draw (fun wz => Keeps none_ w2 wz) 11 (by kernel_rfl) (by kernel_rfl) (by kernel_rfl) (fun w7 K8 _ _ => ⟨K8, ?_⟩)
 replace K0 := K0.t0 K8
 replace H4 := H4.keep K8 (fun h => h)
 refine Dr.strong (S' := (fun wz => Keeps none_ w7 wz)) (Keeps.refl w7) (fun wz hx => K8.trans hx (fun i _ h => h) (fun _ _ h => h)) ?_
 clear K8
 refine Dr.takes (fuel' := 9) (is' := _) [0, 1] [(0, v), (3, (ptr b1)), (4, (Value.slice none 0 0)), (5, v), (6, (ptr b1))] (by kernel_rfl) rfl (by kernel_rfl) ?_
 refine Dr.take (i := 2) (v := (i64 o.kind)) (by kernel_rfl) (by kernel_rfl) (fun wz hS => Runs.load (t := 3) (a := ⟨b1, 0, none⟩) (by kernel_rfl) ((H4.keep hS (fun h => h)).loads (by kernel_rfl))) (d := (some 7)) (by kernel_rfl) rfl ?_
 refine Dr.takes (fuel' := 7) (is' := _) [4] [(0, v), (3, (ptr b1)), (4, (Value.slice none 0 0)), (5, v), (7, (i64 o.kind)), (9, (Value.pointer (some ⟨b1, 1, none⟩)))] (by kernel_rfl) rfl (by kernel_rfl) ?_
 refine Dr.take (i := 5) (v := (Value.string (str o.frm))) (by kernel_rfl) (by kernel_rfl) (fun wz hS => Runs.load (t := 9) (a := ⟨b1, 1, none⟩) (by kernel_rfl) ((H4.keep hS (fun h => h)).loads (by kernel_rfl))) (d := (some 10)) (by kernel_rfl) rfl ?_
 refine Dr.takes (fuel' := 5) (is' := _) [7] [(0, v), (3, (ptr b1)), (4, (Value.slice none 0 0)), (5, v), (7, (i64 o.kind)), (10, (Value.string (str o.frm))), (12, (Value.pointer (some ⟨b1, 2, none⟩)))] (by kernel_rfl) rfl (by kernel_rfl) ?_
 refine Dr.take (i := 8) (v := (Value.string (str o.to))) (by kernel_rfl) (by kernel_rfl) (fun wz hS => Runs.load (t := 9) (a := ⟨b1, 2, none⟩) (by kernel_rfl) ((H4.keep hS (fun h => h)).loads (by kernel_rfl))) (d := (some 13)) (by kernel_rfl) rfl ?_
 refine Dr.call (i := 3) (by kernel_rfl) (by kernel_rfl) (d := (some 8)) (by kernel_rfl) (fun _ => Int_calls _ v xs o.kind (hv.keep0 (by omega) K0) (by omega) (by (try simp only at *); (try simp only [List.length_append] at *); (try simp only [List.length_cons] at *); (try simp only [List.length_nil] at *); omega)) ?_
 rintro _ w11 ⟨v10, rfl, K12, hO13⟩
 have O14 := own_base hO13 K0.size
 clear hO13
 have hL9 := iv_length_10 (n := o.kind) (by omega)
 replace K0 := K0.t0 K12
 replace H4 := H4.keep K12 (fun h => h)
 refine ⟨_, _, rfl, rfl, K12, ?_⟩
 refine Dr.strong (S' := (fun wz => Keeps none_ w11 wz)) (Keeps.refl w11) (fun wz hx => K12.trans hx (fun i _ h => h) (fun _ _ h => h)) ?_
 clear K12
 refine Dr.call (i := 6) (by kernel_rfl) (by kernel_rfl) (d := (some 11)) (by kernel_rfl) (fun _ => Text_calls _ v10 (xs ++ iv o.kind) o.frm (OwnB.rd O14) (by first | omega | decide) (by (try simp only at *); (try simp only [List.length_append] at *); (try simp only [List.length_cons] at *); (try simp only [List.length_nil] at *); omega)) ?_
 rintro _ w18 ⟨v17, rfl, K19, hO20⟩
 have O21 := own_base hO20 K0.size
 clear hO20
 have hL15 := tv_ge o.frm
 have hL16 := tv_le (s := o.frm) (by first | omega | decide)
 replace K0 := K0.t0 K19
 replace H4 := H4.keep K19 (fun h => h)
 replace O14 := own_keep0 O14 K19
 refine ⟨_, _, rfl, rfl, K19, ?_⟩
 refine Dr.strong (S' := (fun wz => Keeps none_ w18 wz)) (Keeps.refl w18) (fun wz hx => K19.trans hx (fun i _ h => h) (fun _ _ h => h)) ?_
 clear K19
 refine Dr.call (i := 9) (by kernel_rfl) (by kernel_rfl) (d := (some 14)) (by kernel_rfl) (fun _ => Text_calls _ v17 (xs ++ iv o.kind ++ tv o.frm) o.to (OwnB.rd O21) (by first | omega | decide) (by (try simp only at *); (try simp only [List.length_append] at *); (try simp only [List.length_cons] at *); (try simp only [List.length_nil] at *); omega)) ?_
 rintro _ w25 ⟨v24, rfl, K26, hO27⟩
 have O28 := own_base hO27 K0.size
 clear hO27
 have hL22 := tv_ge o.to
 have hL23 := tv_le (s := o.to) (by first | omega | decide)
 replace K0 := K0.t0 K26
 replace H4 := H4.keep K26 (fun h => h)
 replace O14 := own_keep0 O14 K26
 replace O21 := own_keep0 O21 K26
 refine ⟨_, _, rfl, rfl, K26, ?_⟩
 refine Dr.strong (S' := (fun wz => Keeps none_ w25 wz)) (Keeps.refl w25) (fun wz hx => K26.trans hx (fun i _ h => h) (fun _ _ h => h)) ?_
 clear K26
 refine Dr.takes (fuel' := 0) (is' := _) [10] [(0, v24), (3, (ptr b1)), (4, (Value.slice none 0 0))] (by kernel_rfl) rfl (by kernel_rfl) ?_
 refine Dr.done (by kernel_rfl) ?_
 refine qs ?_
 refine q_draw (fun wz => Keeps none_ w25 wz) 8 (by kernel_rfl) (by kernel_rfl) (by kernel_rfl) (fun w29 K30 _ _ => ⟨K30, ?_⟩)
 replace K0 := K0.t0 K30
 replace H4 := H4.keep K30 (fun h => h)
 replace O14 := own_keep0 O14 K30
 replace O21 := own_keep0 O21 K30
 replace O28 := own_keep0 O28 K30
 refine Dr.strong (S' := (fun wz => Keeps none_ w29 wz)) (Keeps.refl w29) (fun wz hx => K30.trans hx (fun i _ h => h) (fun _ _ h => h)) ?_
 clear K30
 refine Dr.takes (fuel' := 6) (is' := _) [0, 1] [(0, v24), (3, (ptr b1)), (4, (Value.slice none 0 0)), (15, v24), (16, (Value.pointer (some ⟨b1, 3, none⟩)))] (by kernel_rfl) rfl (by kernel_rfl) ?_
 refine Dr.take (i := 2) (v := (i64 o.amount)) (by kernel_rfl) (by kernel_rfl) (fun wz hS => Runs.load (t := 2) (a := ⟨b1, 3, none⟩) (by kernel_rfl) ((H4.keep hS (fun h => h)).loads (by kernel_rfl))) (d := (some 17)) (by kernel_rfl) rfl ?_
 refine Dr.takes (fuel' := 4) (is' := _) [4] [(0, v24), (3, (ptr b1)), (4, (Value.slice none 0 0)), (15, v24), (17, (i64 o.amount)), (19, (Value.pointer (some ⟨b1, 4, none⟩)))] (by kernel_rfl) rfl (by kernel_rfl) ?_
 refine Dr.take (i := 5) (v := (Value.string (str o.key))) (by kernel_rfl) (by kernel_rfl) (fun wz hS => Runs.load (t := 9) (a := ⟨b1, 4, none⟩) (by kernel_rfl) ((H4.keep hS (fun h => h)).loads (by kernel_rfl))) (d := (some 20)) (by kernel_rfl) rfl ?_
 refine Dr.call (i := 3) (by kernel_rfl) (by kernel_rfl) (d := (some 18)) (by kernel_rfl) (fun _ => Int_calls _ v24 (xs ++ iv o.kind ++ tv o.frm ++ tv o.to) o.amount (OwnB.rd O28) (by omega) (by (try simp only at *); (try simp only [List.length_append] at *); (try simp only [List.length_cons] at *); (try simp only [List.length_nil] at *); omega)) ?_
 rintro _ w33 ⟨v32, rfl, K34, hO35⟩
 have O36 := own_base hO35 K0.size
 clear hO35
 have hL31 := iv_length_10 (n := o.amount) (by omega)
 replace K0 := K0.t0 K34
 replace H4 := H4.keep K34 (fun h => h)
 replace O14 := own_keep0 O14 K34
 replace O21 := own_keep0 O21 K34
 replace O28 := own_keep0 O28 K34
 refine ⟨_, _, rfl, rfl, K34, ?_⟩
 refine Dr.strong (S' := (fun wz => Keeps none_ w33 wz)) (Keeps.refl w33) (fun wz hx => K34.trans hx (fun i _ h => h) (fun _ _ h => h)) ?_
 clear K34
 refine Dr.call (i := 6) (by kernel_rfl) (by kernel_rfl) (d := (some 21)) (by kernel_rfl) (fun _ => Text_calls _ v32 (xs ++ iv o.kind ++ tv o.frm ++ tv o.to ++ iv o.amount) o.key (OwnB.rd O36) (by first | omega | decide) (by (try simp only at *); (try simp only [List.length_append] at *); (try simp only [List.length_cons] at *); (try simp only [List.length_nil] at *); omega)) ?_
 rintro _ w40 ⟨v39, rfl, K41, hO42⟩
 have O43 := own_base hO42 K0.size
 clear hO42
 have hL37 := tv_ge o.key
 have hL38 := tv_le (s := o.key) (by first | omega | decide)
 replace K0 := K0.t0 K41
 replace H4 := H4.keep K41 (fun h => h)
 replace O14 := own_keep0 O14 K41
 replace O21 := own_keep0 O21 K41
 replace O28 := own_keep0 O28 K41
 replace O36 := own_keep0 O36 K41
 refine ⟨_, _, rfl, rfl, K41, ?_⟩
 refine Dr.strong (S' := (fun wz => Keeps none_ w40 wz)) (Keeps.refl w40) (fun wz hx => K41.trans hx (fun i _ h => h) (fun _ _ h => h)) ?_
 clear K41
 refine Dr.takes (fuel' := 0) (is' := _) [7] [(0, v39), (3, (ptr b1)), (4, (Value.slice none 0 0))] (by kernel_rfl) rfl (by kernel_rfl) ?_
 refine Dr.done (by kernel_rfl) ?_
 refine qs ?_
 refine q_draw (fun wz => Keeps none_ w40 wz) 8 (by kernel_rfl) (by kernel_rfl) (by kernel_rfl) (fun w44 K45 _ _ => ⟨K45, ?_⟩)
 replace K0 := K0.t0 K45
 replace H4 := H4.keep K45 (fun h => h)
 replace O14 := own_keep0 O14 K45
 replace O21 := own_keep0 O21 K45
 replace O28 := own_keep0 O28 K45
 replace O36 := own_keep0 O36 K45
 replace O43 := own_keep0 O43 K45
 refine Dr.strong (S' := (fun wz => Keeps none_ w44 wz)) (Keeps.refl w44) (fun wz hx => K45.trans hx (fun i _ h => h) (fun _ _ h => h)) ?_
 clear K45
 refine Dr.takes (fuel' := 6) (is' := _) [0, 1] [(3, (ptr b1)), (4, (Value.slice none 0 0)), (22, v39), (23, (Value.pointer (some ⟨b1, 5, none⟩)))] (by kernel_rfl) rfl (by kernel_rfl) ?_
 refine Dr.take (i := 2) (v := (i64 o.slot)) (by kernel_rfl) (by kernel_rfl) (fun wz hS => Runs.load (t := 3) (a := ⟨b1, 5, none⟩) (by kernel_rfl) ((H4.keep hS (fun h => h)).loads (by kernel_rfl))) (d := (some 24)) (by kernel_rfl) rfl ?_
 refine Dr.takes (fuel' := 4) (is' := _) [4] [(4, (Value.slice none 0 0)), (22, v39), (24, (i64 o.slot)), (26, (Value.pointer (some ⟨b1, 6, none⟩)))] (by kernel_rfl) rfl (by kernel_rfl) ?_
 refine Dr.take (i := 5) (v := (i64 o.shard)) (by kernel_rfl) (by kernel_rfl) (fun wz hS => Runs.load (t := 3) (a := ⟨b1, 6, none⟩) (by kernel_rfl) ((H4.keep hS (fun h => h)).loads (by kernel_rfl))) (d := (some 27)) (by kernel_rfl) rfl ?_
 refine Dr.call (i := 3) (by kernel_rfl) (by kernel_rfl) (d := (some 25)) (by kernel_rfl) (fun _ => Int_calls _ v39 (xs ++ iv o.kind ++ tv o.frm ++ tv o.to ++ iv o.amount ++ tv o.key) o.slot (OwnB.rd O43) (by omega) (by (try simp only at *); (try simp only [List.length_append] at *); (try simp only [List.length_cons] at *); (try simp only [List.length_nil] at *); omega)) ?_
 rintro _ w48 ⟨v47, rfl, K49, hO50⟩
 have O51 := own_base hO50 K0.size
 clear hO50
 have hL46 := iv_length_10 (n := o.slot) (by omega)
 replace K0 := K0.t0 K49
 replace H4 := H4.keep K49 (fun h => h)
 replace O14 := own_keep0 O14 K49
 replace O21 := own_keep0 O21 K49
 replace O28 := own_keep0 O28 K49
 replace O36 := own_keep0 O36 K49
 replace O43 := own_keep0 O43 K49
 refine ⟨_, _, rfl, rfl, K49, ?_⟩
 refine Dr.strong (S' := (fun wz => Keeps none_ w48 wz)) (Keeps.refl w48) (fun wz hx => K49.trans hx (fun i _ h => h) (fun _ _ h => h)) ?_
 clear K49
 refine Dr.call (i := 6) (by kernel_rfl) (by kernel_rfl) (d := (some 28)) (by kernel_rfl) (fun _ => Int_calls _ v47 (xs ++ iv o.kind ++ tv o.frm ++ tv o.to ++ iv o.amount ++ tv o.key ++ iv o.slot) o.shard (OwnB.rd O51) (by omega) (by (try simp only at *); (try simp only [List.length_append] at *); (try simp only [List.length_cons] at *); (try simp only [List.length_nil] at *); omega)) ?_
 rintro _ w54 ⟨v53, rfl, K55, hO56⟩
 have O57 := own_base hO56 K0.size
 clear hO56
 have hL52 := iv_length_10 (n := o.shard) (by omega)
 replace K0 := K0.t0 K55
 replace H4 := H4.keep K55 (fun h => h)
 replace O14 := own_keep0 O14 K55
 replace O21 := own_keep0 O21 K55
 replace O28 := own_keep0 O28 K55
 replace O36 := own_keep0 O36 K55
 replace O43 := own_keep0 O43 K55
 replace O51 := own_keep0 O51 K55
 refine ⟨_, _, rfl, rfl, K55, ?_⟩
 refine Dr.strong (S' := (fun wz => Keeps none_ w54 wz)) (Keeps.refl w54) (fun wz hx => K55.trans hx (fun i _ h => h) (fun _ _ h => h)) ?_
 clear K55
 refine Dr.takes (fuel' := 0) (is' := _) [7] [(4, v53)] (by kernel_rfl) rfl (by kernel_rfl) ?_
 refine Dr.done (by kernel_rfl) ?_
 refine q_ret (by kernel_rfl) ?_
 refine ⟨v53, retv_tmp rfl rfl, ?_⟩
 have hfin : xs ++ iv o.kind ++ tv o.frm ++ tv o.to ++ iv o.amount ++ tv o.key ++ iv o.slot ++ iv o.shard = xs ++ opv o := by simp only [opv, List.append_assoc]
 rw [hfin] at O57
 exact ⟨_, rfl, K0, O57⟩

theorem PutReply_calls (w : World) (v : Value) (xs : List UInt8) (p : ReplyM) (A : Option Addr) (c : Nat) (hv : RdB w v xs) (hpo : p.Ok) (hp : RdR w (.slice A p.rows.length c) p.rows) (hl : xs.length + (rpv p).length ≤ 70368744173568) : Calls Try.prog 35 ⟨[v, (agg [(i64 p.why), (i64 p.amount), (Value.slice A p.rows.length c)])]⟩ w (fun e w' => ∃ v', e = .returned v' ∧ Keeps none_ w w' ∧ OwnB w' w.heap.size 5 v' (xs ++ rpv p)) := by
 have hpl := rpv_len p
 have hi1 := hpo.why
 have hi2 := hpo.amount
 have hrl := (RdT.len RowM.two (by decide) hp).2
 unfold maxLen at hrl
 have hge := rowsv_ge p.rows
 have K0 : Keeps none_ w w := Keeps.refl w
 refine q_calls Try.func35 (by kernel_rfl) (by kernel_rfl) ?_
 refine qs ?_
 refine qg ?_
 refine Ops.new (o := rowL [(i64 p.why), (i64 p.amount), (Value.slice A p.rows.length c)] 27) (V := fun b => (ptr b)) (by kernel_rfl) (d := (some 3)) (by kernel_rfl) (fun b => rfl) (fun b1 w2 hb3 H4 K5 hs6 => ?_)
 have nb1 : w.heap.size ≤ b1 := by have := K0.size; omega
 replace K0 := K0.t0 K5
 clear K5 hs6
 refine og 1 [(0, v), (3, (ptr b1)), (4, (Value.slice none 0 0))] 2 ?_
 refine od ?_
 refine qs ?_
 refine q_draw (fun wz => Keeps none_ w2 wz) 13 (by kernel_rfl) (by kernel_rfl) (by kernel_rfl) (fun w7 K8 _ _ => ⟨K8, ?_⟩)
 replace K0 := K0.t0 K8
 replace H4 := H4.keep K8 (fun h => h)
 refine Dr.strong (S' := (fun wz => Keeps none_ w7 wz)) (Keeps.refl w7) (fun wz hx => K8.trans hx (fun i _ h => h) (fun _ _ h => h)) ?_
 clear K8
 refine Dr.takes (fuel' := 11) (is' := _) [0, 1] [(0, v), (3, (ptr b1)), (4, (Value.slice none 0 0)), (7, v), (8, (ptr b1))] (by kernel_rfl) rfl (by kernel_rfl) ?_
 refine Dr.take (i := 2) (v := (i64 p.why)) (by kernel_rfl) (by kernel_rfl) (fun wz hS => Runs.load (t := 24) (a := ⟨b1, 0, none⟩) (by kernel_rfl) ((H4.keep hS (fun h => h)).loads (by kernel_rfl))) (d := (some 9)) (by kernel_rfl) rfl ?_
 refine Dr.takes (fuel' := 9) (is' := _) [4] [(0, v), (3, (ptr b1)), (4, (Value.slice none 0 0)), (7, v), (9, (i64 p.why)), (11, (Value.pointer (some ⟨b1, 1, none⟩)))] (by kernel_rfl) rfl (by kernel_rfl) ?_
 refine Dr.take (i := 5) (v := (i64 p.amount)) (by kernel_rfl) (by kernel_rfl) (fun wz hS => Runs.load (t := 2) (a := ⟨b1, 1, none⟩) (by kernel_rfl) ((H4.keep hS (fun h => h)).loads (by kernel_rfl))) (d := (some 12)) (by kernel_rfl) rfl ?_
 refine Dr.takes (fuel' := 7) (is' := _) [7] [(0, v), (3, (ptr b1)), (4, (Value.slice none 0 0)), (7, v), (9, (i64 p.why)), (12, (i64 p.amount)), (14, (Value.pointer (some ⟨b1, 2, none⟩)))] (by kernel_rfl) rfl (by kernel_rfl) ?_
 refine Dr.take (i := 8) (v := (Value.slice A p.rows.length c)) (by kernel_rfl) (by kernel_rfl) (fun wz hS => Runs.load (t := 25) (a := ⟨b1, 2, none⟩) (by kernel_rfl) ((H4.keep hS (fun h => h)).loads (by kernel_rfl))) (d := (some 15)) (by kernel_rfl) rfl ?_
 refine Dr.takes (fuel' := 4) (is' := _) [9, 10] [(0, v), (3, (ptr b1)), (4, (Value.slice none 0 0)), (7, v), (9, (i64 p.why)), (12, (i64 p.amount)), (17, (Value.int IntKind.u64 (IntKind.u64.wrap (((p.rows.length : Nat) : Int)))))] (by kernel_rfl) rfl (by kernel_rfl) ?_
 have e9 : IntKind.u64.wrap (((p.rows.length : Nat) : Int)) = ((p.rows.length : Nat) : Int) := wrap_u64 (by omega) (by omega)
 rw [e9]
 refine Dr.call (i := 3) (by kernel_rfl) (by kernel_rfl) (d := (some 10)) (by kernel_rfl) (fun _ => Int_calls _ v xs p.why (hv.keep0 (by omega) K0) (by omega) (by (try simp only at *); (try simp only [List.length_append] at *); (try simp only [List.length_cons] at *); (try simp only [List.length_nil] at *); omega)) ?_
 rintro _ w12 ⟨v11, rfl, K13, hO14⟩
 have O15 := own_base hO14 K0.size
 clear hO14
 have hL10 := iv_length_10 (n := p.why) (by omega)
 replace K0 := K0.t0 K13
 replace H4 := H4.keep K13 (fun h => h)
 refine ⟨_, _, rfl, rfl, K13, ?_⟩
 refine Dr.strong (S' := (fun wz => Keeps none_ w12 wz)) (Keeps.refl w12) (fun wz hx => K13.trans hx (fun i _ h => h) (fun _ _ h => h)) ?_
 clear K13
 refine Dr.call (i := 6) (by kernel_rfl) (by kernel_rfl) (d := (some 13)) (by kernel_rfl) (fun _ => Int_calls _ v11 (xs ++ iv p.why) p.amount (OwnB.rd O15) (by omega) (by (try simp only at *); (try simp only [List.length_append] at *); (try simp only [List.length_cons] at *); (try simp only [List.length_nil] at *); omega)) ?_
 rintro _ w18 ⟨v17, rfl, K19, hO20⟩
 have O21 := own_base hO20 K0.size
 clear hO20
 have hL16 := iv_length_10 (n := p.amount) (by omega)
 replace K0 := K0.t0 K19
 replace H4 := H4.keep K19 (fun h => h)
 replace O15 := own_keep0 O15 K19
 refine ⟨_, _, rfl, rfl, K19, ?_⟩
 refine Dr.strong (S' := (fun wz => Keeps none_ w18 wz)) (Keeps.refl w18) (fun wz hx => K19.trans hx (fun i _ h => h) (fun _ _ h => h)) ?_
 clear K19
 refine Dr.call (i := 11) (by kernel_rfl) (by kernel_rfl) (d := (some 18)) (by kernel_rfl) (fun _ => Uint_calls _ v17 (xs ++ iv p.why ++ iv p.amount) p.rows.length (OwnB.rd O21) (by omega) (by (try simp only at *); (try simp only [List.length_append] at *); (try simp only [List.length_cons] at *); (try simp only [List.length_nil] at *); omega)) ?_
 rintro _ w24 ⟨v23, rfl, K25, hO26⟩
 have O27 := own_base hO26 K0.size
 clear hO26
 have hL22 := uv_length_10 (n := p.rows.length) (by omega)
 replace K0 := K0.t0 K25
 replace H4 := H4.keep K25 (fun h => h)
 replace O15 := own_keep0 O15 K25
 replace O21 := own_keep0 O21 K25
 refine ⟨_, _, rfl, rfl, K25, ?_⟩
 refine Dr.strong (S' := (fun wz => Keeps none_ w24 wz)) (Keeps.refl w24) (fun wz hx => K25.trans hx (fun i _ h => h) (fun _ _ h => h)) ?_
 clear K25
 refine Dr.takes (fuel' := 0) (is' := _) [12] [(0, v23), (3, (ptr b1)), (4, (Value.slice none 0 0))] (by kernel_rfl) rfl (by kernel_rfl) ?_
 refine Dr.done (by kernel_rfl) ?_
 refine qs ?_
 refine qs ?_
 refine qg ?_
 refine og 1 [(0, v23), (4, (Value.slice none 0 0)), (19, (Value.pointer (some ⟨b1, 2, none⟩)))] 1 ?_
 refine Ops.go (v := (Value.slice A p.rows.length c)) (by kernel_rfl) (Runs.load (t := 25) (a := ⟨b1, 2, none⟩) (by kernel_rfl) (H4.loads (by kernel_rfl))) (d := (some 20)) (by kernel_rfl) rfl ?_
 refine og 2 [(0, v23), (4, (Value.slice none 0 0)), (20, (Value.slice A p.rows.length c)), (21, (i64 ((p.rows.length : Nat) : Int))), (22, (i64 0))] 4 ?_
 refine od ?_
 refine q_block (id := 0) (by kernel_rfl) ?_
 refine q_keep (R := [(0, v23), (4, (Value.slice none 0 0)), (20, (Value.slice A p.rows.length c)), (21, (i64 ((p.rows.length : Nat) : Int))), (22, (i64 0))]) (by kernel_rfl) ?_
 refine q_loop (fun (gs : Value × Nat × (List UInt8)) L (wx : World) => match gs with | (u, i, ys) => L = [(0, u), (4, (Value.slice none 0 0)), (20, (Value.slice A p.rows.length c)), (21, (i64 ((p.rows.length : Nat) : Int))), (22, (i64 ((i : Nat) : Int)))] ∧ OwnB wx w.heap.size 5 u ys ∧ ys = xs ++ (iv p.why ++ (iv p.amount ++ (uv p.rows.length ++ rowsv (p.rows.take i)))) ∧ i ≤ p.rows.length ∧ Keeps none_ w wx ∧ Has wx b1 (rowL [(i64 p.why), (i64 p.amount), (Value.slice A p.rows.length c)] 27)) (fun (gs : Value × Nat × (List UInt8)) => match gs with | (u, i, ys) => p.rows.length - i) (v23, 0, xs ++ iv p.why ++ iv p.amount ++ uv p.rows.length) (by kernel_rfl) ⟨rfl, O27, (by simp [rowsv]), Nat.zero_le _, K0, H4⟩ ?_
 clear H4 O15 O21 O27 K0
 rintro ⟨u, i, ys⟩ _ w28 ⟨rfl, hU, hE, hi, K29, H30⟩
 have hyl := congrArg List.length hE
 simp only [List.length_append] at hyl
 have htl0 := rowsv_take_le p.rows i
 refine qs ?_
 refine qg ?_
 refine og 1 [(0, u), (4, (Value.slice none 0 0)), (20, (Value.slice A p.rows.length c)), (21, (i64 ((p.rows.length : Nat) : Int))), (22, (i64 ((i : Nat) : Int))), (23, (Value.bool (decide (((i : Nat) : Int) < ((p.rows.length : Nat) : Int)))))] 1 ?_
 refine od ?_
 refine qs ?_
 refine q_cond (o := .tmp 23) (b := (decide (((i : Nat) : Int) < ((p.rows.length : Nat) : Int)))) (by kernel_rfl) rfl (fun h31 => ?_) (fun h31 => ?_)
 ·rw [h31]
  have p32 : ((i : Nat) : Int) < ((p.rows.length : Nat) : Int) := of_decide_eq_true h31
  obtain ⟨rb33, ro34, x, hA35, hx36⟩ := RdT.open (Rd.keep0 (by omega) hp K29) rfl (k := i) (by omega)
  have hX := hx36
  have hxr := hpo.rows x (List.mem_of_getElem? hX)
  have htk := congrArg List.length (rowsv_take hX)
  simp only [List.length_append] at htk
  have htl := rowsv_take_le p.rows (i + 1)
  have htg := tv_ge x.name
  refine q_skip (by kernel_rfl) ?_
  refine qs ?_
  refine q_block (id := 1) (by kernel_rfl) ?_
  refine qs ?_
  refine qg ?_
  refine Ops.go (by kernel_rfl) (Runs.ixSliceE (k := IntKind.i64) (t := 25) (len := p.rows.length) (cap := c) (s := 2) (off' := ro34 + i * 2) (i := ((i : Nat) : Int)) hA35 (by kernel_rfl) (by kernel_rfl) (by omega) (by omega) (by omega)) (d := (some 24)) (by kernel_rfl) rfl ?_
  refine Ops.go (v := (agg [(Value.string (str x.name)), (i64 x.amount)])) (by kernel_rfl) (Runs.load (t := 59) (a := ⟨rb33, ro34 + i * 2, none⟩) (by kernel_rfl) (RdT.ld (f := RowM.cells) (x := x) RowM.two (Rd.keep0 (by omega) hp K29) (by kernel_rfl) (by kernel_rfl) hA35 hx36)) (d := (some 25)) (by kernel_rfl) rfl ?_
  refine Ops.new (o := rowL [(Value.string ByteArray.empty), (i64 0)] 59) (V := fun b => (ptr b)) (by kernel_rfl) (d := (some 6)) (by kernel_rfl) (fun b => rfl) (fun b37 w38 hb39 H40 K41 hs42 => ?_)
  have lb37 : b1 < b37 := by have := H30.lt; omega
  have nb37 : w.heap.size ≤ b37 := by have := K29.size; omega
  have ob43 : ∀ i, (u).ownBlock = some i → i < b37 := fun i hi => by have := (World.ownsRow.lt hU i hi).2; omega
  replace K29 := K29.trans K41 (U := none_) (fun i h1 h2 => h2) (fun i h1 h2 => by exact h2)
  replace H30 := H30.keep K41 (fun h => h)
  replace hU := own_keep0 hU K41
  clear K41 hs42
  refine Ops.put (t := 59) (b := b37) (off := 0) (v := (agg [(Value.string (str x.name)), (i64 x.amount)])) (ys := [(Value.string (str x.name)), (i64 x.amount)]) (by kernel_rfl) (by kernel_rfl) H40 (by kernel_rfl) (d := none) (by kernel_rfl) rfl (fun w44 H45 K46 => ?_)
  clear H40
  replace K29 := K29.trans K46 (U := none_) (fun i h1 h2 => h2) (fun i h1 h2 => by have h2 : i = b37 := h2; exfalso; omega)
  replace H30 := H30.k1 K46 (by omega)
  replace hU := own_keep hU K46 (fun i hi => by have := ob43 i hi; omega)
  clear K46
  refine od ?_
  refine q_draw (fun wz => Keeps none_ w44 wz) 8 (by kernel_rfl) (by kernel_rfl) (by kernel_rfl) (fun w47 K48 _ _ => ⟨K48, ?_⟩)
  replace K29 := K29.trans K48 (U := none_) (fun i h1 h2 => h2) (fun i h1 h2 => by exact h2)
  replace H30 := H30.keep K48 (fun h => h)
  replace H45 := H45.keep K48 (fun h => h)
  replace hU := own_keep0 hU K48
  refine Dr.strong (S' := (fun wz => Keeps none_ w47 wz)) (Keeps.refl w47) (fun wz hx => K48.trans hx (fun i _ h => h) (fun _ _ h => h)) ?_
  clear K48
  refine Dr.takes (fuel' := 6) (is' := _) [0, 1] [(0, u), (4, (Value.slice none 0 0)), (6, (ptr b37)), (20, (Value.slice A p.rows.length c)), (21, (i64 ((p.rows.length : Nat) : Int))), (22, (i64 ((i : Nat) : Int))), (26, u), (27, (ptr b37))] (by kernel_rfl) rfl (by kernel_rfl) ?_
  refine Dr.take (i := 2) (v := (Value.string (str x.name))) (by kernel_rfl) (by kernel_rfl) (fun wz hS => Runs.load (t := 9) (a := ⟨b37, 0, none⟩) (by kernel_rfl) ((H45.keep hS (fun h => h)).loads (by kernel_rfl))) (d := (some 28)) (by kernel_rfl) rfl ?_
  refine Dr.takes (fuel' := 4) (is' := _) [4] [(0, u), (4, (Value.slice none 0 0)), (20, (Value.slice A p.rows.length c)), (21, (i64 ((p.rows.length : Nat) : Int))), (22, (i64 ((i : Nat) : Int))), (26, u), (28, (Value.string (str x.name))), (30, (Value.pointer (some ⟨b37, 1, none⟩)))] (by kernel_rfl) rfl (by kernel_rfl) ?_
  refine Dr.take (i := 5) (v := (i64 x.amount)) (by kernel_rfl) (by kernel_rfl) (fun wz hS => Runs.load (t := 2) (a := ⟨b37, 1, none⟩) (by kernel_rfl) ((H45.keep hS (fun h => h)).loads (by kernel_rfl))) (d := (some 31)) (by kernel_rfl) rfl ?_
  refine Dr.call (i := 3) (by kernel_rfl) (by kernel_rfl) (d := (some 29)) (by kernel_rfl) (fun _ => Text_calls _ u ys x.name (OwnB.rd hU) (by first | omega | decide) (by (try simp only at *); (try simp only [List.length_append] at *); (try simp only [List.length_cons] at *); (try simp only [List.length_nil] at *); omega)) ?_
  rintro _ w52 ⟨v51, rfl, K53, hO54⟩
  have O55 := own_base hO54 K29.size
  clear hO54
  have hL49 := tv_ge x.name
  have hL50 := tv_le (s := x.name) (by first | omega | decide)
  replace K29 := K29.trans K53 (U := none_) (fun i h1 h2 => h2) (fun i h1 h2 => by exact h2)
  replace H30 := H30.keep K53 (fun h => h)
  replace H45 := H45.keep K53 (fun h => h)
  replace hU := own_keep0 hU K53
  refine ⟨_, _, rfl, rfl, K53, ?_⟩
  refine Dr.strong (S' := (fun wz => Keeps none_ w52 wz)) (Keeps.refl w52) (fun wz hx => K53.trans hx (fun i _ h => h) (fun _ _ h => h)) ?_
  clear K53
  refine Dr.call (i := 6) (by kernel_rfl) (by kernel_rfl) (d := (some 32)) (by kernel_rfl) (fun _ => Int_calls _ v51 (ys ++ tv x.name) x.amount (OwnB.rd O55) (by omega) (by (try simp only at *); (try simp only [List.length_append] at *); (try simp only [List.length_cons] at *); (try simp only [List.length_nil] at *); omega)) ?_
  rintro _ w58 ⟨v57, rfl, K59, hO60⟩
  have O61 := own_base hO60 K29.size
  clear hO60
  have hL56 := iv_length_10 (n := x.amount) (by omega)
  replace K29 := K29.trans K59 (U := none_) (fun i h1 h2 => h2) (fun i h1 h2 => by exact h2)
  replace H30 := H30.keep K59 (fun h => h)
  replace H45 := H45.keep K59 (fun h => h)
  replace hU := own_keep0 hU K59
  replace O55 := own_keep0 O55 K59
  refine ⟨_, _, rfl, rfl, K59, ?_⟩
  refine Dr.strong (S' := (fun wz => Keeps none_ w58 wz)) (Keeps.refl w58) (fun wz hx => K59.trans hx (fun i _ h => h) (fun _ _ h => h)) ?_
  clear K59
  refine Dr.takes (fuel' := 0) (is' := _) [7] [(0, v57), (4, (Value.slice none 0 0)), (20, (Value.slice A p.rows.length c)), (21, (i64 ((p.rows.length : Nat) : Int))), (22, (i64 ((i : Nat) : Int)))] (by kernel_rfl) rfl (by kernel_rfl) ?_
  refine Dr.done (by kernel_rfl) ?_
  refine qg ?_
  refine og 1 [(0, v57), (4, (Value.slice none 0 0)), (20, (Value.slice A p.rows.length c)), (21, (i64 ((p.rows.length : Nat) : Int))), (22, (i64 ((i : Nat) : Int))), (33, (i64 (IntKind.i64.wrap (((i : Nat) : Int) + 1))))] 1 ?_
  have e62 : IntKind.i64.wrap (((i : Nat) : Int) + 1) = ((i + 1 : Nat) : Int) := by rw [wrap_i64 (by omega) (by omega)]; omega
  rw [e62]
  clear e62
  refine og 1 [(0, v57), (4, (Value.slice none 0 0)), (20, (Value.slice A p.rows.length c)), (21, (i64 ((p.rows.length : Nat) : Int))), (22, (i64 ((i + 1 : Nat) : Int)))] 2 ?_
  refine Ops.keep (R := [(0, v57), (4, (Value.slice none 0 0)), (20, (Value.slice A p.rows.length c)), (21, (i64 ((p.rows.length : Nat) : Int))), (22, (i64 ((i + 1 : Nat) : Int)))]) (by kernel_rfl) ?_
  refine od ?_
  exact ⟨(v57, i + 1, ys ++ tv x.name ++ iv x.amount), ⟨rfl, O61, (by rw [hE, rowsv_take hX]; simp only [List.append_assoc]), (by omega), K29, H30⟩, (show p.rows.length - (i + 1) < p.rows.length - i from by omega)⟩
 ·rw [h31]
  have p63 : ¬ (((i : Nat) : Int) < ((p.rows.length : Nat) : Int)) := of_decide_eq_false h31
  refine q_exit (id := 0) (by kernel_rfl) ?_
  refine qs ?_
  refine qg ?_
  refine og 2 [(4, u)] 2 ?_
  refine od ?_
  refine q_ret (by kernel_rfl) ?_
  refine ⟨u, retv_tmp rfl rfl, ?_⟩
  have hfin : ys = xs ++ rpv p := by rw [hE, List.take_of_length_le (by omega)]; rfl
  rw [hfin] at hU
  exact ⟨_, rfl, K29, hU⟩
end Go.Proofs.Ytlnidnadpdpciaa
namespace Go.Proofs.Ytlnidnadpdpciaa
open Go.Q Go.RowKit
theorem tyR : ElemTy Try.prog 25 59 2 24 := elemTy (by kernel_rfl)

theorem given_calls (w : World) (x : LetP) (V : Option Addr) (c : Nat) (D : Option Addr) (dc : Nat) (hV : RdR w (.slice V x.rep.rows.length c) x.rep.rows) (hD : RdB w (.slice D x.body.length dc) x.body) (hrz : x.rep.rows.length * 24 ≤ 140737488351232) (hbz : x.body.length ≤ 140737488351232) : Calls Try.prog 8 ⟨[(agg [(i64 x.kind), (i64 x.n), (i64 x.group), (i64 x.op.kind), (Value.string (str x.op.frm)), (Value.string (str x.op.to)), (i64 x.op.amount), (Value.string (str x.op.key)), (i64 x.op.slot), (i64 x.op.shard), (i64 x.rep.why), (i64 x.rep.amount), (Value.slice V x.rep.rows.length c), (Value.slice D x.body.length dc)])]⟩ w (fun e w' => ∃ V c D dc, e = .returned (agg (x.cells V c D dc)) ∧ Keeps none_ w w' ∧ OwnR w' w.heap.size 59 (.slice V x.rep.rows.length c) x.rep.rows ∧ OwnB w' w.heap.size 5 (.slice D x.body.length dc) x.body) := by
 have K0 : Keeps none_ w w := Keeps.refl w
 refine q_calls Try.func8 (by kernel_rfl) (by kernel_rfl) ?_
 refine qs ?_
 refine qg ?_
 refine Ops.new (o := rowL [(i64 x.kind), (i64 x.n), (i64 x.group), (i64 x.op.kind), (Value.string (str x.op.frm)), (Value.string (str x.op.to)), (i64 x.op.amount), (Value.string (str x.op.key)), (i64 x.op.slot), (i64 x.op.shard), (i64 x.rep.why), (i64 x.rep.amount), (Value.slice V x.rep.rows.length c), (Value.slice D x.body.length dc)] 30) (V := fun b => (ptr b)) (by kernel_rfl) (d := (some 1)) (by kernel_rfl) (fun b => rfl) (fun b1 w2 hb3 H4 K5 hs6 => ?_)
 have nb1 : w.heap.size ≤ b1 := by have := K0.size; omega
 replace K0 := K0.t0 K5
 clear K5 hs6
 refine Ops.new (o := rowL [(i64 0), (i64 0), (i64 0), (i64 0), (Value.string ByteArray.empty), (Value.string ByteArray.empty), (i64 0), (Value.string ByteArray.empty), (i64 0), (i64 0), (i64 0), (i64 0), (Value.slice none 0 0), (Value.slice none 0 0)] 33) (V := fun b => (ptr b)) (by kernel_rfl) (d := (some 2)) (by kernel_rfl) (fun b => rfl) (fun b7 w8 hb9 H10 K11 hs12 => ?_)
 have lb7b1 : b1 < b7 := by have := H4.lt; omega
 have nb7 : w.heap.size ≤ b7 := by have := K0.size; omega
 replace K0 := K0.t0 K11
 replace H4 := H4.keep K11 (fun h => h)
 clear K11 hs12
 refine od ?_
 refine qs ?_
 refine qg ?_
 refine og 1 [(1, (ptr b1)), (2, (ptr b7)), (4, (ptr b1))] 1 ?_
 refine Ops.go (v := (i64 x.kind)) (by kernel_rfl) (Runs.load (t := 3) (a := ⟨b1, 0, none⟩) (by kernel_rfl) (H4.loads (by kernel_rfl))) (d := (some 5)) (by kernel_rfl) rfl ?_
 refine og 1 [(1, (ptr b1)), (2, (ptr b7)), (5, (i64 x.kind)), (6, (Value.pointer (some ⟨b1, 1, none⟩)))] 3 ?_
 refine Ops.go (v := (i64 x.n)) (by kernel_rfl) (Runs.load (t := 2) (a := ⟨b1, 1, none⟩) (by kernel_rfl) (H4.loads (by kernel_rfl))) (d := (some 7)) (by kernel_rfl) rfl ?_
 refine og 1 [(1, (ptr b1)), (2, (ptr b7)), (5, (i64 x.kind)), (7, (i64 x.n)), (8, (Value.pointer (some ⟨b1, 2, none⟩)))] 5 ?_
 refine Ops.go (v := (i64 x.group)) (by kernel_rfl) (Runs.load (t := 3) (a := ⟨b1, 2, none⟩) (by kernel_rfl) (H4.loads (by kernel_rfl))) (d := (some 9)) (by kernel_rfl) rfl ?_
 refine og 1 [(1, (ptr b1)), (2, (ptr b7)), (5, (i64 x.kind)), (7, (i64 x.n)), (9, (i64 x.group)), (10, (Value.pointer (some ⟨b1, 3, none⟩)))] 7 ?_
 refine Ops.go (v := (agg [(i64 x.op.kind), (Value.string (str x.op.frm)), (Value.string (str x.op.to)), (i64 x.op.amount), (Value.string (str x.op.key)), (i64 x.op.slot), (i64 x.op.shard)])) (by kernel_rfl) (Runs.load (t := 23) (a := ⟨b1, 3, none⟩) (by kernel_rfl) (H4.loads (by kernel_rfl))) (d := (some 11)) (by kernel_rfl) rfl ?_
 refine og 2 [(1, (ptr b1)), (2, (ptr b7)), (5, (i64 x.kind)), (7, (i64 x.n)), (9, (i64 x.group)), (11, (agg [(i64 x.op.kind), (Value.string (str x.op.frm)), (Value.string (str x.op.to)), (i64 x.op.amount), (Value.string (str x.op.key)), (i64 x.op.slot), (i64 x.op.shard)])), (13, (Value.pointer (some ⟨b1, 10, none⟩)))] 10 ?_
 refine Ops.go (v := (i64 x.rep.why)) (by kernel_rfl) (Runs.load (t := 24) (a := ⟨b1, 10, none⟩) (by kernel_rfl) (H4.loads (by kernel_rfl))) (d := (some 14)) (by kernel_rfl) rfl ?_
 refine og 2 [(1, (ptr b1)), (2, (ptr b7)), (5, (i64 x.kind)), (7, (i64 x.n)), (9, (i64 x.group)), (11, (agg [(i64 x.op.kind), (Value.string (str x.op.frm)), (Value.string (str x.op.to)), (i64 x.op.amount), (Value.string (str x.op.key)), (i64 x.op.slot), (i64 x.op.shard)])), (14, (i64 x.rep.why)), (16, (Value.pointer (some ⟨b1, 11, none⟩)))] 13 ?_
 refine Ops.go (v := (i64 x.rep.amount)) (by kernel_rfl) (Runs.load (t := 2) (a := ⟨b1, 11, none⟩) (by kernel_rfl) (H4.loads (by kernel_rfl))) (d := (some 17)) (by kernel_rfl) rfl ?_
 refine og 2 [(1, (ptr b1)), (2, (ptr b7)), (19, (agg [(i64 x.kind), (i64 x.n), (i64 x.group), (i64 x.op.kind), (Value.string (str x.op.frm)), (Value.string (str x.op.to)), (i64 x.op.amount), (Value.string (str x.op.key)), (i64 x.op.slot), (i64 x.op.shard), (i64 x.rep.why), (i64 x.rep.amount), (Value.slice none 0 0), (Value.slice none 0 0)]))] 16 ?_
 refine Ops.new (o := rowL [(i64 0), (i64 0), (i64 0), (i64 0), (Value.string ByteArray.empty), (Value.string ByteArray.empty), (i64 0), (Value.string ByteArray.empty), (i64 0), (i64 0), (i64 0), (i64 0), (Value.slice none 0 0), (Value.slice none 0 0)] 33) (V := fun b => (ptr b)) (by kernel_rfl) (d := (some 3)) (by kernel_rfl) (fun b => rfl) (fun b13 w14 hb15 H16 K17 hs18 => ?_)
 have lb13b1 : b1 < b13 := by have := H4.lt; omega
 have lb13b7 : b7 < b13 := by have := H10.lt; omega
 have nb13 : w.heap.size ≤ b13 := by have := K0.size; omega
 replace K0 := K0.t0 K17
 replace H4 := H4.keep K17 (fun h => h)
 replace H10 := H10.keep K17 (fun h => h)
 clear K17 hs18
 refine Ops.put (t := 33) (b := b13) (off := 0) (v := (agg [(i64 x.kind), (i64 x.n), (i64 x.group), (i64 x.op.kind), (Value.string (str x.op.frm)), (Value.string (str x.op.to)), (i64 x.op.amount), (Value.string (str x.op.key)), (i64 x.op.slot), (i64 x.op.shard), (i64 x.rep.why), (i64 x.rep.amount), (Value.slice none 0 0), (Value.slice none 0 0)])) (ys := [(i64 x.kind), (i64 x.n), (i64 x.group), (i64 x.op.kind), (Value.string (str x.op.frm)), (Value.string (str x.op.to)), (i64 x.op.amount), (Value.string (str x.op.key)), (i64 x.op.slot), (i64 x.op.shard), (i64 x.rep.why), (i64 x.rep.amount), (Value.slice none 0 0), (Value.slice none 0 0)]) (by kernel_rfl) (by kernel_rfl) H16 (by kernel_rfl) (d := none) (by kernel_rfl) rfl (fun w19 H20 K21 => ?_)
 clear H16
 replace K0 := K0.trans K21 (U := none_) (fun i h1 h2 => h2) (fun i h1 h2 => by have h2 : i = b13 := h2; exfalso; omega)
 replace H4 := H4.k1 K21 (by omega)
 replace H10 := H10.k1 K21 (by omega)
 clear K21
 refine od ?_
 refine qs ?_
 refine qg ?_
 refine og 2 [(1, (ptr b1)), (2, (ptr b7)), (3, (ptr b13)), (21, (Value.pointer (some ⟨b13, 12, none⟩)))] 2 ?_
 refine Ops.go (v := (Value.slice none 0 0)) (by kernel_rfl) (Runs.load (t := 25) (a := ⟨b13, 12, none⟩) (by kernel_rfl) (H20.loads (by kernel_rfl))) (d := (some 22)) (by kernel_rfl) rfl ?_
 refine og 2 [(1, (ptr b1)), (2, (ptr b7)), (3, (ptr b13)), (22, (Value.slice none 0 0)), (24, (Value.pointer (some ⟨b1, 12, none⟩)))] 5 ?_
 refine Ops.go (v := (Value.slice V x.rep.rows.length c)) (by kernel_rfl) (Runs.load (t := 25) (a := ⟨b1, 12, none⟩) (by kernel_rfl) (H4.loads (by kernel_rfl))) (d := (some 25)) (by kernel_rfl) rfl ?_
 obtain ⟨v22, w23, hr24, hO25, hK26, hg27⟩ := OwnT.app (ty := 25) RowM.two RowM.one tyR (OwnT.nil _ w.heap.size 59 2 RowM.cells) (Rd.keep0 (by omega) hV K0) (by first | omega | (simp only [List.length_nil]; omega)) (by first | omega | (simp only [List.length_nil]; omega)) K0.size
 obtain ⟨A29, c30, rfl⟩ := RdT.form RowM.two (by decide) (OwnT.rd hO25)
 have ob31 : ∀ i, ((Value.slice A29 (([] ++ x.rep.rows).length) c30)).ownBlock = some i → i ≠ b1 := fun i hi => by rcases hg27 i hi with h | h; (cases h); (have := H4.lt; omega)
 have ob32 : ∀ i, ((Value.slice A29 (([] ++ x.rep.rows).length) c30)).ownBlock = some i → i ≠ b7 := fun i hi => by rcases hg27 i hi with h | h; (cases h); (have := H10.lt; omega)
 have ob33 : ∀ i, ((Value.slice A29 (([] ++ x.rep.rows).length) c30)).ownBlock = some i → i ≠ b13 := fun i hi => by rcases hg27 i hi with h | h; (cases h); (have := H20.lt; omega)
 have K28 := Keeps.mono (U := none_) hK26 (fun _ _ h => by cases h)
 refine Ops.go (v := (Value.slice A29 (([] ++ x.rep.rows).length) c30)) (by kernel_rfl) (Runs.append (ts := #[25, 25]) (ty := 25) (vs := [(Value.slice none 0 0), (Value.slice V x.rep.rows.length c)]) (by kernel_rfl) hr24) (d := (some 26)) (by kernel_rfl) rfl ?_
 replace K0 := K0.t0 K28
 replace H4 := H4.keep K28 (fun h => h)
 replace H10 := H10.keep K28 (fun h => h)
 replace H20 := H20.keep K28 (fun h => h)
 clear K28 hr24 hK26 hg27
 refine og 2 [(1, (ptr b1)), (2, (ptr b7)), (3, (ptr b13)), (26, (Value.slice A29 (([] ++ x.rep.rows).length) c30)), (28, (Value.pointer (some ⟨b13, 12, none⟩)))] 9 ?_
 refine Ops.put (t := 25) (b := b13) (off := 12) (v := (Value.slice A29 (([] ++ x.rep.rows).length) c30)) (ys := [(i64 x.kind), (i64 x.n), (i64 x.group), (i64 x.op.kind), (Value.string (str x.op.frm)), (Value.string (str x.op.to)), (i64 x.op.amount), (Value.string (str x.op.key)), (i64 x.op.slot), (i64 x.op.shard), (i64 x.rep.why), (i64 x.rep.amount), (Value.slice A29 (([] ++ x.rep.rows).length) c30), (Value.slice none 0 0)]) (by kernel_rfl) (by kernel_rfl) H20 (by kernel_rfl) (d := none) (by kernel_rfl) rfl (fun w34 H35 K36 => ?_)
 clear H20
 replace K0 := K0.trans K36 (U := none_) (fun i h1 h2 => h2) (fun i h1 h2 => by have h2 : i = b13 := h2; exfalso; omega)
 replace H4 := H4.k1 K36 (by omega)
 replace H10 := H10.k1 K36 (by omega)
 replace hO25 := own_keep hO25 K36 (fun i hi => by have := ob33 i hi; omega)
 clear K36
 refine od ?_
 refine qs ?_
 refine qg ?_
 refine og 1 [(1, (ptr b1)), (2, (ptr b7)), (3, (ptr b13)), (29, (Value.pointer (some ⟨b13, 13, none⟩)))] 1 ?_
 refine Ops.go (v := (Value.slice none 0 0)) (by kernel_rfl) (Runs.load (t := 28) (a := ⟨b13, 13, none⟩) (by kernel_rfl) (H35.loads (by kernel_rfl))) (d := (some 30)) (by kernel_rfl) rfl ?_
 refine og 1 [(2, (ptr b7)), (3, (ptr b13)), (30, (Value.slice none 0 0)), (31, (Value.pointer (some ⟨b1, 13, none⟩)))] 3 ?_
 refine Ops.go (v := (Value.slice D x.body.length dc)) (by kernel_rfl) (Runs.load (t := 28) (a := ⟨b1, 13, none⟩) (by kernel_rfl) (H4.loads (by kernel_rfl))) (d := (some 32)) (by kernel_rfl) rfl ?_
 obtain ⟨v37, w38, hr39, hO40, hK41⟩ := OwnB.app (ty := 28) (base := w34.heap.size) tyB (show OwnB w34 w34.heap.size 5 (.slice none 0 0) [] from World.ownsRow_nil _ _ _ _) (hD.keep0 (by omega) K0) (by simp only [List.length_nil]; omega) (Nat.le_refl _)
 have hO42 : OwnB w38 _ 5 v37 x.body := hO40
 have ob45 : ∀ i, (v37).ownBlock = some i → i ≠ b1 := fun i hi => by have := (World.ownsRow.lt hO42 i hi).1; have := H4.lt; omega
 have ob46 : ∀ i, (v37).ownBlock = some i → i ≠ b7 := fun i hi => by have := (World.ownsRow.lt hO42 i hi).1; have := H10.lt; omega
 have ob47 : ∀ i, (v37).ownBlock = some i → i ≠ b13 := fun i hi => by have := (World.ownsRow.lt hO42 i hi).1; have := H35.lt; omega
 have oo48 : ∀ i, ((Value.slice A29 (([] ++ x.rep.rows).length) c30)).ownBlock = some i → (v37).ownBlock = some i → False := fun i hi hs => by have := (World.ownsRow.lt hO42 i hs).1; have := (World.ownsRow.lt hO25 i hi).2; omega
 have oo49 : ∀ i, (v37).ownBlock = some i → ((Value.slice A29 (([] ++ x.rep.rows).length) c30)).ownBlock = some i → False := fun i hi hs => oo48 i hs hi
 have K44 := Keeps.new hK41
 have O43 := own_base hO42 K0.size
 refine Ops.go (v := v37) (by kernel_rfl) (Runs.append (ts := #[28, 28]) (ty := 28) (vs := [(Value.slice none 0 0), (Value.slice D x.body.length dc)]) (by kernel_rfl) hr39) (d := (some 33)) (by kernel_rfl) rfl ?_
 replace K0 := K0.t0 K44
 replace H4 := H4.keep K44 (fun h => h)
 replace H10 := H10.keep K44 (fun h => h)
 replace H35 := H35.keep K44 (fun h => h)
 replace hO25 := own_keep0 hO25 K44
 clear K44 hr39 hK41 hO40 hO42
 obtain ⟨A50, c51, hf52⟩ := RdB.form (OwnB.rd O43)
 subst hf52
 refine og 1 [(2, (ptr b7)), (3, (ptr b13)), (33, (Value.slice A50 x.body.length c51)), (34, (Value.pointer (some ⟨b13, 13, none⟩)))] 6 ?_
 refine Ops.put (t := 28) (b := b13) (off := 13) (v := (Value.slice A50 x.body.length c51)) (ys := [(i64 x.kind), (i64 x.n), (i64 x.group), (i64 x.op.kind), (Value.string (str x.op.frm)), (Value.string (str x.op.to)), (i64 x.op.amount), (Value.string (str x.op.key)), (i64 x.op.slot), (i64 x.op.shard), (i64 x.rep.why), (i64 x.rep.amount), (Value.slice A29 (([] ++ x.rep.rows).length) c30), (Value.slice A50 x.body.length c51)]) (by kernel_rfl) (by kernel_rfl) H35 (by kernel_rfl) (d := none) (by kernel_rfl) rfl (fun w53 H54 K55 => ?_)
 clear H35
 replace K0 := K0.trans K55 (U := none_) (fun i h1 h2 => h2) (fun i h1 h2 => by have h2 : i = b13 := h2; exfalso; omega)
 replace H4 := H4.k1 K55 (by omega)
 replace H10 := H10.k1 K55 (by omega)
 replace hO25 := own_keep hO25 K55 (fun i hi => by have := ob33 i hi; omega)
 replace O43 := own_keep O43 K55 (fun i hi => by have := ob47 i hi; omega)
 clear K55
 refine od ?_
 refine qs ?_
 refine qg ?_
 refine Ops.go (v := (agg [(i64 x.kind), (i64 x.n), (i64 x.group), (i64 x.op.kind), (Value.string (str x.op.frm)), (Value.string (str x.op.to)), (i64 x.op.amount), (Value.string (str x.op.key)), (i64 x.op.slot), (i64 x.op.shard), (i64 x.rep.why), (i64 x.rep.amount), (Value.slice A29 (([] ++ x.rep.rows).length) c30), (Value.slice A50 x.body.length c51)])) (by kernel_rfl) (Runs.load (t := 33) (a := ⟨b13, 0, none⟩) (by kernel_rfl) (H54.loads (by kernel_rfl))) (d := (some 35)) (by kernel_rfl) rfl ?_
 refine Ops.put (t := 33) (b := b7) (off := 0) (v := (agg [(i64 x.kind), (i64 x.n), (i64 x.group), (i64 x.op.kind), (Value.string (str x.op.frm)), (Value.string (str x.op.to)), (i64 x.op.amount), (Value.string (str x.op.key)), (i64 x.op.slot), (i64 x.op.shard), (i64 x.rep.why), (i64 x.rep.amount), (Value.slice A29 (([] ++ x.rep.rows).length) c30), (Value.slice A50 x.body.length c51)])) (ys := [(i64 x.kind), (i64 x.n), (i64 x.group), (i64 x.op.kind), (Value.string (str x.op.frm)), (Value.string (str x.op.to)), (i64 x.op.amount), (Value.string (str x.op.key)), (i64 x.op.slot), (i64 x.op.shard), (i64 x.rep.why), (i64 x.rep.amount), (Value.slice A29 (([] ++ x.rep.rows).length) c30), (Value.slice A50 x.body.length c51)]) (by kernel_rfl) (by kernel_rfl) H10 (by kernel_rfl) (d := none) (by kernel_rfl) rfl (fun w56 H57 K58 => ?_)
 clear H10
 replace K0 := K0.trans K58 (U := none_) (fun i h1 h2 => h2) (fun i h1 h2 => by have h2 : i = b7 := h2; exfalso; omega)
 replace H4 := H4.k1 K58 (by omega)
 replace H54 := H54.k1 K58 (by omega)
 replace hO25 := own_keep hO25 K58 (fun i hi => by have := ob32 i hi; omega)
 replace O43 := own_keep O43 K58 (fun i hi => by have := ob46 i hi; omega)
 clear K58
 refine od ?_
 refine q_ret (by kernel_rfl) ?_
 refine ⟨(agg [(i64 x.kind), (i64 x.n), (i64 x.group), (i64 x.op.kind), (Value.string (str x.op.frm)), (Value.string (str x.op.to)), (i64 x.op.amount), (Value.string (str x.op.key)), (i64 x.op.slot), (i64 x.op.shard), (i64 x.rep.why), (i64 x.rep.amount), (Value.slice A29 (([] ++ x.rep.rows).length) c30), (Value.slice A50 x.body.length c51)]), retv_cell rfl rfl (H57.loads (by kernel_rfl)), ?_⟩
 exact ⟨_, _, _, _, rfl, K0, hO25, O43⟩

theorem Pack_calls (w : World) (x : LetP) (V : Option Addr) (c : Nat) (D : Option Addr) (dc : Nat) (hok : x.Ok) (hV : RdR w (.slice V x.rep.rows.length c) x.rep.rows) (hD : RdB w (.slice D x.body.length dc) x.body) : Calls Try.prog 7 ⟨[(agg [(i64 x.kind), (i64 x.n), (i64 x.group), (i64 x.op.kind), (Value.string (str x.op.frm)), (Value.string (str x.op.to)), (i64 x.op.amount), (Value.string (str x.op.key)), (i64 x.op.slot), (i64 x.op.shard), (i64 x.rep.why), (i64 x.rep.amount), (Value.slice V x.rep.rows.length c), (Value.slice D x.body.length dc)])]⟩ w (fun e w' => ∃ v', e = .returned (.tuple #[v', i64 (packB x).2]) ∧ Keeps none_ w w' ∧ OwnB w' w.heap.size 5 v' (packB x).1) := by
 have hi0 := hok.kind
 have hi1 := hok.n
 have hi2 := hok.group
 have hil0 := iv_length_10 hi0
 have hil1 := iv_length_10 hi1
 have hil2 := iv_length_10 hi2
 have K0 : Keeps none_ w w := Keeps.refl w
 refine q_calls Try.func7 (by kernel_rfl) (by kernel_rfl) ?_
 refine qs ?_
 refine qg ?_
 refine Ops.new (o := rowL [(i64 x.kind), (i64 x.n), (i64 x.group), (i64 x.op.kind), (Value.string (str x.op.frm)), (Value.string (str x.op.to)), (i64 x.op.amount), (Value.string (str x.op.key)), (i64 x.op.slot), (i64 x.op.shard), (i64 x.rep.why), (i64 x.rep.amount), (Value.slice V x.rep.rows.length c), (Value.slice D x.body.length dc)] 33) (V := fun b => (ptr b)) (by kernel_rfl) (d := (some 1)) (by kernel_rfl) (fun b => rfl) (fun b1 w2 hb3 H4 K5 hs6 => ?_)
 have nb1 : w.heap.size ≤ b1 := by have := K0.size; omega
 replace K0 := K0.t0 K5
 clear K5 hs6
 refine og 2 [(1, (ptr b1)), (2, (Value.slice none 0 0)), (3, (i64 0))] 3 ?_
 refine od ?_
 refine qs ?_
 refine qs ?_
 refine qg ?_
 refine og 1 [(1, (ptr b1)), (2, (Value.slice none 0 0)), (3, (i64 0)), (5, (ptr b1))] 1 ?_
 refine Ops.go (v := (i64 x.kind)) (by kernel_rfl) (Runs.load (t := 3) (a := ⟨b1, 0, none⟩) (by kernel_rfl) (H4.loads (by kernel_rfl))) (d := (some 6)) (by kernel_rfl) rfl ?_
 refine og 2 [(1, (ptr b1)), (2, (Value.slice none 0 0)), (3, (i64 0)), (8, (Value.bool (decide (x.kind < 1))))] 4 ?_
 refine Ops.split (decide (x.kind < 1)) (fun h7 => ?_) (fun h7 => ?_)
 ·rw [h7]
  have p8 : x.kind < 1 := of_decide_eq_true h7
  refine og 4 [(1, (ptr b1)), (2, (Value.slice none 0 0)), (3, (i64 0)), (12, (Value.bool true))] 8 ?_
  refine od ?_
  refine q_then (o := .tmp 12) (by kernel_rfl) rfl ?_
  refine qs ?_
  refine qg ?_
  refine og 2 [(1, (ptr b1)), (2, (Value.slice none 0 0)), (3, (i64 1))] 2 ?_
  refine od ?_
  refine q_ret (by kernel_rfl) ?_
  refine ⟨(Value.tuple #[(Value.slice none 0 0), (i64 1)]), retv_tmp2 rfl rfl rfl, ?_⟩
  have e : packB x = ([], 1) := by unfold packB; first | (rw [if_pos (by omega)]; done) | (rw [if_neg (by omega), if_pos hf]; done)
  exact ⟨_, by rw [e], K0, by rw [e]; exact World.ownsRow_nil _ _ _ _⟩
 ·rw [h7]
  have p9 : ¬ (x.kind < 1) := of_decide_eq_false h7
  refine og 1 [(1, (ptr b1)), (2, (Value.slice none 0 0)), (3, (i64 0)), (8, (Value.bool false)), (9, (ptr b1))] 5 ?_
  refine Ops.go (v := (i64 x.kind)) (by kernel_rfl) (Runs.load (t := 3) (a := ⟨b1, 0, none⟩) (by kernel_rfl) (H4.loads (by kernel_rfl))) (d := (some 10)) (by kernel_rfl) rfl ?_
  refine og 2 [(1, (ptr b1)), (2, (Value.slice none 0 0)), (3, (i64 0)), (12, (Value.bool (decide (x.kind > 5))))] 8 ?_
  refine od ?_
  refine q_cond (o := .tmp 12) (b := (decide (x.kind > 5))) (by kernel_rfl) rfl (fun h10 => ?_) (fun h10 => ?_)
  ·rw [h10]
   have p11 : x.kind > 5 := of_decide_eq_true h10
   refine qs ?_
   refine qg ?_
   refine og 2 [(1, (ptr b1)), (2, (Value.slice none 0 0)), (3, (i64 1))] 2 ?_
   refine od ?_
   refine q_ret (by kernel_rfl) ?_
   refine ⟨(Value.tuple #[(Value.slice none 0 0), (i64 1)]), retv_tmp2 rfl rfl rfl, ?_⟩
   have e : packB x = ([], 1) := by unfold packB; first | (rw [if_pos (by omega)]; done) | (rw [if_neg (by omega), if_pos hf]; done)
   exact ⟨_, by rw [e], K0, by rw [e]; exact World.ownsRow_nil _ _ _ _⟩
  ·rw [h10]
   have p12 : ¬ (x.kind > 5) := of_decide_eq_false h10
   refine q_skip (by kernel_rfl) ?_
   refine qs ?_
   refine qs ?_
   refine qg ?_
   refine Ops.go (v := (agg [(i64 x.kind), (i64 x.n), (i64 x.group), (i64 x.op.kind), (Value.string (str x.op.frm)), (Value.string (str x.op.to)), (i64 x.op.amount), (Value.string (str x.op.key)), (i64 x.op.slot), (i64 x.op.shard), (i64 x.rep.why), (i64 x.rep.amount), (Value.slice V x.rep.rows.length c), (Value.slice D x.body.length dc)])) (by kernel_rfl) (Runs.load (t := 33) (a := ⟨b1, 0, none⟩) (by kernel_rfl) (H4.loads (by kernel_rfl))) (d := (some 13)) (by kernel_rfl) rfl ?_
   refine Ops.call (by kernel_rfl) (d := (some 14)) (by kernel_rfl) (fits_calls _ x V c D dc (Rd.keep0 (by omega) hV K0)) ?_
   rintro _ w16 ⟨t13, rfl, ht14, K15⟩
   refine ⟨_, _, rfl, rfl, ?_⟩
   replace K0 := K0.t0 K15
   replace H4 := H4.keep K15 (fun h => h)
   clear K15
   refine og 1 [(1, (ptr b1)), (2, (Value.slice none 0 0)), (3, (i64 0)), (15, (Value.bool (!t13)))] 3 ?_
   refine od ?_
   refine q_cond (o := .tmp 15) (b := (!t13)) (by kernel_rfl) rfl (fun h17 => ?_) (fun h17 => ?_)
   ·rw [h17]
    have p18 : t13 = false := (bnot_true h17)
    try rw [p18]
    have hf : ¬ x.Fits := fun q => by have := ht14.2 q; rw [(bnot_true h17)] at this; cases this
    refine qs ?_
    refine qg ?_
    refine og 2 [(1, (ptr b1)), (2, (Value.slice none 0 0)), (3, (i64 3))] 2 ?_
    refine od ?_
    refine q_ret (by kernel_rfl) ?_
    refine ⟨(Value.tuple #[(Value.slice none 0 0), (i64 3)]), retv_tmp2 rfl rfl rfl, ?_⟩
    have e : packB x = ([], 3) := by unfold packB; first | (rw [if_pos (by omega)]; done) | (rw [if_neg (by omega), if_pos hf]; done)
    exact ⟨_, by rw [e], K0, by rw [e]; exact World.ownsRow_nil _ _ _ _⟩
   ·rw [h17]
    have p19 : t13 = true := (bnot_false h17)
    try rw [p19]
    have hf : x.Fits := ht14.1 (bnot_false h17)
    refine q_skip (by kernel_rfl) ?_
    refine qs ?_
    refine qg ?_
    refine og 1 [(1, (ptr b1)), (2, (Value.slice none 0 0)), (3, (i64 0)), (16, (ptr b1))] 1 ?_
    refine Ops.go (v := (i64 x.kind)) (by kernel_rfl) (Runs.load (t := 3) (a := ⟨b1, 0, none⟩) (by kernel_rfl) (H4.loads (by kernel_rfl))) (d := (some 17)) (by kernel_rfl) rfl ?_
    refine Ops.new (o := rowL [(i64 x.kind)] 2) (V := fun b => (Value.slice (some ⟨b, 0, none⟩) 1 1)) (by kernel_rfl) (d := (some 18)) (by kernel_rfl) (fun b => rfl) (fun b20 w21 hb22 H23 K24 hs25 => ?_)
    have lb20b1 : b1 < b20 := by have := H4.lt; omega
    have nb20 : w.heap.size ≤ b20 := by have := K0.size; omega
    replace K0 := K0.t0 K24
    replace H4 := H4.keep K24 (fun h => h)
    clear K24 hs25
    have hr26 : ∀ z ∈ ([x.kind] : List Int), -9223372036854775808 ≤ z ∧ z ≤ 9223372036854775807 := by
     intro z hz
     simp only [List.mem_cons, List.not_mem_nil, or_false] at hz
     omega
    refine Ops.call (by kernel_rfl) (d := (some 19)) (by kernel_rfl) (ints_calls _ (Value.slice none 0 0) [] b20 [x.kind] 1 (Rd.nil _ _) (show Has _ b20 (rowL (ints [x.kind]) 2) from H23) rfl hr26 (by omega) (by (try simp only at *); (try simp only [List.length_append] at *); (try simp only [List.length_cons] at *); (try simp only [List.length_nil] at *); omega)) ?_
    rintro _ w29 ⟨v28, rfl, K30, hO31⟩
    have ob33 : ∀ i, (v28).ownBlock = some i → i ≠ b1 := fun i hi => by have := (World.ownsRow.lt hO31 i hi).1; have := H4.lt; omega
    have ob34 : ∀ i, (v28).ownBlock = some i → i ≠ b20 := fun i hi => by have := (World.ownsRow.lt hO31 i hi).1; have := H23.lt; omega
    have O32 : OwnB w29 w.heap.size _ v28 (ivs [x.kind]) := own_base hO31 K0.size
    clear hO31
    have hL27 : (ivs [x.kind]).length ≤ 10 := ivs_length_le hr26
    refine ⟨_, _, rfl, rfl, ?_⟩
    replace K0 := K0.t0 K30
    replace H4 := H4.keep K30 (fun h => h)
    replace H23 := H23.keep K30 (fun h => h)
    clear K30
    refine og 1 [(1, (ptr b1)), (2, (Value.slice none 0 0)), (3, (i64 0)), (4, v28)] 5 ?_
    refine od ?_
    refine qs ?_
    refine qs ?_
    refine qg ?_
    refine og 1 [(1, (ptr b1)), (2, (Value.slice none 0 0)), (3, (i64 0)), (4, v28), (20, (ptr b1))] 1 ?_
    refine Ops.go (v := (i64 x.kind)) (by kernel_rfl) (Runs.load (t := 3) (a := ⟨b1, 0, none⟩) (by kernel_rfl) (H4.loads (by kernel_rfl))) (d := (some 21)) (by kernel_rfl) rfl ?_
    refine od ?_
    refine q_block (id := 0) (by kernel_rfl) ?_
    refine qs ?_
    refine q_block (id := 5) (by kernel_rfl) ?_
    refine qs ?_
    refine q_block (id := 4) (by kernel_rfl) ?_
    refine qs ?_
    refine q_block (id := 3) (by kernel_rfl) ?_
    refine qs ?_
    refine q_block (id := 2) (by kernel_rfl) ?_
    refine qs ?_
    refine q_block (id := 1) (by kernel_rfl) ?_
    refine qs ?_
    refine qs ?_
    refine qs ?_
    refine qg ?_
    refine og 2 [(1, (ptr b1)), (2, (Value.slice none 0 0)), (3, (i64 0)), (4, v28), (21, (i64 x.kind)), (22, (Value.bool (x.kind == 2)))] 2 ?_
    refine od ?_
    refine q_cond (o := .tmp 22) (b := (x.kind == 2)) (by kernel_rfl) rfl (fun h35 => ?_) (fun h35 => ?_)
    ·rw [h35]
     have p36 : x.kind = 2 := of_beq_t h35
     have hol := let_op hok hf (by omega)
     refine q_exit (id := 1) (by kernel_rfl) ?_
     refine qs ?_
     refine q_draw (fun wz => Keeps none_ w29 wz) 9 (by kernel_rfl) (by kernel_rfl) (by kernel_rfl) (fun w37 K38 _ _ => ⟨K38, ?_⟩)
     replace K0 := K0.t0 K38
     replace H4 := H4.keep K38 (fun h => h)
     replace H23 := H23.keep K38 (fun h => h)
     replace O32 := own_keep0 O32 K38
     refine Dr.strong (S' := (fun wz => Keeps none_ w37 wz)) (Keeps.refl w37) (fun wz hx => K38.trans hx (fun i _ h => h) (fun _ _ h => h)) ?_
     clear K38
     refine Dr.takes (fuel' := 7) (is' := _) [0, 1] [(1, (ptr b1)), (2, (Value.slice none 0 0)), (3, (i64 0)), (4, v28), (30, v28), (31, (Value.pointer (some ⟨b1, 1, none⟩)))] (by kernel_rfl) rfl (by kernel_rfl) ?_
     refine Dr.take (i := 2) (v := (i64 x.n)) (by kernel_rfl) (by kernel_rfl) (fun wz hS => Runs.load (t := 2) (a := ⟨b1, 1, none⟩) (by kernel_rfl) ((H4.keep hS (fun h => h)).loads (by kernel_rfl))) (d := (some 32)) (by kernel_rfl) rfl ?_
     refine Dr.takes (fuel' := 5) (is' := _) [5] [(1, (ptr b1)), (2, (Value.slice none 0 0)), (3, (i64 0)), (4, v28), (30, v28), (32, (i64 x.n)), (35, (Value.pointer (some ⟨b1, 3, none⟩)))] (by kernel_rfl) rfl (by kernel_rfl) ?_
     refine Dr.take (i := 6) (v := (agg [(i64 x.op.kind), (Value.string (str x.op.frm)), (Value.string (str x.op.to)), (i64 x.op.amount), (Value.string (str x.op.key)), (i64 x.op.slot), (i64 x.op.shard)])) (by kernel_rfl) (by kernel_rfl) (fun wz hS => Runs.load (t := 23) (a := ⟨b1, 3, none⟩) (by kernel_rfl) ((H4.keep hS (fun h => h)).loads (by kernel_rfl))) (d := (some 36)) (by kernel_rfl) rfl ?_
     refine Dr.new (i := 3) (o := rowL [(i64 x.n)] 2) (V := fun b => (Value.slice (some ⟨b, 0, none⟩) 1 1)) (by kernel_rfl) (by kernel_rfl) (d := (some 33)) (by kernel_rfl) (fun b => rfl) (fun b39 w40 hb41 H42 K43 hs44 => ?_)
     have lb39b1 : b1 < b39 := by have := H4.lt; omega
     have lb39b20 : b20 < b39 := by have := H23.lt; omega
     have nb39 : w.heap.size ≤ b39 := by have := K0.size; omega
     have ob45 : ∀ i, (v28).ownBlock = some i → i < b39 := fun i hi => by have := (World.ownsRow.lt O32 i hi).2; omega
     replace K0 := K0.t0 K43
     replace H4 := H4.keep K43 (fun h => h)
     replace H23 := H23.keep K43 (fun h => h)
     replace O32 := own_keep0 O32 K43
     refine ⟨K43, ?_⟩
     refine Dr.strong (S' := (fun wz => Keeps none_ w40 wz)) (Keeps.refl w40) (fun wz hx => K43.trans hx (fun i _ h => h) (fun _ _ h => h)) ?_
     clear K43 hs44
     have hr46 : ∀ z ∈ ([x.n] : List Int), -9223372036854775808 ≤ z ∧ z ≤ 9223372036854775807 := by
      intro z hz
      simp only [List.mem_cons, List.not_mem_nil, or_false] at hz
      omega
     refine Dr.call (i := 4) (by kernel_rfl) (by kernel_rfl) (d := (some 34)) (by kernel_rfl) (fun _ => ints_calls _ v28 (ivs [x.kind]) b39 [x.n] 1 (OwnB.rd O32) (show Has _ b39 (rowL (ints [x.n]) 2) from H42) rfl hr46 (by omega) (by (try simp only at *); (try simp only [List.length_append] at *); (try simp only [List.length_cons] at *); (try simp only [List.length_nil] at *); omega)) ?_
     rintro _ w49 ⟨v48, rfl, K50, hO51⟩
     have ob53 : ∀ i, (v48).ownBlock = some i → i ≠ b1 := fun i hi => by have := (World.ownsRow.lt hO51 i hi).1; have := H4.lt; omega
     have ob54 : ∀ i, (v48).ownBlock = some i → i ≠ b20 := fun i hi => by have := (World.ownsRow.lt hO51 i hi).1; have := H23.lt; omega
     have ob55 : ∀ i, (v48).ownBlock = some i → i ≠ b39 := fun i hi => by have := (World.ownsRow.lt hO51 i hi).1; have := H42.lt; omega
     have oo56 : ∀ i, (v28).ownBlock = some i → (v48).ownBlock = some i → False := fun i hi hs => by have := (World.ownsRow.lt hO51 i hs).1; have := (World.ownsRow.lt O32 i hi).2; omega
     have oo57 : ∀ i, (v48).ownBlock = some i → (v28).ownBlock = some i → False := fun i hi hs => oo56 i hs hi
     have O52 := own_base hO51 K0.size
     clear hO51
     have hL47 : (ivs [x.n]).length ≤ 10 := ivs_length_le hr46
     replace K0 := K0.t0 K50
     replace H4 := H4.keep K50 (fun h => h)
     replace H23 := H23.keep K50 (fun h => h)
     replace H42 := H42.keep K50 (fun h => h)
     replace O32 := own_keep0 O32 K50
     refine ⟨_, _, rfl, rfl, K50, ?_⟩
     refine Dr.strong (S' := (fun wz => Keeps none_ w49 wz)) (Keeps.refl w49) (fun wz hx => K50.trans hx (fun i _ h => h) (fun _ _ h => h)) ?_
     clear K50
     refine Dr.call (i := 7) (by kernel_rfl) (by kernel_rfl) (d := (some 37)) (by kernel_rfl) (fun _ => PutOp_calls _ v48 (ivs [x.kind] ++ ivs [x.n]) x.op (OwnB.rd O52) hok.op (by (try simp only at *); (try simp only [List.length_append] at *); (try simp only [List.length_cons] at *); (try simp only [List.length_nil] at *); omega)) ?_
     rintro _ w59 ⟨v58, rfl, K60, hO61⟩
     have ob63 : ∀ i, (v58).ownBlock = some i → i ≠ b1 := fun i hi => by have := (World.ownsRow.lt hO61 i hi).1; have := H4.lt; omega
     have ob64 : ∀ i, (v58).ownBlock = some i → i ≠ b20 := fun i hi => by have := (World.ownsRow.lt hO61 i hi).1; have := H23.lt; omega
     have ob65 : ∀ i, (v58).ownBlock = some i → i ≠ b39 := fun i hi => by have := (World.ownsRow.lt hO61 i hi).1; have := H42.lt; omega
     have oo66 : ∀ i, (v28).ownBlock = some i → (v58).ownBlock = some i → False := fun i hi hs => by have := (World.ownsRow.lt hO61 i hs).1; have := (World.ownsRow.lt O32 i hi).2; omega
     have oo67 : ∀ i, (v58).ownBlock = some i → (v28).ownBlock = some i → False := fun i hi hs => oo66 i hs hi
     have oo68 : ∀ i, (v48).ownBlock = some i → (v58).ownBlock = some i → False := fun i hi hs => by have := (World.ownsRow.lt hO61 i hs).1; have := (World.ownsRow.lt O52 i hi).2; omega
     have oo69 : ∀ i, (v58).ownBlock = some i → (v48).ownBlock = some i → False := fun i hi hs => oo68 i hs hi
     have O62 := own_base hO61 K0.size
     clear hO61
     replace K0 := K0.t0 K60
     replace H4 := H4.keep K60 (fun h => h)
     replace H23 := H23.keep K60 (fun h => h)
     replace H42 := H42.keep K60 (fun h => h)
     replace O32 := own_keep0 O32 K60
     replace O52 := own_keep0 O52 K60
     refine ⟨_, _, rfl, rfl, K60, ?_⟩
     refine Dr.strong (S' := (fun wz => Keeps none_ w59 wz)) (Keeps.refl w59) (fun wz hx => K60.trans hx (fun i _ h => h) (fun _ _ h => h)) ?_
     clear K60
     refine Dr.takes (fuel' := 0) (is' := _) [8] [(1, (ptr b1)), (2, (Value.slice none 0 0)), (3, (i64 0)), (4, v58)] (by kernel_rfl) rfl (by kernel_rfl) ?_
     refine Dr.done (by kernel_rfl) ?_
     refine q_exit (id := 0) (by kernel_rfl) ?_
     refine qs ?_
     refine qs ?_
     refine qg ?_
     obtain ⟨A70, c71, hf72⟩ := RdB.form (OwnB.rd O62)
     subst hf72
     refine og 3 [(2, (Value.slice none 0 0)), (3, (i64 0)), (4, (Value.slice A70 ((ivs [x.kind] ++ ivs [x.n] ++ opv x.op).length) c71)), (67, (Value.bool (decide ((((ivs [x.kind] ++ ivs [x.n] ++ opv x.op).length : Nat) : Int) > 1048576))))] 3 ?_
     refine od ?_
     refine q_cond (o := .tmp 67) (b := (decide ((((ivs [x.kind] ++ ivs [x.n] ++ opv x.op).length : Nat) : Int) > 1048576))) (by kernel_rfl) rfl (fun h73 => ?_) (fun h73 => ?_)
     ·rw [h73]
      have p74 : (((ivs [x.kind] ++ ivs [x.n] ++ opv x.op).length : Nat) : Int) > 1048576 := of_decide_eq_true h73
      refine qs ?_
      refine qg ?_
      refine og 2 [(2, (Value.slice none 0 0)), (3, (i64 3)), (4, (Value.slice A70 ((ivs [x.kind] ++ ivs [x.n] ++ opv x.op).length) c71))] 2 ?_
      refine od ?_
      refine q_ret (by kernel_rfl) ?_
      refine ⟨(Value.tuple #[(Value.slice none 0 0), (i64 3)]), retv_tmp2 rfl rfl rfl, ?_⟩
      have hL : ivs [x.kind] ++ ivs [x.n] ++ opv x.op = letv x := by unfold letv; first | (rw [if_pos (by omega)] <;> (simp [ivs]; done)) | (rw [if_neg (by omega), if_pos (by omega)] <;> (simp [ivs]; done)) | (rw [if_neg (by omega), if_neg (by omega), if_pos (by omega)] <;> (simp [ivs]; done)) | (rw [if_neg (by omega), if_neg (by omega), if_neg (by omega), if_pos (by omega)] <;> (simp [ivs]; done)) | (rw [if_neg (by omega), if_neg (by omega), if_neg (by omega), if_neg (by omega)] <;> (simp [ivs]; done))
      have hLl := congrArg List.length hL
      have e : packB x = ([], 3) := by unfold packB; rw [if_neg (by omega), if_neg (not_not_intro hf), if_pos (by omega)]
      exact ⟨_, by rw [e], K0, by rw [e]; exact World.ownsRow_nil _ _ _ _⟩
     ·rw [h73]
      have p75 : ¬ ((((ivs [x.kind] ++ ivs [x.n] ++ opv x.op).length : Nat) : Int) > 1048576) := of_decide_eq_false h73
      refine q_skip (by kernel_rfl) ?_
      refine qs ?_
      refine qg ?_
      refine og 3 [(2, (Value.slice A70 ((ivs [x.kind] ++ ivs [x.n] ++ opv x.op).length) c71)), (3, (i64 0))] 3 ?_
      refine od ?_
      refine q_ret (by kernel_rfl) ?_
      refine ⟨(Value.tuple #[(Value.slice A70 ((ivs [x.kind] ++ ivs [x.n] ++ opv x.op).length) c71), (i64 0)]), retv_tmp2 rfl rfl rfl, ?_⟩
      have hL : ivs [x.kind] ++ ivs [x.n] ++ opv x.op = letv x := by unfold letv; first | (rw [if_pos (by omega)] <;> (simp [ivs]; done)) | (rw [if_neg (by omega), if_pos (by omega)] <;> (simp [ivs]; done)) | (rw [if_neg (by omega), if_neg (by omega), if_pos (by omega)] <;> (simp [ivs]; done)) | (rw [if_neg (by omega), if_neg (by omega), if_neg (by omega), if_pos (by omega)] <;> (simp [ivs]; done)) | (rw [if_neg (by omega), if_neg (by omega), if_neg (by omega), if_neg (by omega)] <;> (simp [ivs]; done))
      have hLl := congrArg List.length hL
      have e : packB x = (letv x, 0) := by unfold packB; rw [if_neg (by omega), if_neg (not_not_intro hf), if_neg (by omega)]
      exact ⟨_, by rw [e], K0, by rw [e, ← hL]; exact O62⟩
    ·rw [h35]
     have p76 : ¬ (x.kind = 2) := of_beq_f h35
     refine q_skip (by kernel_rfl) ?_
     refine qs ?_
     refine qs ?_
     refine qg ?_
     refine og 2 [(1, (ptr b1)), (2, (Value.slice none 0 0)), (3, (i64 0)), (4, v28), (21, (i64 x.kind)), (24, (Value.bool (x.kind == 3)))] 2 ?_
     refine od ?_
     refine q_cond (o := .tmp 24) (b := (x.kind == 3)) (by kernel_rfl) rfl (fun h77 => ?_) (fun h77 => ?_)
     ·rw [h77]
      have p78 : x.kind = 3 := of_beq_t h77
      have hrl := let_rep hok hf (by omega)
      refine q_exit (id := 2) (by kernel_rfl) ?_
      refine qs ?_
      refine q_draw (fun wz => Keeps none_ w29 wz) 9 (by kernel_rfl) (by kernel_rfl) (by kernel_rfl) (fun w79 K80 _ _ => ⟨K80, ?_⟩)
      replace K0 := K0.t0 K80
      replace H4 := H4.keep K80 (fun h => h)
      replace H23 := H23.keep K80 (fun h => h)
      replace O32 := own_keep0 O32 K80
      refine Dr.strong (S' := (fun wz => Keeps none_ w79 wz)) (Keeps.refl w79) (fun wz hx => K80.trans hx (fun i _ h => h) (fun _ _ h => h)) ?_
      clear K80
      refine Dr.takes (fuel' := 7) (is' := _) [0, 1] [(1, (ptr b1)), (2, (Value.slice none 0 0)), (3, (i64 0)), (4, v28), (38, v28), (39, (Value.pointer (some ⟨b1, 1, none⟩)))] (by kernel_rfl) rfl (by kernel_rfl) ?_
      refine Dr.take (i := 2) (v := (i64 x.n)) (by kernel_rfl) (by kernel_rfl) (fun wz hS => Runs.load (t := 2) (a := ⟨b1, 1, none⟩) (by kernel_rfl) ((H4.keep hS (fun h => h)).loads (by kernel_rfl))) (d := (some 40)) (by kernel_rfl) rfl ?_
      refine Dr.takes (fuel' := 5) (is' := _) [5] [(1, (ptr b1)), (2, (Value.slice none 0 0)), (3, (i64 0)), (4, v28), (38, v28), (40, (i64 x.n)), (43, (Value.pointer (some ⟨b1, 10, none⟩)))] (by kernel_rfl) rfl (by kernel_rfl) ?_
      refine Dr.take (i := 6) (v := (agg [(i64 x.rep.why), (i64 x.rep.amount), (Value.slice V x.rep.rows.length c)])) (by kernel_rfl) (by kernel_rfl) (fun wz hS => Runs.load (t := 27) (a := ⟨b1, 10, none⟩) (by kernel_rfl) ((H4.keep hS (fun h => h)).loads (by kernel_rfl))) (d := (some 44)) (by kernel_rfl) rfl ?_
      refine Dr.new (i := 3) (o := rowL [(i64 x.n)] 2) (V := fun b => (Value.slice (some ⟨b, 0, none⟩) 1 1)) (by kernel_rfl) (by kernel_rfl) (d := (some 41)) (by kernel_rfl) (fun b => rfl) (fun b81 w82 hb83 H84 K85 hs86 => ?_)
      have lb81b1 : b1 < b81 := by have := H4.lt; omega
      have lb81b20 : b20 < b81 := by have := H23.lt; omega
      have nb81 : w.heap.size ≤ b81 := by have := K0.size; omega
      have ob87 : ∀ i, (v28).ownBlock = some i → i < b81 := fun i hi => by have := (World.ownsRow.lt O32 i hi).2; omega
      replace K0 := K0.t0 K85
      replace H4 := H4.keep K85 (fun h => h)
      replace H23 := H23.keep K85 (fun h => h)
      replace O32 := own_keep0 O32 K85
      refine ⟨K85, ?_⟩
      refine Dr.strong (S' := (fun wz => Keeps none_ w82 wz)) (Keeps.refl w82) (fun wz hx => K85.trans hx (fun i _ h => h) (fun _ _ h => h)) ?_
      clear K85 hs86
      have hr88 : ∀ z ∈ ([x.n] : List Int), -9223372036854775808 ≤ z ∧ z ≤ 9223372036854775807 := by
       intro z hz
       simp only [List.mem_cons, List.not_mem_nil, or_false] at hz
       omega
      refine Dr.call (i := 4) (by kernel_rfl) (by kernel_rfl) (d := (some 42)) (by kernel_rfl) (fun _ => ints_calls _ v28 (ivs [x.kind]) b81 [x.n] 1 (OwnB.rd O32) (show Has _ b81 (rowL (ints [x.n]) 2) from H84) rfl hr88 (by omega) (by (try simp only at *); (try simp only [List.length_append] at *); (try simp only [List.length_cons] at *); (try simp only [List.length_nil] at *); omega)) ?_
      rintro _ w91 ⟨v90, rfl, K92, hO93⟩
      have ob95 : ∀ i, (v90).ownBlock = some i → i ≠ b1 := fun i hi => by have := (World.ownsRow.lt hO93 i hi).1; have := H4.lt; omega
      have ob96 : ∀ i, (v90).ownBlock = some i → i ≠ b20 := fun i hi => by have := (World.ownsRow.lt hO93 i hi).1; have := H23.lt; omega
      have ob97 : ∀ i, (v90).ownBlock = some i → i ≠ b81 := fun i hi => by have := (World.ownsRow.lt hO93 i hi).1; have := H84.lt; omega
      have oo98 : ∀ i, (v28).ownBlock = some i → (v90).ownBlock = some i → False := fun i hi hs => by have := (World.ownsRow.lt hO93 i hs).1; have := (World.ownsRow.lt O32 i hi).2; omega
      have oo99 : ∀ i, (v90).ownBlock = some i → (v28).ownBlock = some i → False := fun i hi hs => oo98 i hs hi
      have O94 := own_base hO93 K0.size
      clear hO93
      have hL89 : (ivs [x.n]).length ≤ 10 := ivs_length_le hr88
      replace K0 := K0.t0 K92
      replace H4 := H4.keep K92 (fun h => h)
      replace H23 := H23.keep K92 (fun h => h)
      replace H84 := H84.keep K92 (fun h => h)
      replace O32 := own_keep0 O32 K92
      refine ⟨_, _, rfl, rfl, K92, ?_⟩
      refine Dr.strong (S' := (fun wz => Keeps none_ w91 wz)) (Keeps.refl w91) (fun wz hx => K92.trans hx (fun i _ h => h) (fun _ _ h => h)) ?_
      clear K92
      refine Dr.call (i := 7) (by kernel_rfl) (by kernel_rfl) (d := (some 45)) (by kernel_rfl) (fun _ => PutReply_calls _ v90 (ivs [x.kind] ++ ivs [x.n]) x.rep V c (OwnB.rd O94) hok.rep (Rd.keep0 (by omega) hV K0) (by (try simp only at *); (try simp only [List.length_append] at *); (try simp only [List.length_cons] at *); (try simp only [List.length_nil] at *); omega)) ?_
      rintro _ w101 ⟨v100, rfl, K102, hO103⟩
      have ob105 : ∀ i, (v100).ownBlock = some i → i ≠ b1 := fun i hi => by have := (World.ownsRow.lt hO103 i hi).1; have := H4.lt; omega
      have ob106 : ∀ i, (v100).ownBlock = some i → i ≠ b20 := fun i hi => by have := (World.ownsRow.lt hO103 i hi).1; have := H23.lt; omega
      have ob107 : ∀ i, (v100).ownBlock = some i → i ≠ b81 := fun i hi => by have := (World.ownsRow.lt hO103 i hi).1; have := H84.lt; omega
      have oo108 : ∀ i, (v28).ownBlock = some i → (v100).ownBlock = some i → False := fun i hi hs => by have := (World.ownsRow.lt hO103 i hs).1; have := (World.ownsRow.lt O32 i hi).2; omega
      have oo109 : ∀ i, (v100).ownBlock = some i → (v28).ownBlock = some i → False := fun i hi hs => oo108 i hs hi
      have oo110 : ∀ i, (v90).ownBlock = some i → (v100).ownBlock = some i → False := fun i hi hs => by have := (World.ownsRow.lt hO103 i hs).1; have := (World.ownsRow.lt O94 i hi).2; omega
      have oo111 : ∀ i, (v100).ownBlock = some i → (v90).ownBlock = some i → False := fun i hi hs => oo110 i hs hi
      have O104 := own_base hO103 K0.size
      clear hO103
      replace K0 := K0.t0 K102
      replace H4 := H4.keep K102 (fun h => h)
      replace H23 := H23.keep K102 (fun h => h)
      replace H84 := H84.keep K102 (fun h => h)
      replace O32 := own_keep0 O32 K102
      replace O94 := own_keep0 O94 K102
      refine ⟨_, _, rfl, rfl, K102, ?_⟩
      refine Dr.strong (S' := (fun wz => Keeps none_ w101 wz)) (Keeps.refl w101) (fun wz hx => K102.trans hx (fun i _ h => h) (fun _ _ h => h)) ?_
      clear K102
      refine Dr.takes (fuel' := 0) (is' := _) [8] [(1, (ptr b1)), (2, (Value.slice none 0 0)), (3, (i64 0)), (4, v100)] (by kernel_rfl) rfl (by kernel_rfl) ?_
      refine Dr.done (by kernel_rfl) ?_
      refine q_exit (id := 0) (by kernel_rfl) ?_
      refine qs ?_
      refine qs ?_
      refine qg ?_
      obtain ⟨A112, c113, hf114⟩ := RdB.form (OwnB.rd O104)
      subst hf114
      refine og 3 [(2, (Value.slice none 0 0)), (3, (i64 0)), (4, (Value.slice A112 ((ivs [x.kind] ++ ivs [x.n] ++ rpv x.rep).length) c113)), (67, (Value.bool (decide ((((ivs [x.kind] ++ ivs [x.n] ++ rpv x.rep).length : Nat) : Int) > 1048576))))] 3 ?_
      refine od ?_
      refine q_cond (o := .tmp 67) (b := (decide ((((ivs [x.kind] ++ ivs [x.n] ++ rpv x.rep).length : Nat) : Int) > 1048576))) (by kernel_rfl) rfl (fun h115 => ?_) (fun h115 => ?_)
      ·rw [h115]
       have p116 : (((ivs [x.kind] ++ ivs [x.n] ++ rpv x.rep).length : Nat) : Int) > 1048576 := of_decide_eq_true h115
       refine qs ?_
       refine qg ?_
       refine og 2 [(2, (Value.slice none 0 0)), (3, (i64 3)), (4, (Value.slice A112 ((ivs [x.kind] ++ ivs [x.n] ++ rpv x.rep).length) c113))] 2 ?_
       refine od ?_
       refine q_ret (by kernel_rfl) ?_
       refine ⟨(Value.tuple #[(Value.slice none 0 0), (i64 3)]), retv_tmp2 rfl rfl rfl, ?_⟩
       have hL : ivs [x.kind] ++ ivs [x.n] ++ rpv x.rep = letv x := by unfold letv; first | (rw [if_pos (by omega)] <;> (simp [ivs]; done)) | (rw [if_neg (by omega), if_pos (by omega)] <;> (simp [ivs]; done)) | (rw [if_neg (by omega), if_neg (by omega), if_pos (by omega)] <;> (simp [ivs]; done)) | (rw [if_neg (by omega), if_neg (by omega), if_neg (by omega), if_pos (by omega)] <;> (simp [ivs]; done)) | (rw [if_neg (by omega), if_neg (by omega), if_neg (by omega), if_neg (by omega)] <;> (simp [ivs]; done))
       have hLl := congrArg List.length hL
       have e : packB x = ([], 3) := by unfold packB; rw [if_neg (by omega), if_neg (not_not_intro hf), if_pos (by omega)]
       exact ⟨_, by rw [e], K0, by rw [e]; exact World.ownsRow_nil _ _ _ _⟩
      ·rw [h115]
       have p117 : ¬ ((((ivs [x.kind] ++ ivs [x.n] ++ rpv x.rep).length : Nat) : Int) > 1048576) := of_decide_eq_false h115
       refine q_skip (by kernel_rfl) ?_
       refine qs ?_
       refine qg ?_
       refine og 3 [(2, (Value.slice A112 ((ivs [x.kind] ++ ivs [x.n] ++ rpv x.rep).length) c113)), (3, (i64 0))] 3 ?_
       refine od ?_
       refine q_ret (by kernel_rfl) ?_
       refine ⟨(Value.tuple #[(Value.slice A112 ((ivs [x.kind] ++ ivs [x.n] ++ rpv x.rep).length) c113), (i64 0)]), retv_tmp2 rfl rfl rfl, ?_⟩
       have hL : ivs [x.kind] ++ ivs [x.n] ++ rpv x.rep = letv x := by unfold letv; first | (rw [if_pos (by omega)] <;> (simp [ivs]; done)) | (rw [if_neg (by omega), if_pos (by omega)] <;> (simp [ivs]; done)) | (rw [if_neg (by omega), if_neg (by omega), if_pos (by omega)] <;> (simp [ivs]; done)) | (rw [if_neg (by omega), if_neg (by omega), if_neg (by omega), if_pos (by omega)] <;> (simp [ivs]; done)) | (rw [if_neg (by omega), if_neg (by omega), if_neg (by omega), if_neg (by omega)] <;> (simp [ivs]; done))
       have hLl := congrArg List.length hL
       have e : packB x = (letv x, 0) := by unfold packB; rw [if_neg (by omega), if_neg (not_not_intro hf), if_neg (by omega)]
       exact ⟨_, by rw [e], K0, by rw [e, ← hL]; exact O104⟩
     ·rw [h77]
      have p118 : ¬ (x.kind = 3) := of_beq_f h77
      refine q_skip (by kernel_rfl) ?_
      refine qs ?_
      refine qs ?_
      refine qg ?_
      refine og 2 [(1, (ptr b1)), (2, (Value.slice none 0 0)), (3, (i64 0)), (4, v28), (21, (i64 x.kind)), (26, (Value.bool (x.kind == 5)))] 2 ?_
      refine od ?_
      refine q_cond (o := .tmp 26) (b := (x.kind == 5)) (by kernel_rfl) rfl (fun h119 => ?_) (fun h119 => ?_)
      ·rw [h119]
       have p120 : x.kind = 5 := of_beq_t h119
       have hbl := let_body hf (by omega) (by omega)
       have htb := tv_le (s := x.body) (by omega)
       refine q_exit (id := 3) (by kernel_rfl) ?_
       refine qs ?_
       refine q_draw (fun wz => Keeps none_ w29 wz) 11 (by kernel_rfl) (by kernel_rfl) (by kernel_rfl) (fun w121 K122 _ _ => ⟨K122, ?_⟩)
       replace K0 := K0.t0 K122
       replace H4 := H4.keep K122 (fun h => h)
       replace H23 := H23.keep K122 (fun h => h)
       replace O32 := own_keep0 O32 K122
       refine Dr.strong (S' := (fun wz => Keeps none_ w121 wz)) (Keeps.refl w121) (fun wz hx => K122.trans hx (fun i _ h => h) (fun _ _ h => h)) ?_
       clear K122
       refine Dr.takes (fuel' := 9) (is' := _) [0, 1] [(1, (ptr b1)), (2, (Value.slice none 0 0)), (3, (i64 0)), (4, v28), (46, v28), (47, (Value.pointer (some ⟨b1, 1, none⟩)))] (by kernel_rfl) rfl (by kernel_rfl) ?_
       refine Dr.take (i := 2) (v := (i64 x.n)) (by kernel_rfl) (by kernel_rfl) (fun wz hS => Runs.load (t := 2) (a := ⟨b1, 1, none⟩) (by kernel_rfl) ((H4.keep hS (fun h => h)).loads (by kernel_rfl))) (d := (some 48)) (by kernel_rfl) rfl ?_
       refine Dr.takes (fuel' := 7) (is' := _) [3] [(1, (ptr b1)), (2, (Value.slice none 0 0)), (3, (i64 0)), (4, v28), (46, v28), (48, (i64 x.n)), (49, (Value.pointer (some ⟨b1, 2, none⟩)))] (by kernel_rfl) rfl (by kernel_rfl) ?_
       refine Dr.take (i := 4) (v := (i64 x.group)) (by kernel_rfl) (by kernel_rfl) (fun wz hS => Runs.load (t := 3) (a := ⟨b1, 2, none⟩) (by kernel_rfl) ((H4.keep hS (fun h => h)).loads (by kernel_rfl))) (d := (some 50)) (by kernel_rfl) rfl ?_
       refine Dr.takes (fuel' := 5) (is' := _) [7] [(1, (ptr b1)), (2, (Value.slice none 0 0)), (3, (i64 0)), (4, v28), (46, v28), (48, (i64 x.n)), (50, (i64 x.group)), (53, (Value.pointer (some ⟨b1, 13, none⟩)))] (by kernel_rfl) rfl (by kernel_rfl) ?_
       refine Dr.take (i := 8) (v := (Value.slice D x.body.length dc)) (by kernel_rfl) (by kernel_rfl) (fun wz hS => Runs.load (t := 28) (a := ⟨b1, 13, none⟩) (by kernel_rfl) ((H4.keep hS (fun h => h)).loads (by kernel_rfl))) (d := (some 54)) (by kernel_rfl) rfl ?_
       refine Dr.new (i := 5) (o := rowL [(i64 x.n), (i64 x.group)] 2) (V := fun b => (Value.slice (some ⟨b, 0, none⟩) 2 2)) (by kernel_rfl) (by kernel_rfl) (d := (some 51)) (by kernel_rfl) (fun b => rfl) (fun b123 w124 hb125 H126 K127 hs128 => ?_)
       have lb123b1 : b1 < b123 := by have := H4.lt; omega
       have lb123b20 : b20 < b123 := by have := H23.lt; omega
       have nb123 : w.heap.size ≤ b123 := by have := K0.size; omega
       have ob129 : ∀ i, (v28).ownBlock = some i → i < b123 := fun i hi => by have := (World.ownsRow.lt O32 i hi).2; omega
       replace K0 := K0.t0 K127
       replace H4 := H4.keep K127 (fun h => h)
       replace H23 := H23.keep K127 (fun h => h)
       replace O32 := own_keep0 O32 K127
       refine ⟨K127, ?_⟩
       refine Dr.strong (S' := (fun wz => Keeps none_ w124 wz)) (Keeps.refl w124) (fun wz hx => K127.trans hx (fun i _ h => h) (fun _ _ h => h)) ?_
       clear K127 hs128
       have hr130 : ∀ z ∈ ([x.n, x.group] : List Int), -9223372036854775808 ≤ z ∧ z ≤ 9223372036854775807 := by
        intro z hz
        simp only [List.mem_cons, List.not_mem_nil, or_false] at hz
        omega
       refine Dr.call (i := 6) (by kernel_rfl) (by kernel_rfl) (d := (some 52)) (by kernel_rfl) (fun _ => ints_calls _ v28 (ivs [x.kind]) b123 [x.n, x.group] 2 (OwnB.rd O32) (show Has _ b123 (rowL (ints [x.n, x.group]) 2) from H126) rfl hr130 (by omega) (by (try simp only at *); (try simp only [List.length_append] at *); (try simp only [List.length_cons] at *); (try simp only [List.length_nil] at *); omega)) ?_
       rintro _ w133 ⟨v132, rfl, K134, hO135⟩
       have ob137 : ∀ i, (v132).ownBlock = some i → i ≠ b1 := fun i hi => by have := (World.ownsRow.lt hO135 i hi).1; have := H4.lt; omega
       have ob138 : ∀ i, (v132).ownBlock = some i → i ≠ b20 := fun i hi => by have := (World.ownsRow.lt hO135 i hi).1; have := H23.lt; omega
       have ob139 : ∀ i, (v132).ownBlock = some i → i ≠ b123 := fun i hi => by have := (World.ownsRow.lt hO135 i hi).1; have := H126.lt; omega
       have oo140 : ∀ i, (v28).ownBlock = some i → (v132).ownBlock = some i → False := fun i hi hs => by have := (World.ownsRow.lt hO135 i hs).1; have := (World.ownsRow.lt O32 i hi).2; omega
       have oo141 : ∀ i, (v132).ownBlock = some i → (v28).ownBlock = some i → False := fun i hi hs => oo140 i hs hi
       have O136 := own_base hO135 K0.size
       clear hO135
       have hL131 : (ivs [x.n, x.group]).length ≤ 20 := ivs_length_le hr130
       replace K0 := K0.t0 K134
       replace H4 := H4.keep K134 (fun h => h)
       replace H23 := H23.keep K134 (fun h => h)
       replace H126 := H126.keep K134 (fun h => h)
       replace O32 := own_keep0 O32 K134
       refine ⟨_, _, rfl, rfl, K134, ?_⟩
       refine Dr.strong (S' := (fun wz => Keeps none_ w133 wz)) (Keeps.refl w133) (fun wz hx => K134.trans hx (fun i _ h => h) (fun _ _ h => h)) ?_
       clear K134
       refine Dr.call (i := 9) (by kernel_rfl) (by kernel_rfl) (d := (some 55)) (by kernel_rfl) (fun _ => BytesW_calls _ v132 (ivs [x.kind] ++ ivs [x.n, x.group]) D dc x.body (OwnB.rd O136) (hD.keep0 (by omega) K0) (by first | omega | decide) (by (try simp only at *); (try simp only [List.length_append] at *); (try simp only [List.length_cons] at *); (try simp only [List.length_nil] at *); omega)) ?_
       rintro _ w145 ⟨v144, rfl, K146, hO147⟩
       have ob149 : ∀ i, (v144).ownBlock = some i → i ≠ b1 := fun i hi => by have := (World.ownsRow.lt hO147 i hi).1; have := H4.lt; omega
       have ob150 : ∀ i, (v144).ownBlock = some i → i ≠ b20 := fun i hi => by have := (World.ownsRow.lt hO147 i hi).1; have := H23.lt; omega
       have ob151 : ∀ i, (v144).ownBlock = some i → i ≠ b123 := fun i hi => by have := (World.ownsRow.lt hO147 i hi).1; have := H126.lt; omega
       have oo152 : ∀ i, (v28).ownBlock = some i → (v144).ownBlock = some i → False := fun i hi hs => by have := (World.ownsRow.lt hO147 i hs).1; have := (World.ownsRow.lt O32 i hi).2; omega
       have oo153 : ∀ i, (v144).ownBlock = some i → (v28).ownBlock = some i → False := fun i hi hs => oo152 i hs hi
       have oo154 : ∀ i, (v132).ownBlock = some i → (v144).ownBlock = some i → False := fun i hi hs => by have := (World.ownsRow.lt hO147 i hs).1; have := (World.ownsRow.lt O136 i hi).2; omega
       have oo155 : ∀ i, (v144).ownBlock = some i → (v132).ownBlock = some i → False := fun i hi hs => oo154 i hs hi
       have O148 := own_base hO147 K0.size
       clear hO147
       have hL142 := tv_ge x.body
       have hL143 := tv_le (s := x.body) (by first | omega | decide)
       replace K0 := K0.t0 K146
       replace H4 := H4.keep K146 (fun h => h)
       replace H23 := H23.keep K146 (fun h => h)
       replace H126 := H126.keep K146 (fun h => h)
       replace O32 := own_keep0 O32 K146
       replace O136 := own_keep0 O136 K146
       refine ⟨_, _, rfl, rfl, K146, ?_⟩
       refine Dr.strong (S' := (fun wz => Keeps none_ w145 wz)) (Keeps.refl w145) (fun wz hx => K146.trans hx (fun i _ h => h) (fun _ _ h => h)) ?_
       clear K146
       refine Dr.takes (fuel' := 0) (is' := _) [10] [(1, (ptr b1)), (2, (Value.slice none 0 0)), (3, (i64 0)), (4, v144)] (by kernel_rfl) rfl (by kernel_rfl) ?_
       refine Dr.done (by kernel_rfl) ?_
       refine q_exit (id := 0) (by kernel_rfl) ?_
       refine qs ?_
       refine qs ?_
       refine qg ?_
       obtain ⟨A156, c157, hf158⟩ := RdB.form (OwnB.rd O148)
       subst hf158
       refine og 3 [(2, (Value.slice none 0 0)), (3, (i64 0)), (4, (Value.slice A156 ((ivs [x.kind] ++ ivs [x.n, x.group] ++ tv x.body).length) c157)), (67, (Value.bool (decide ((((ivs [x.kind] ++ ivs [x.n, x.group] ++ tv x.body).length : Nat) : Int) > 1048576))))] 3 ?_
       refine od ?_
       refine q_cond (o := .tmp 67) (b := (decide ((((ivs [x.kind] ++ ivs [x.n, x.group] ++ tv x.body).length : Nat) : Int) > 1048576))) (by kernel_rfl) rfl (fun h159 => ?_) (fun h159 => ?_)
       ·rw [h159]
        have p160 : (((ivs [x.kind] ++ ivs [x.n, x.group] ++ tv x.body).length : Nat) : Int) > 1048576 := of_decide_eq_true h159
        refine qs ?_
        refine qg ?_
        refine og 2 [(2, (Value.slice none 0 0)), (3, (i64 3)), (4, (Value.slice A156 ((ivs [x.kind] ++ ivs [x.n, x.group] ++ tv x.body).length) c157))] 2 ?_
        refine od ?_
        refine q_ret (by kernel_rfl) ?_
        refine ⟨(Value.tuple #[(Value.slice none 0 0), (i64 3)]), retv_tmp2 rfl rfl rfl, ?_⟩
        have hL : ivs [x.kind] ++ ivs [x.n, x.group] ++ tv x.body = letv x := by unfold letv; first | (rw [if_pos (by omega)] <;> (simp [ivs]; done)) | (rw [if_neg (by omega), if_pos (by omega)] <;> (simp [ivs]; done)) | (rw [if_neg (by omega), if_neg (by omega), if_pos (by omega)] <;> (simp [ivs]; done)) | (rw [if_neg (by omega), if_neg (by omega), if_neg (by omega), if_pos (by omega)] <;> (simp [ivs]; done)) | (rw [if_neg (by omega), if_neg (by omega), if_neg (by omega), if_neg (by omega)] <;> (simp [ivs]; done))
        have hLl := congrArg List.length hL
        have e : packB x = ([], 3) := by unfold packB; rw [if_neg (by omega), if_neg (not_not_intro hf), if_pos (by omega)]
        exact ⟨_, by rw [e], K0, by rw [e]; exact World.ownsRow_nil _ _ _ _⟩
       ·rw [h159]
        have p161 : ¬ ((((ivs [x.kind] ++ ivs [x.n, x.group] ++ tv x.body).length : Nat) : Int) > 1048576) := of_decide_eq_false h159
        refine q_skip (by kernel_rfl) ?_
        refine qs ?_
        refine qg ?_
        refine og 3 [(2, (Value.slice A156 ((ivs [x.kind] ++ ivs [x.n, x.group] ++ tv x.body).length) c157)), (3, (i64 0))] 3 ?_
        refine od ?_
        refine q_ret (by kernel_rfl) ?_
        refine ⟨(Value.tuple #[(Value.slice A156 ((ivs [x.kind] ++ ivs [x.n, x.group] ++ tv x.body).length) c157), (i64 0)]), retv_tmp2 rfl rfl rfl, ?_⟩
        have hL : ivs [x.kind] ++ ivs [x.n, x.group] ++ tv x.body = letv x := by unfold letv; first | (rw [if_pos (by omega)] <;> (simp [ivs]; done)) | (rw [if_neg (by omega), if_pos (by omega)] <;> (simp [ivs]; done)) | (rw [if_neg (by omega), if_neg (by omega), if_pos (by omega)] <;> (simp [ivs]; done)) | (rw [if_neg (by omega), if_neg (by omega), if_neg (by omega), if_pos (by omega)] <;> (simp [ivs]; done)) | (rw [if_neg (by omega), if_neg (by omega), if_neg (by omega), if_neg (by omega)] <;> (simp [ivs]; done))
        have hLl := congrArg List.length hL
        have e : packB x = (letv x, 0) := by unfold packB; rw [if_neg (by omega), if_neg (not_not_intro hf), if_neg (by omega)]
        exact ⟨_, by rw [e], K0, by rw [e, ← hL]; exact O148⟩
      ·rw [h119]
       have p162 : ¬ (x.kind = 5) := of_beq_f h119
       refine q_skip (by kernel_rfl) ?_
       refine qs ?_
       refine qg ?_
       refine og 2 [(1, (ptr b1)), (2, (Value.slice none 0 0)), (3, (i64 0)), (4, v28), (28, (Value.bool (x.kind == 4)))] 2 ?_
       refine od ?_
       refine q_cond (o := .tmp 28) (b := (x.kind == 4)) (by kernel_rfl) rfl (fun h163 => ?_) (fun h163 => ?_)
       ·rw [h163]
        have p164 : x.kind = 4 := of_beq_t h163
        have hbl := let_body hf (by omega) (by omega)
        have htb := tv_le (s := x.body) (by omega)
        refine q_exit (id := 4) (by kernel_rfl) ?_
        refine qg ?_
        refine og 2 [(1, (ptr b1)), (2, (Value.slice none 0 0)), (3, (i64 0)), (4, v28), (56, v28), (57, (Value.pointer (some ⟨b1, 1, none⟩)))] 2 ?_
        refine Ops.go (v := (i64 x.n)) (by kernel_rfl) (Runs.load (t := 2) (a := ⟨b1, 1, none⟩) (by kernel_rfl) (H4.loads (by kernel_rfl))) (d := (some 58)) (by kernel_rfl) rfl ?_
        refine Ops.new (o := rowL [(i64 x.n)] 2) (V := fun b => (Value.slice (some ⟨b, 0, none⟩) 1 1)) (by kernel_rfl) (d := (some 59)) (by kernel_rfl) (fun b => rfl) (fun b165 w166 hb167 H168 K169 hs170 => ?_)
        have lb165b1 : b1 < b165 := by have := H4.lt; omega
        have lb165b20 : b20 < b165 := by have := H23.lt; omega
        have nb165 : w.heap.size ≤ b165 := by have := K0.size; omega
        have ob171 : ∀ i, (v28).ownBlock = some i → i < b165 := fun i hi => by have := (World.ownsRow.lt O32 i hi).2; omega
        replace K0 := K0.t0 K169
        replace H4 := H4.keep K169 (fun h => h)
        replace H23 := H23.keep K169 (fun h => h)
        replace O32 := own_keep0 O32 K169
        clear K169 hs170
        have hr172 : ∀ z ∈ ([x.n] : List Int), -9223372036854775808 ≤ z ∧ z ≤ 9223372036854775807 := by
         intro z hz
         simp only [List.mem_cons, List.not_mem_nil, or_false] at hz
         omega
        refine Ops.call (by kernel_rfl) (d := (some 60)) (by kernel_rfl) (ints_calls _ v28 (ivs [x.kind]) b165 [x.n] 1 (OwnB.rd O32) (show Has _ b165 (rowL (ints [x.n]) 2) from H168) rfl hr172 (by omega) (by (try simp only at *); (try simp only [List.length_append] at *); (try simp only [List.length_cons] at *); (try simp only [List.length_nil] at *); omega)) ?_
        rintro _ w175 ⟨v174, rfl, K176, hO177⟩
        have ob179 : ∀ i, (v174).ownBlock = some i → i ≠ b1 := fun i hi => by have := (World.ownsRow.lt hO177 i hi).1; have := H4.lt; omega
        have ob180 : ∀ i, (v174).ownBlock = some i → i ≠ b20 := fun i hi => by have := (World.ownsRow.lt hO177 i hi).1; have := H23.lt; omega
        have ob181 : ∀ i, (v174).ownBlock = some i → i ≠ b165 := fun i hi => by have := (World.ownsRow.lt hO177 i hi).1; have := H168.lt; omega
        have oo182 : ∀ i, (v28).ownBlock = some i → (v174).ownBlock = some i → False := fun i hi hs => by have := (World.ownsRow.lt hO177 i hs).1; have := (World.ownsRow.lt O32 i hi).2; omega
        have oo183 : ∀ i, (v174).ownBlock = some i → (v28).ownBlock = some i → False := fun i hi hs => oo182 i hs hi
        have O178 := own_base hO177 K0.size
        clear hO177
        have hL173 : (ivs [x.n]).length ≤ 10 := ivs_length_le hr172
        refine ⟨_, _, rfl, rfl, ?_⟩
        replace K0 := K0.t0 K176
        replace H4 := H4.keep K176 (fun h => h)
        replace H23 := H23.keep K176 (fun h => h)
        replace H168 := H168.keep K176 (fun h => h)
        replace O32 := own_keep0 O32 K176
        clear K176
        refine og 1 [(1, (ptr b1)), (2, (Value.slice none 0 0)), (3, (i64 0)), (4, v174)] 6 ?_
        refine od ?_
        refine qs ?_
        refine qg ?_
        refine og 2 [(2, (Value.slice none 0 0)), (3, (i64 0)), (4, v174), (61, v174), (62, (Value.pointer (some ⟨b1, 13, none⟩)))] 2 ?_
        refine Ops.go (v := (Value.slice D x.body.length dc)) (by kernel_rfl) (Runs.load (t := 28) (a := ⟨b1, 13, none⟩) (by kernel_rfl) (H4.loads (by kernel_rfl))) (d := (some 63)) (by kernel_rfl) rfl ?_
        refine Ops.call (by kernel_rfl) (d := (some 64)) (by kernel_rfl) (BytesW_calls _ v174 (ivs [x.kind] ++ ivs [x.n]) D dc x.body (OwnB.rd O178) (hD.keep0 (by omega) K0) (by first | omega | decide) (by (try simp only at *); (try simp only [List.length_append] at *); (try simp only [List.length_cons] at *); (try simp only [List.length_nil] at *); omega)) ?_
        rintro _ w187 ⟨v186, rfl, K188, hO189⟩
        have ob191 : ∀ i, (v186).ownBlock = some i → i ≠ b1 := fun i hi => by have := (World.ownsRow.lt hO189 i hi).1; have := H4.lt; omega
        have ob192 : ∀ i, (v186).ownBlock = some i → i ≠ b20 := fun i hi => by have := (World.ownsRow.lt hO189 i hi).1; have := H23.lt; omega
        have ob193 : ∀ i, (v186).ownBlock = some i → i ≠ b165 := fun i hi => by have := (World.ownsRow.lt hO189 i hi).1; have := H168.lt; omega
        have oo194 : ∀ i, (v28).ownBlock = some i → (v186).ownBlock = some i → False := fun i hi hs => by have := (World.ownsRow.lt hO189 i hs).1; have := (World.ownsRow.lt O32 i hi).2; omega
        have oo195 : ∀ i, (v186).ownBlock = some i → (v28).ownBlock = some i → False := fun i hi hs => oo194 i hs hi
        have oo196 : ∀ i, (v174).ownBlock = some i → (v186).ownBlock = some i → False := fun i hi hs => by have := (World.ownsRow.lt hO189 i hs).1; have := (World.ownsRow.lt O178 i hi).2; omega
        have oo197 : ∀ i, (v186).ownBlock = some i → (v174).ownBlock = some i → False := fun i hi hs => oo196 i hs hi
        have O190 := own_base hO189 K0.size
        clear hO189
        have hL184 := tv_ge x.body
        have hL185 := tv_le (s := x.body) (by first | omega | decide)
        refine ⟨_, _, rfl, rfl, ?_⟩
        replace K0 := K0.t0 K188
        replace H4 := H4.keep K188 (fun h => h)
        replace H23 := H23.keep K188 (fun h => h)
        replace H168 := H168.keep K188 (fun h => h)
        replace O32 := own_keep0 O32 K188
        replace O178 := own_keep0 O178 K188
        clear K188
        refine og 1 [(2, (Value.slice none 0 0)), (3, (i64 0)), (4, v186)] 5 ?_
        refine od ?_
        refine q_exit (id := 0) (by kernel_rfl) ?_
        refine qs ?_
        refine qs ?_
        refine qg ?_
        obtain ⟨A198, c199, hf200⟩ := RdB.form (OwnB.rd O190)
        subst hf200
        refine og 3 [(2, (Value.slice none 0 0)), (3, (i64 0)), (4, (Value.slice A198 ((ivs [x.kind] ++ ivs [x.n] ++ tv x.body).length) c199)), (67, (Value.bool (decide ((((ivs [x.kind] ++ ivs [x.n] ++ tv x.body).length : Nat) : Int) > 1048576))))] 3 ?_
        refine od ?_
        refine q_cond (o := .tmp 67) (b := (decide ((((ivs [x.kind] ++ ivs [x.n] ++ tv x.body).length : Nat) : Int) > 1048576))) (by kernel_rfl) rfl (fun h201 => ?_) (fun h201 => ?_)
        ·rw [h201]
         have p202 : (((ivs [x.kind] ++ ivs [x.n] ++ tv x.body).length : Nat) : Int) > 1048576 := of_decide_eq_true h201
         refine qs ?_
         refine qg ?_
         refine og 2 [(2, (Value.slice none 0 0)), (3, (i64 3)), (4, (Value.slice A198 ((ivs [x.kind] ++ ivs [x.n] ++ tv x.body).length) c199))] 2 ?_
         refine od ?_
         refine q_ret (by kernel_rfl) ?_
         refine ⟨(Value.tuple #[(Value.slice none 0 0), (i64 3)]), retv_tmp2 rfl rfl rfl, ?_⟩
         have hL : ivs [x.kind] ++ ivs [x.n] ++ tv x.body = letv x := by unfold letv; first | (rw [if_pos (by omega)] <;> (simp [ivs]; done)) | (rw [if_neg (by omega), if_pos (by omega)] <;> (simp [ivs]; done)) | (rw [if_neg (by omega), if_neg (by omega), if_pos (by omega)] <;> (simp [ivs]; done)) | (rw [if_neg (by omega), if_neg (by omega), if_neg (by omega), if_pos (by omega)] <;> (simp [ivs]; done)) | (rw [if_neg (by omega), if_neg (by omega), if_neg (by omega), if_neg (by omega)] <;> (simp [ivs]; done))
         have hLl := congrArg List.length hL
         have e : packB x = ([], 3) := by unfold packB; rw [if_neg (by omega), if_neg (not_not_intro hf), if_pos (by omega)]
         exact ⟨_, by rw [e], K0, by rw [e]; exact World.ownsRow_nil _ _ _ _⟩
        ·rw [h201]
         have p203 : ¬ ((((ivs [x.kind] ++ ivs [x.n] ++ tv x.body).length : Nat) : Int) > 1048576) := of_decide_eq_false h201
         refine q_skip (by kernel_rfl) ?_
         refine qs ?_
         refine qg ?_
         refine og 3 [(2, (Value.slice A198 ((ivs [x.kind] ++ ivs [x.n] ++ tv x.body).length) c199)), (3, (i64 0))] 3 ?_
         refine od ?_
         refine q_ret (by kernel_rfl) ?_
         refine ⟨(Value.tuple #[(Value.slice A198 ((ivs [x.kind] ++ ivs [x.n] ++ tv x.body).length) c199), (i64 0)]), retv_tmp2 rfl rfl rfl, ?_⟩
         have hL : ivs [x.kind] ++ ivs [x.n] ++ tv x.body = letv x := by unfold letv; first | (rw [if_pos (by omega)] <;> (simp [ivs]; done)) | (rw [if_neg (by omega), if_pos (by omega)] <;> (simp [ivs]; done)) | (rw [if_neg (by omega), if_neg (by omega), if_pos (by omega)] <;> (simp [ivs]; done)) | (rw [if_neg (by omega), if_neg (by omega), if_neg (by omega), if_pos (by omega)] <;> (simp [ivs]; done)) | (rw [if_neg (by omega), if_neg (by omega), if_neg (by omega), if_neg (by omega)] <;> (simp [ivs]; done))
         have hLl := congrArg List.length hL
         have e : packB x = (letv x, 0) := by unfold packB; rw [if_neg (by omega), if_neg (not_not_intro hf), if_neg (by omega)]
         exact ⟨_, by rw [e], K0, by rw [e, ← hL]; exact O190⟩
       ·rw [h163]
        have p204 : ¬ (x.kind = 4) := of_beq_f h163
        have hbl := let_body hf (by omega) (by omega)
        have htb := tv_le (s := x.body) (by omega)
        refine q_skip (by kernel_rfl) ?_
        refine q_exit (id := 5) (by kernel_rfl) ?_
        refine qs ?_
        refine qg ?_
        refine og 2 [(2, (Value.slice none 0 0)), (3, (i64 0)), (4, v28), (61, v28), (62, (Value.pointer (some ⟨b1, 13, none⟩)))] 2 ?_
        refine Ops.go (v := (Value.slice D x.body.length dc)) (by kernel_rfl) (Runs.load (t := 28) (a := ⟨b1, 13, none⟩) (by kernel_rfl) (H4.loads (by kernel_rfl))) (d := (some 63)) (by kernel_rfl) rfl ?_
        refine Ops.call (by kernel_rfl) (d := (some 64)) (by kernel_rfl) (BytesW_calls _ v28 (ivs [x.kind]) D dc x.body (OwnB.rd O32) (hD.keep0 (by omega) K0) (by first | omega | decide) (by (try simp only at *); (try simp only [List.length_append] at *); (try simp only [List.length_cons] at *); (try simp only [List.length_nil] at *); omega)) ?_
        rintro _ w208 ⟨v207, rfl, K209, hO210⟩
        have ob212 : ∀ i, (v207).ownBlock = some i → i ≠ b1 := fun i hi => by have := (World.ownsRow.lt hO210 i hi).1; have := H4.lt; omega
        have ob213 : ∀ i, (v207).ownBlock = some i → i ≠ b20 := fun i hi => by have := (World.ownsRow.lt hO210 i hi).1; have := H23.lt; omega
        have oo214 : ∀ i, (v28).ownBlock = some i → (v207).ownBlock = some i → False := fun i hi hs => by have := (World.ownsRow.lt hO210 i hs).1; have := (World.ownsRow.lt O32 i hi).2; omega
        have oo215 : ∀ i, (v207).ownBlock = some i → (v28).ownBlock = some i → False := fun i hi hs => oo214 i hs hi
        have O211 := own_base hO210 K0.size
        clear hO210
        have hL205 := tv_ge x.body
        have hL206 := tv_le (s := x.body) (by first | omega | decide)
        refine ⟨_, _, rfl, rfl, ?_⟩
        replace K0 := K0.t0 K209
        replace H4 := H4.keep K209 (fun h => h)
        replace H23 := H23.keep K209 (fun h => h)
        replace O32 := own_keep0 O32 K209
        clear K209
        refine og 1 [(2, (Value.slice none 0 0)), (3, (i64 0)), (4, v207)] 5 ?_
        refine od ?_
        refine q_exit (id := 0) (by kernel_rfl) ?_
        refine qs ?_
        refine qs ?_
        refine qg ?_
        obtain ⟨A216, c217, hf218⟩ := RdB.form (OwnB.rd O211)
        subst hf218
        refine og 3 [(2, (Value.slice none 0 0)), (3, (i64 0)), (4, (Value.slice A216 ((ivs [x.kind] ++ tv x.body).length) c217)), (67, (Value.bool (decide ((((ivs [x.kind] ++ tv x.body).length : Nat) : Int) > 1048576))))] 3 ?_
        refine od ?_
        refine q_cond (o := .tmp 67) (b := (decide ((((ivs [x.kind] ++ tv x.body).length : Nat) : Int) > 1048576))) (by kernel_rfl) rfl (fun h219 => ?_) (fun h219 => ?_)
        ·rw [h219]
         have p220 : (((ivs [x.kind] ++ tv x.body).length : Nat) : Int) > 1048576 := of_decide_eq_true h219
         refine qs ?_
         refine qg ?_
         refine og 2 [(2, (Value.slice none 0 0)), (3, (i64 3)), (4, (Value.slice A216 ((ivs [x.kind] ++ tv x.body).length) c217))] 2 ?_
         refine od ?_
         refine q_ret (by kernel_rfl) ?_
         refine ⟨(Value.tuple #[(Value.slice none 0 0), (i64 3)]), retv_tmp2 rfl rfl rfl, ?_⟩
         have hL : ivs [x.kind] ++ tv x.body = letv x := by unfold letv; first | (rw [if_pos (by omega)] <;> (simp [ivs]; done)) | (rw [if_neg (by omega), if_pos (by omega)] <;> (simp [ivs]; done)) | (rw [if_neg (by omega), if_neg (by omega), if_pos (by omega)] <;> (simp [ivs]; done)) | (rw [if_neg (by omega), if_neg (by omega), if_neg (by omega), if_pos (by omega)] <;> (simp [ivs]; done)) | (rw [if_neg (by omega), if_neg (by omega), if_neg (by omega), if_neg (by omega)] <;> (simp [ivs]; done))
         have hLl := congrArg List.length hL
         have e : packB x = ([], 3) := by unfold packB; rw [if_neg (by omega), if_neg (not_not_intro hf), if_pos (by omega)]
         exact ⟨_, by rw [e], K0, by rw [e]; exact World.ownsRow_nil _ _ _ _⟩
        ·rw [h219]
         have p221 : ¬ ((((ivs [x.kind] ++ tv x.body).length : Nat) : Int) > 1048576) := of_decide_eq_false h219
         refine q_skip (by kernel_rfl) ?_
         refine qs ?_
         refine qg ?_
         refine og 3 [(2, (Value.slice A216 ((ivs [x.kind] ++ tv x.body).length) c217)), (3, (i64 0))] 3 ?_
         refine od ?_
         refine q_ret (by kernel_rfl) ?_
         refine ⟨(Value.tuple #[(Value.slice A216 ((ivs [x.kind] ++ tv x.body).length) c217), (i64 0)]), retv_tmp2 rfl rfl rfl, ?_⟩
         have hL : ivs [x.kind] ++ tv x.body = letv x := by unfold letv; first | (rw [if_pos (by omega)] <;> (simp [ivs]; done)) | (rw [if_neg (by omega), if_pos (by omega)] <;> (simp [ivs]; done)) | (rw [if_neg (by omega), if_neg (by omega), if_pos (by omega)] <;> (simp [ivs]; done)) | (rw [if_neg (by omega), if_neg (by omega), if_neg (by omega), if_pos (by omega)] <;> (simp [ivs]; done)) | (rw [if_neg (by omega), if_neg (by omega), if_neg (by omega), if_neg (by omega)] <;> (simp [ivs]; done))
         have hLl := congrArg List.length hL
         have e : packB x = (letv x, 0) := by unfold packB; rw [if_neg (by omega), if_neg (not_not_intro hf), if_neg (by omega)]
         exact ⟨_, by rw [e], K0, by rw [e, ← hL]; exact O211⟩
end Go.Proofs.Ytlnidnadpdpciaa
namespace Go.Proofs.Ytlnidnadpdpciaa
open Go.Q Go.RowKit

theorem SameRows_calls (w : World) (A : Option Addr) (c : Nat) (la : List RowM) (B : Option Addr) (d : Nat) (lb : List RowM) (hA : RdR w (.slice A la.length c) la) (hB : RdR w (.slice B lb.length d) lb) : Calls Try.prog 41 ⟨[(Value.slice A la.length c), (Value.slice B lb.length d)]⟩ w (fun e w' => ∃ t, e = .returned (.bool t) ∧ (t = true ↔ la = lb) ∧ Keeps none_ w w') := by
 have hla := (RdT.len RowM.two (by decide) hA).2
 unfold maxLen at hla
 have K0 : Keeps none_ w w := Keeps.refl w
 refine q_calls Try.func41 (by kernel_rfl) (by kernel_rfl) ?_
 refine qs ?_
 refine qg ?_
 refine og 1 [(0, (Value.slice A la.length c)), (1, (Value.slice B lb.length d)), (4, (Value.bool false))] 1 ?_
 refine od ?_
 refine qs ?_
 refine qs ?_
 refine qg ?_
 refine og 5 [(0, (Value.slice A la.length c)), (1, (Value.slice B lb.length d)), (4, (Value.bool false)), (10, (Value.bool (((la.length : Nat) : Int) != ((lb.length : Nat) : Int))))] 5 ?_
 refine od ?_
 refine q_cond (o := .tmp 10) (b := (((la.length : Nat) : Int) != ((lb.length : Nat) : Int))) (by kernel_rfl) rfl (fun h1 => ?_) (fun h1 => ?_)
 ·rw [h1]
  have p2 : ¬ (((la.length : Nat) : Int) = ((lb.length : Nat) : Int)) := of_bne_t h1
  refine qs ?_
  refine qg ?_
  refine og 1 [(0, (Value.slice A la.length c)), (1, (Value.slice B lb.length d)), (4, (Value.bool false))] 1 ?_
  refine od ?_
  refine q_ret (by kernel_rfl) ?_
  refine ⟨(Value.bool false), retv_tmp rfl rfl, ?_⟩
  exact ⟨false, rfl, ⟨fun h => (by cases h), fun h => by exfalso; have := congrArg List.length h; omega⟩, K0⟩
 ·rw [h1]
  have p3 : ((la.length : Nat) : Int) = ((lb.length : Nat) : Int) := of_bne_f h1
  refine q_skip (by kernel_rfl) ?_
  refine qs ?_
  refine qs ?_
  refine qg ?_
  refine og 1 [(0, (Value.slice A la.length c)), (1, (Value.slice B lb.length d)), (4, (Value.bool false)), (5, (i64 0))] 1 ?_
  refine od ?_
  refine q_block (id := 0) (by kernel_rfl) ?_
  refine q_keep (R := [(0, (Value.slice A la.length c)), (1, (Value.slice B lb.length d)), (5, (i64 0))]) (by kernel_rfl) ?_
  refine q_loop (fun (i : Nat) L (wx : World) => L = [(0, (Value.slice A la.length c)), (1, (Value.slice B lb.length d)), (5, (i64 ((i : Nat) : Int)))] ∧ la.take i = lb.take i ∧ i ≤ la.length ∧ Keeps none_ w wx) (fun (i : Nat) => la.length - i) 0 (by kernel_rfl) ⟨rfl, rfl, Nat.zero_le _, K0⟩ ?_
  clear K0
  rintro i _ w4 ⟨rfl, hE, hi, K5⟩
  refine qs ?_
  refine qs ?_
  refine qg ?_
  refine og 4 [(0, (Value.slice A la.length c)), (1, (Value.slice B lb.length d)), (5, (i64 ((i : Nat) : Int))), (14, (Value.bool (decide (((i : Nat) : Int) < ((la.length : Nat) : Int)))))] 4 ?_
  refine od ?_
  refine q_cond (o := .tmp 14) (b := (decide (((i : Nat) : Int) < ((la.length : Nat) : Int)))) (by kernel_rfl) rfl (fun h6 => ?_) (fun h6 => ?_)
  ·rw [h6]
   have p7 : ((i : Nat) : Int) < ((la.length : Nat) : Int) := of_decide_eq_true h6
   obtain ⟨rb8, ro9, x, hA10, hx11⟩ := RdT.open (Rd.keep0 (by omega) hA K5) rfl (k := i) (by omega)
   obtain ⟨rb12, ro13, y, hA14, hx15⟩ := RdT.open (Rd.keep0 (by omega) hB K5) rfl (k := i) (by omega)
   have hX := hx11
   have hY := hx15
   refine q_skip (by kernel_rfl) ?_
   refine qs ?_
   refine q_block (id := 1) (by kernel_rfl) ?_
   refine qs ?_
   refine q_draw (fun wz => Keeps none_ w4 wz) 9 (by kernel_rfl) (by kernel_rfl) (by kernel_rfl) (fun w16 K17 _ _ => ⟨K17, ?_⟩)
   replace K5 := K5.trans K17 (U := none_) (fun i h1 h2 => h2) (fun i h1 h2 => by exact h2)
   refine Dr.strong (S' := (fun wz => Keeps none_ w16 wz)) (Keeps.refl w16) (fun wz hx => K17.trans hx (fun i _ h => h) (fun _ _ h => h)) ?_
   clear K17
   refine Dr.takes (fuel' := 7) (is' := _) [0, 1] [(0, (Value.slice A la.length c)), (1, (Value.slice B lb.length d)), (5, (i64 ((i : Nat) : Int))), (17, (Value.slice A la.length c)), (18, (i64 ((i : Nat) : Int)))] (by kernel_rfl) rfl (by kernel_rfl) ?_
   refine Dr.take (i := 2) (v := (Value.pointer (some ⟨rb8, ro9 + i * 2, none⟩))) (by kernel_rfl) (by kernel_rfl) (fun wz hS => Runs.ixSliceE (k := IntKind.i64) (t := 25) (len := la.length) (cap := c) (s := 2) (off' := ro9 + i * 2) (i := ((i : Nat) : Int)) hA10 (by kernel_rfl) (by kernel_rfl) (by omega) (by omega) (by omega)) (d := (some 19)) (by kernel_rfl) rfl ?_
   refine Dr.take (i := 3) (v := (agg [(Value.string (str x.name)), (i64 x.amount)])) (by kernel_rfl) (by kernel_rfl) (fun wz hS => Runs.load (t := 59) (a := ⟨rb8, ro9 + i * 2, none⟩) (by kernel_rfl) (RdT.ld (f := RowM.cells) (x := x) RowM.two (Rd.keep0 (by omega) hA (K5.trans hS (fun _ _ h => h) (fun _ _ h => h))) (by kernel_rfl) (by kernel_rfl) hA10 hx11)) (d := (some 20)) (by kernel_rfl) rfl ?_
   refine Dr.takes (fuel' := 3) (is' := _) [4, 5] [(0, (Value.slice A la.length c)), (1, (Value.slice B lb.length d)), (5, (i64 ((i : Nat) : Int))), (20, (agg [(Value.string (str x.name)), (i64 x.amount)])), (21, (Value.slice B lb.length d)), (22, (i64 ((i : Nat) : Int)))] (by kernel_rfl) rfl (by kernel_rfl) ?_
   refine Dr.take (i := 6) (v := (Value.pointer (some ⟨rb12, ro13 + i * 2, none⟩))) (by kernel_rfl) (by kernel_rfl) (fun wz hS => Runs.ixSliceE (k := IntKind.i64) (t := 25) (len := lb.length) (cap := d) (s := 2) (off' := ro13 + i * 2) (i := ((i : Nat) : Int)) hA14 (by kernel_rfl) (by kernel_rfl) (by omega) (by omega) (by omega)) (d := (some 23)) (by kernel_rfl) rfl ?_
   refine Dr.take (i := 7) (v := (agg [(Value.string (str y.name)), (i64 y.amount)])) (by kernel_rfl) (by kernel_rfl) (fun wz hS => Runs.load (t := 59) (a := ⟨rb12, ro13 + i * 2, none⟩) (by kernel_rfl) (RdT.ld (f := RowM.cells) (x := y) RowM.two (Rd.keep0 (by omega) hB (K5.trans hS (fun _ _ h => h) (fun _ _ h => h))) (by kernel_rfl) (by kernel_rfl) hA14 hx15)) (d := (some 24)) (by kernel_rfl) rfl ?_
   refine Dr.take (i := 8) (v := (Value.bool (!(aggB [(Value.string (str x.name)), (i64 x.amount)] [(Value.string (str y.name)), (i64 y.amount)])))) (by kernel_rfl) (by kernel_rfl) (fun wz hS => Runs.aggne (t := 59) (by kernel_rfl) (by kernel_rfl)) (d := (some 25)) (by kernel_rfl) rfl ?_
   refine Dr.done (by kernel_rfl) ?_
   refine q_cond (o := .tmp 25) (b := (!(aggB [(Value.string (str x.name)), (i64 x.amount)] [(Value.string (str y.name)), (i64 y.amount)]))) (by kernel_rfl) rfl (fun h18 => ?_) (fun h18 => ?_)
   ·rw [h18]
    have p19 : (aggB [(Value.string (str x.name)), (i64 x.amount)] [(Value.string (str y.name)), (i64 y.amount)]) = false := (bnot_true h18)
    have hxy := aggB_row_f (bnot_true h18)
    refine qs ?_
    refine qg ?_
    refine og 1 [(0, (Value.slice A la.length c)), (1, (Value.slice B lb.length d)), (4, (Value.bool false)), (5, (i64 ((i : Nat) : Int)))] 1 ?_
    refine od ?_
    refine q_ret (by kernel_rfl) ?_
    refine ⟨(Value.bool false), retv_tmp rfl rfl, ?_⟩
    exact ⟨false, rfl, ⟨fun h => (by cases h), fun h => absurd h (getElem_ne hX hY hxy)⟩, K5⟩
   ·rw [h18]
    have p20 : (aggB [(Value.string (str x.name)), (i64 x.amount)] [(Value.string (str y.name)), (i64 y.amount)]) = true := (bnot_false h18)
    have hxy := (aggB_row x y).1 (bnot_false h18)
    refine q_skip (by kernel_rfl) ?_
    refine qg ?_
    refine og 2 [(0, (Value.slice A la.length c)), (1, (Value.slice B lb.length d)), (5, (i64 ((i : Nat) : Int))), (16, (i64 (IntKind.i64.wrap (((i : Nat) : Int) + 1))))] 2 ?_
    have e21 : IntKind.i64.wrap (((i : Nat) : Int) + 1) = ((i + 1 : Nat) : Int) := by rw [wrap_i64 (by omega) (by omega)]; omega
    rw [e21]
    clear e21
    refine og 1 [(0, (Value.slice A la.length c)), (1, (Value.slice B lb.length d)), (5, (i64 ((i + 1 : Nat) : Int)))] 3 ?_
    refine Ops.keep (R := [(0, (Value.slice A la.length c)), (1, (Value.slice B lb.length d)), (5, (i64 ((i + 1 : Nat) : Int)))]) (by kernel_rfl) ?_
    refine od ?_
    exact ⟨i + 1, ⟨rfl, (take_eq_succ hE hX (hxy ▸ hY)), (by omega), K5⟩, (show la.length - (i + 1) < la.length - i from by omega)⟩
  ·rw [h6]
   have p22 : ¬ (((i : Nat) : Int) < ((la.length : Nat) : Int)) := of_decide_eq_false h6
   refine q_exit (id := 0) (by kernel_rfl) ?_
   refine qs ?_
   refine qg ?_
   refine og 1 [(4, (Value.bool true))] 1 ?_
   refine od ?_
   refine q_ret (by kernel_rfl) ?_
   refine ⟨(Value.bool true), retv_tmp rfl rfl, ?_⟩
   exact ⟨true, rfl, ⟨fun _ => take_all_eq hE (by omega) (by omega), fun _ => rfl⟩, K5⟩

theorem SameReply_calls (w : World) (A : Option Addr) (c : Nat) (x : ReplyM) (B : Option Addr) (d : Nat) (y : ReplyM) (hA : RdR w (.slice A x.rows.length c) x.rows) (hB : RdR w (.slice B y.rows.length d) y.rows) : Calls Try.prog 17 ⟨[(agg [(i64 x.why), (i64 x.amount), (Value.slice A x.rows.length c)]), (agg [(i64 y.why), (i64 y.amount), (Value.slice B y.rows.length d)])]⟩ w (fun e w' => ∃ t, e = .returned (.bool t) ∧ (t = true ↔ x = y) ∧ Keeps none_ w w') := by
 have K0 : Keeps none_ w w := Keeps.refl w
 refine q_calls Try.func17 (by kernel_rfl) (by kernel_rfl) ?_
 refine qs ?_
 refine qg ?_
 refine Ops.new (o := rowL [(i64 x.why), (i64 x.amount), (Value.slice A x.rows.length c)] 27) (V := fun b => (ptr b)) (by kernel_rfl) (d := (some 2)) (by kernel_rfl) (fun b => rfl) (fun b1 w2 hb3 H4 K5 hs6 => ?_)
 have nb1 : w.heap.size ≤ b1 := by have := K0.size; omega
 replace K0 := K0.t0 K5
 clear K5 hs6
 refine Ops.new (o := rowL [(i64 y.why), (i64 y.amount), (Value.slice B y.rows.length d)] 27) (V := fun b => (ptr b)) (by kernel_rfl) (d := (some 3)) (by kernel_rfl) (fun b => rfl) (fun b7 w8 hb9 H10 K11 hs12 => ?_)
 have lb7 : b1 < b7 := by have := H4.lt; omega
 have nb7 : w.heap.size ≤ b7 := by have := K0.size; omega
 replace K0 := K0.t0 K11
 replace H4 := H4.keep K11 (fun h => h)
 clear K11 hs12
 refine og 1 [(2, (ptr b1)), (3, (ptr b7)), (4, (Value.bool false))] 3 ?_
 refine od ?_
 refine qs ?_
 refine qg ?_
 refine og 1 [(2, (ptr b1)), (3, (ptr b7)), (4, (Value.bool false)), (5, (ptr b1))] 1 ?_
 refine Ops.go (v := (i64 x.why)) (by kernel_rfl) (Runs.load (t := 24) (a := ⟨b1, 0, none⟩) (by kernel_rfl) (H4.loads (by kernel_rfl))) (d := (some 6)) (by kernel_rfl) rfl ?_
 refine og 1 [(2, (ptr b1)), (3, (ptr b7)), (4, (Value.bool false)), (6, (i64 x.why)), (7, (ptr b7))] 3 ?_
 refine Ops.go (v := (i64 y.why)) (by kernel_rfl) (Runs.load (t := 24) (a := ⟨b7, 0, none⟩) (by kernel_rfl) (H10.loads (by kernel_rfl))) (d := (some 8)) (by kernel_rfl) rfl ?_
 refine og 2 [(2, (ptr b1)), (3, (ptr b7)), (4, (Value.bool false)), (10, (Value.bool (x.why == y.why)))] 6 ?_
 refine Ops.split (x.why == y.why) (fun h13 => ?_) (fun h13 => ?_)
 ·rw [h13]
  have p14 : x.why = y.why := of_beq_t h13
  refine og 1 [(2, (ptr b1)), (3, (ptr b7)), (4, (Value.bool false)), (10, (Value.bool true)), (11, (Value.pointer (some ⟨b1, 1, none⟩)))] 7 ?_
  refine Ops.go (v := (i64 x.amount)) (by kernel_rfl) (Runs.load (t := 2) (a := ⟨b1, 1, none⟩) (by kernel_rfl) (H4.loads (by kernel_rfl))) (d := (some 12)) (by kernel_rfl) rfl ?_
  refine og 1 [(2, (ptr b1)), (3, (ptr b7)), (4, (Value.bool false)), (10, (Value.bool true)), (12, (i64 x.amount)), (13, (Value.pointer (some ⟨b7, 1, none⟩)))] 9 ?_
  refine Ops.go (v := (i64 y.amount)) (by kernel_rfl) (Runs.load (t := 2) (a := ⟨b7, 1, none⟩) (by kernel_rfl) (H10.loads (by kernel_rfl))) (d := (some 14)) (by kernel_rfl) rfl ?_
  refine og 3 [(2, (ptr b1)), (3, (ptr b7)), (4, (Value.bool false)), (17, (Value.bool (x.amount == y.amount)))] 13 ?_
  refine Ops.split (x.amount == y.amount) (fun h15 => ?_) (fun h15 => ?_)
  ·rw [h15]
   have p16 : x.amount = y.amount := of_beq_t h15
   refine og 1 [(3, (ptr b7)), (4, (Value.bool false)), (17, (Value.bool true)), (18, (Value.pointer (some ⟨b1, 2, none⟩)))] 14 ?_
   refine Ops.go (v := (Value.slice A x.rows.length c)) (by kernel_rfl) (Runs.load (t := 25) (a := ⟨b1, 2, none⟩) (by kernel_rfl) (H4.loads (by kernel_rfl))) (d := (some 19)) (by kernel_rfl) rfl ?_
   refine og 1 [(4, (Value.bool false)), (17, (Value.bool true)), (19, (Value.slice A x.rows.length c)), (20, (Value.pointer (some ⟨b7, 2, none⟩)))] 16 ?_
   refine Ops.go (v := (Value.slice B y.rows.length d)) (by kernel_rfl) (Runs.load (t := 25) (a := ⟨b7, 2, none⟩) (by kernel_rfl) (H10.loads (by kernel_rfl))) (d := (some 21)) (by kernel_rfl) rfl ?_
   refine Ops.call (by kernel_rfl) (d := (some 22)) (by kernel_rfl) (SameRows_calls _ A c x.rows B d y.rows (Rd.keep0 (by omega) hA K0) (Rd.keep0 (by omega) hB K0)) ?_
   rintro _ w20 ⟨t17, rfl, ht18, K19⟩
   refine ⟨_, _, rfl, rfl, ?_⟩
   replace K0 := K0.t0 K19
   replace H4 := H4.keep K19 (fun h => h)
   replace H10 := H10.keep K19 (fun h => h)
   clear K19
   refine og 2 [(4, (Value.bool t17))] 20 ?_
   refine od ?_
   refine q_ret (by kernel_rfl) ?_
   refine ⟨(Value.bool t17), retv_tmp rfl rfl, ?_⟩
   exact ⟨_, rfl, ⟨fun h => by have := ht18.1 h; cases x; cases y; simp only at *; simp only [ReplyM.mk.injEq]; exact ⟨by omega, by omega, this⟩, fun h => ht18.2 (by rw [h])⟩, K0⟩
  ·rw [h15]
   have p21 : ¬ (x.amount = y.amount) := of_beq_f h15
   refine og 7 [(4, (Value.bool false))] 20 ?_
   refine od ?_
   refine q_ret (by kernel_rfl) ?_
   refine ⟨(Value.bool false), retv_tmp rfl rfl, ?_⟩
   exact ⟨false, rfl, ⟨fun h => (by cases h), fun h => by subst h; exfalso; omega⟩, K0⟩
 ·rw [h13]
  have p22 : ¬ (x.why = y.why) := of_beq_f h13
  refine og 14 [(4, (Value.bool false))] 20 ?_
  refine od ?_
  refine q_ret (by kernel_rfl) ?_
  refine ⟨(Value.bool false), retv_tmp rfl rfl, ?_⟩
  exact ⟨false, rfl, ⟨fun h => (by cases h), fun h => by subst h; exfalso; omega⟩, K0⟩
end Go.Proofs.Ytlnidnadpdpciaa
namespace Go.Proofs.Ytlnidnadpdpciaa
open Go.Q Go.RowKit

theorem Group_calls (w : World) (o : Opm)  : Calls Try.prog 25 ⟨[(agg [(i64 o.kind), (Value.string (str o.frm)), (Value.string (str o.to)), (i64 o.amount), (Value.string (str o.key)), (i64 o.slot), (i64 o.shard)])]⟩ w (fun e w' => e = .returned (i64 (groupI o.kind)) ∧ Keeps none_ w w') := by
 have K0 : Keeps none_ w w := Keeps.refl w
 refine q_calls Try.func25 (by kernel_rfl) (by kernel_rfl) ?_
 refine qs ?_
 refine qg ?_
 refine Ops.new (o := rowL [(i64 o.kind), (Value.string (str o.frm)), (Value.string (str o.to)), (i64 o.amount), (Value.string (str o.key)), (i64 o.slot), (i64 o.shard)] 23) (V := fun b => (ptr b)) (by kernel_rfl) (d := (some 1)) (by kernel_rfl) (fun b => rfl) (fun b1 w2 hb3 H4 K5 hs6 => ?_)
 have nb1 : w.heap.size ≤ b1 := by have := K0.size; omega
 replace K0 := K0.t0 K5
 clear K5 hs6
 refine og 1 [(1, (ptr b1)), (2, (i64 0))] 2 ?_
 refine od ?_
 refine qs ?_
 refine qs ?_
 refine qg ?_
 refine og 1 [(1, (ptr b1)), (2, (i64 0)), (3, (ptr b1))] 1 ?_
 refine Ops.go (v := (i64 o.kind)) (by kernel_rfl) (Runs.load (t := 3) (a := ⟨b1, 0, none⟩) (by kernel_rfl) (H4.loads (by kernel_rfl))) (d := (some 4)) (by kernel_rfl) rfl ?_
 refine og 2 [(1, (ptr b1)), (2, (i64 0)), (6, (Value.bool (o.kind == 6)))] 4 ?_
 refine Ops.split (o.kind == 6) (fun h7 => ?_) (fun h7 => ?_)
 ·rw [h7]
  have p8 : o.kind = 6 := of_beq_t h7
  refine og 4 [(2, (i64 0)), (10, (Value.bool true))] 8 ?_
  refine od ?_
  refine q_then (o := .tmp 10) (by kernel_rfl) rfl ?_
  refine qs ?_
  refine qg ?_
  refine og 1 [(2, (i64 0))] 1 ?_
  refine od ?_
  refine q_ret (by kernel_rfl) ?_
  refine ⟨(i64 0), retv_tmp rfl rfl, ?_⟩
  exact ⟨by unfold groupI; first | (rw [if_pos (by omega)]; done) | (rw [if_neg (by omega)]; done), K0⟩
 ·rw [h7]
  have p9 : ¬ (o.kind = 6) := of_beq_f h7
  refine og 1 [(2, (i64 0)), (6, (Value.bool false)), (7, (ptr b1))] 5 ?_
  refine Ops.go (v := (i64 o.kind)) (by kernel_rfl) (Runs.load (t := 3) (a := ⟨b1, 0, none⟩) (by kernel_rfl) (H4.loads (by kernel_rfl))) (d := (some 8)) (by kernel_rfl) rfl ?_
  refine og 2 [(2, (i64 0)), (10, (Value.bool (o.kind == 7)))] 8 ?_
  refine od ?_
  refine q_cond (o := .tmp 10) (b := (o.kind == 7)) (by kernel_rfl) rfl (fun h10 => ?_) (fun h10 => ?_)
  ·rw [h10]
   have p11 : o.kind = 7 := of_beq_t h10
   refine qs ?_
   refine qg ?_
   refine og 1 [(2, (i64 0))] 1 ?_
   refine od ?_
   refine q_ret (by kernel_rfl) ?_
   refine ⟨(i64 0), retv_tmp rfl rfl, ?_⟩
   exact ⟨by unfold groupI; first | (rw [if_pos (by omega)]; done) | (rw [if_neg (by omega)]; done), K0⟩
  ·rw [h10]
   have p12 : ¬ (o.kind = 7) := of_beq_f h10
   refine q_skip (by kernel_rfl) ?_
   refine qs ?_
   refine qg ?_
   refine og 1 [(2, (i64 (-1)))] 1 ?_
   refine od ?_
   refine q_ret (by kernel_rfl) ?_
   refine ⟨(i64 (-1)), retv_tmp rfl rfl, ?_⟩
   exact ⟨by unfold groupI; first | (rw [if_pos (by omega)]; done) | (rw [if_neg (by omega)]; done), K0⟩

theorem known_calls (w : World)   : Calls Try.prog 9 ⟨[]⟩ w (fun e w' => e = .returned (.bool true) ∧ Keeps none_ w w') := by
 have K0 : Keeps none_ w w := Keeps.refl w
 refine q_calls Try.func9 (by kernel_rfl) (by kernel_rfl) ?_
 refine qs ?_
 refine qg ?_
 refine og 1 [(0, (Value.bool false))] 1 ?_
 refine od ?_
 refine qs ?_
 refine qg ?_
 refine og 2 [(0, (Value.bool false)), (5, (agg [(i64 3), (i64 3), (i64 0), (i64 0), (Value.string ByteArray.empty), (Value.string ByteArray.empty), (i64 0), (Value.string ByteArray.empty), (i64 0), (i64 0), (i64 42), (i64 0), (Value.slice none 0 0), (Value.slice none 0 0)]))] 2 ?_
 refine Ops.call (by kernel_rfl) (d := (some 6)) (by kernel_rfl) (Pack_calls _ (⟨3, 3, 0, ⟨0, [], [], 0, [], 0, 0⟩, ⟨42, 0, []⟩, []⟩ : LetP) none 0 none 0 ⟨by decide, by decide, by decide, ⟨by decide, by decide, by decide, by decide⟩, ⟨by decide, by decide, fun r hr => by cases hr⟩⟩ (Rd.nil _ _) (Rd.nil _ _)) ?_
 rintro _ w2 ⟨v1, rfl, K3, hO4⟩
 have O5 := own_base hO4 K0.size
 refine ⟨_, _, rfl, rfl, ?_⟩
 replace K0 := K0.t0 K3
 clear K3
 refine og 5 [(0, (Value.bool false)), (1, v1), (2, (i64 ((packB (⟨3, 3, 0, ⟨0, [], [], 0, [], 0, 0⟩, ⟨42, 0, []⟩, []⟩ : LetP)).2)))] 8 ?_
 refine od ?_
 refine qs ?_
 refine qg ?_
 refine og 3 [(0, (Value.bool false)), (1, v1), (11, (Value.bool (((packB (⟨3, 3, 0, ⟨0, [], [], 0, [], 0, 0⟩, ⟨42, 0, []⟩, []⟩ : LetP)).2) == 0)))] 3 ?_
 have h6 : (((packB (⟨3, 3, 0, ⟨0, [], [], 0, [], 0, 0⟩, ⟨42, 0, []⟩, []⟩ : LetP)).2) == 0) = true := by first | kernel_rfl | decide +kernel
 rw [h6]
 refine og 1 [(0, (Value.bool false)), (11, (Value.bool true)), (12, v1)] 4 ?_
 refine Ops.go (v := (Value.string (str ((packB (⟨3, 3, 0, ⟨0, [], [], 0, [], 0, 0⟩, ⟨42, 0, []⟩, []⟩ : LetP)).1)))) (by kernel_rfl) (Runs.b2s (s := 28) (d := 9) (e := 5) (by kernel_rfl) (by kernel_rfl) (by kernel_rfl) (OwnB.rd O5)) (d := (some 13)) (by kernel_rfl) rfl ?_
 refine Ops.go (v := (Value.bool (((packB (⟨3, 3, 0, ⟨0, [], [], 0, [], 0, 0⟩, ⟨42, 0, []⟩, []⟩ : LetP)).1) == [6, 6, 84, 0, 0]))) (by kernel_rfl) (Runs.streq (t := 9) (by kernel_rfl)) (d := (some 14)) (by kernel_rfl) rfl ?_
 refine og 2 [(0, (Value.bool false)), (16, (Value.bool (((packB (⟨3, 3, 0, ⟨0, [], [], 0, [], 0, 0⟩, ⟨42, 0, []⟩, []⟩ : LetP)).1) == [6, 6, 84, 0, 0])))] 8 ?_
 have h7 : (((packB (⟨3, 3, 0, ⟨0, [], [], 0, [], 0, 0⟩, ⟨42, 0, []⟩, []⟩ : LetP)).1) == [6, 6, 84, 0, 0]) = true := by first | kernel_rfl | decide +kernel
 rw [h7]
 refine og 1 [(0, (Value.bool false)), (16, (Value.bool true)), (17, (agg [(i64 4), (Value.string ByteArray.empty), (Value.string ByteArray.empty), (i64 0), (Value.string ByteArray.empty), (i64 0), (i64 0)]))] 9 ?_
 refine Ops.call (by kernel_rfl) (d := (some 18)) (by kernel_rfl) (Group_calls _ (⟨4, [], [], 0, [], 0, 0⟩ : Opm)) ?_
 rintro _ w9 ⟨rfl, K8⟩
 refine ⟨_, _, rfl, rfl, ?_⟩
 replace K0 := K0.t0 K8
 replace O5 := own_keep0 O5 K8
 clear K8
 refine og 3 [(0, (Value.bool false)), (21, (Value.bool ((groupI 4) == (-1))))] 13 ?_
 have h10 : ((groupI 4) == (-1)) = true := by first | kernel_rfl | decide +kernel
 rw [h10]
 refine og 1 [(0, (Value.bool false)), (21, (Value.bool true)), (22, (agg [(i64 6), (Value.string ByteArray.empty), (Value.string ByteArray.empty), (i64 0), (Value.string ByteArray.empty), (i64 0), (i64 0)]))] 14 ?_
 refine Ops.call (by kernel_rfl) (d := (some 23)) (by kernel_rfl) (Group_calls _ (⟨6, [], [], 0, [], 0, 0⟩ : Opm)) ?_
 rintro _ w12 ⟨rfl, K11⟩
 refine ⟨_, _, rfl, rfl, ?_⟩
 replace K0 := K0.t0 K11
 replace O5 := own_keep0 O5 K11
 clear K11
 refine og 3 [(0, (Value.bool ((groupI 6) == 0)))] 18 ?_
 refine od ?_
 refine q_ret (by kernel_rfl) ?_
 refine ⟨(Value.bool ((groupI 6) == 0)), retv_tmp rfl rfl, ?_⟩
 exact ⟨by first | rfl | kernel_rfl, K0⟩

end Go.Proofs.Ytlnidnadpdpciaa
namespace Go.Q
open Go.RowKit

def Rdr.nth : Nat → Rdr → Rdr
  | 0, r => r
  | n + 1, r => (Rdr.nth n r).int.2
def Rdr.ents : Nat → Rdr → List (Int × List UInt8) × Rdr
  | 0, r => ([], r)
  | n + 1, r => if r.why ≠ 0 then ([], r) else ((r.int.1, r.int.2.bytes.1) :: (Rdr.ents n r.int.2.bytes.2).1, (Rdr.ents n r.int.2.bytes.2).2)
/-- A message without its places. -/
structure MsgC where
  ints : List Int
  ok : Bool
  ents : List (Int × List UInt8)
  data : List UInt8
def MsgP.core (m : MsgP) : MsgC := ⟨m.ints, m.ok, m.entries.map EntP.key, m.data⟩
def MsgC.zero : MsgC := ⟨[0, 0, 0, 0, 0, 0, 0, 0], false, [], []⟩
/-- What stands behind the head, read. -/
def Rdr.mok (r : Rdr) : Bool × Rdr := (Rdr.nth 8 r).bool_
def Rdr.mcnt (r : Rdr) : Nat × Rdr := r.mok.2.sized 4096
def Rdr.ments (r : Rdr) : List (Int × List UInt8) × Rdr := Rdr.ents r.mcnt.1 r.mcnt.2
def Rdr.mdata (r : Rdr) : List UInt8 × Rdr := r.ments.2.bytes
def Rdr.mint (r : Rdr) (i : Nat) : Int := (Rdr.nth i r).int.1
def Rdr.mints (r : Rdr) : List Int := [r.mint 0, r.mint 1, r.mint 2, r.mint 3, r.mint 4, r.mint 5, r.mint 6, r.mint 7]
def Rdr.mfit (r : Rdr) : Prop := (1 ≤ r.mint 0 ∧ r.mint 0 ≤ 6) ∧ (0 ≤ r.mint 1 ∧ r.mint 1 ≤ 3) ∧ (0 ≤ r.mint 2 ∧ r.mint 2 ≤ 4) ∧ (0 ≤ r.mint 3 ∧ r.mint 3 ≤ 4)
instance (r : Rdr) : Decidable r.mfit := by unfold Rdr.mfit; infer_instance
/-- What bytes are as a message, and the error. -/
def unmsgB (bs : List UInt8) : MsgC × Int :=
  if 1048576 < bs.length then (MsgC.zero, 3)
  else if (⟨bs, 0, 0⟩ : Rdr).mdata.2.end_ ≠ 0 then (MsgC.zero, (⟨bs, 0, 0⟩ : Rdr).mdata.2.end_)
  else if (⟨bs, 0, 0⟩ : Rdr).mfit then (⟨(⟨bs, 0, 0⟩ : Rdr).mints, (⟨bs, 0, 0⟩ : Rdr).mok.1, (⟨bs, 0, 0⟩ : Rdr).ments.1, (⟨bs, 0, 0⟩ : Rdr).mdata.1⟩, 0)
  else (MsgC.zero, 1)
/-! ### entries whose bytes are one's own -/
/-- The entries' bytes are one's own, each in a block from base on, and not the block of v. -/
def EntsMine (e : Nat) (w : World) (base : Nat) (v : Value) (l : List EntP) : Prop := ∀ x ∈ l, OwnB w base e (.slice x.A x.cmd.length x.c) x.cmd ∧ ∀ g o s, x.A = some ⟨g, o, s⟩ → base ≤ g ∧ g < w.heap.size ∧ v.ownBlock ≠ some g
theorem EntsMine.ins {e : Nat} {w : World} {base : Nat} {v : Value} {l : List EntP} (h : EntsMine e w base v l) : EntsIn w l := fun x hx => OwnB.rd (h x hx).1
theorem EntsMine.keep {e : Nat} {S : Nat → Prop} {w w' : World} {base : Nat} {v : Value} {l : List EntP} (h : EntsMine e w base v l) (K : Keeps S w w') (hS : ∀ i, base ≤ i → v.ownBlock ≠ some i → ¬ S i) : EntsMine e w' base v l := by
  intro x hx
  obtain ⟨h1, h2⟩ := h x hx
  refine ⟨own_keep h1 K fun b hb => ?_, fun g o s hg => ?_⟩
  · cases hA : x.A with
    | none => rw [hA] at hb; cases hb
    | some a =>
      rw [hA] at hb
      simp only [Value.ownBlock, Option.some.injEq] at hb
      obtain ⟨q1, _, q3⟩ := h2 a.block a.off a.spot hA
      exact hS b (by omega) (hb ▸ q3)
  · obtain ⟨q1, q2, q3⟩ := h2 g o s hg
    exact ⟨q1, Nat.lt_of_lt_of_le q2 K.size, q3⟩
theorem EntsMine.grow {e : Nat} {w : World} {base m : Nat} {v v' : Value} {l : List EntP} (h : EntsMine e w base v l) (hg : ∀ i, v'.ownBlock = some i → v.ownBlock = some i ∨ m ≤ i) (hm : ∀ x ∈ l, ∀ g o s, x.A = some ⟨g, o, s⟩ → g < m) : EntsMine e w base v' l := by
  intro x hx
  obtain ⟨h1, h2⟩ := h x hx
  refine ⟨h1, fun g o s hA => ?_⟩
  obtain ⟨q1, q2, q3⟩ := h2 g o s hA
  refine ⟨q1, q2, fun hv => ?_⟩
  rcases hg g hv with h | h
  · exact q3 h
  · have := hm x hx g o s hA; omega
theorem EntsMine.lt {e : Nat} {w : World} {base : Nat} {v : Value} {l : List EntP} (h : EntsMine e w base v l) : ∀ x ∈ l, ∀ g o s, x.A = some ⟨g, o, s⟩ → g < w.heap.size := fun x hx g o s hA => ((h x hx).2 g o s hA).2.1
theorem EntsMine.snoc {e : Nat} {w : World} {base : Nat} {v : Value} {l : List EntP} {x : EntP} (h : EntsMine e w base v l) (hx : OwnB w base e (.slice x.A x.cmd.length x.c) x.cmd) (ha : ∀ g o s, x.A = some ⟨g, o, s⟩ → base ≤ g ∧ g < w.heap.size ∧ v.ownBlock ≠ some g) : EntsMine e w base v (l ++ [x]) := by
  intro y hy
  rcases List.mem_append.1 hy with hy | hy
  · exact h y hy
  · rw [List.mem_singleton] at hy; subst hy; exact ⟨hx, ha⟩
end Go.Q
namespace Go.Q
open Go.RowKit
section
variable {P : Program} {n : Nat} {os : Array Oper} {K : Loc → World → Prop} {L L1 La : Loc} {L2 L3 Rl : Nat → Loc} {w : World} {i j : Nat} {di dj : Option Tmp} {S : World → Prop} {fuel : Nat} {is : List Nat}
end
end Go.Q
namespace Go.Q
theorem EntsMine.new {e : Nat} {w : World} {base c : Nat} {v : Value} {l : List EntP} (h : EntsMine e w base v l) (hc : w.heap.size ≤ c) : ∀ x ∈ l, ∀ g o s, x.A = some ⟨g, o, s⟩ → g ≠ c := fun x hx g o s hA => by
  have := ((h x hx).2 g o s hA).2.1; omega
theorem EntsMine.own {e : Nat} {w : World} {base : Nat} {v : Value} {l : List EntP} (h : EntsMine e w base v l) : ∀ x ∈ l, ∀ g o s, x.A = some ⟨g, o, s⟩ → v.ownBlock ≠ some g := fun x hx g o s hA => ((h x hx).2 g o s hA).2.2
theorem EntsMine.nil {e : Nat} (w : World) (base : Nat) (v : Value) : EntsMine e w base v [] := fun x hx => by cases hx
/-- One entry more: its bytes are an own row, and the row of entries has grown. -/
theorem EntsMine.add {w' : World} {base e m : Nat} {v v' : Value} {l : List EntP} {x : EntP} (h : EntsMine e w' base v l) (hx : OwnB w' base e (.slice x.A x.cmd.length x.c) x.cmd) (hl : ∀ y ∈ l ++ [x], ∀ g o s, y.A = some ⟨g, o, s⟩ → g < m)
    (hg : ∀ i, v'.ownBlock = some i → v.ownBlock = some i ∨ m ≤ i) (hv : ∀ g o s, x.A = some ⟨g, o, s⟩ → v.ownBlock ≠ some g) : EntsMine e w' base v' (l ++ [x]) := by
  have h1 : EntsMine e w' base v (l ++ [x]) := h.snoc hx fun g o s hA => by
    have hlt := World.ownsRow.lt hx g (by rw [hA]; rfl)
    exact ⟨hlt.1, hlt.2, hv g o s hA⟩
  exact h1.grow hg hl
end Go.Q
namespace Go.Q
theorem EntsOk.add {l : List EntP} {x : EntP} (h : EntsOk l) (hx : -9223372036854775808 ≤ x.term ∧ x.term ≤ 9223372036854775807) : EntsOk (l ++ [x]) := by
  intro y hy
  rcases List.mem_append.1 hy with hy | hy
  · exact h y hy
  · rw [List.mem_singleton] at hy; subst hy; exact hx
end Go.Q
namespace Go.Q
open Go.RowKit

/-- The slice v reads as the entries l; what is read of them stands in blocks of T. -/
structure Ents (w : World) (T : Nat → Prop) (v : Value) (l : List EntP) : Prop where
  rd : RdE w v l
  ins : EntsIn w l
  own : l ≠ [] → ∀ i, v.ownBlock = some i → T i
  inn : ∀ x ∈ l, x.cmd ≠ [] → ∀ i, (Value.slice x.A x.cmd.length x.c).ownBlock = some i → T i
  lt : ∀ i, T i → i < w.heap.size
theorem Rd.keep_nil {w w' : World} {sz : Nat} {v : Value} {xs : List Value} (hsz : 0 < sz) (h : Rd w sz v xs) (h0 : xs = []) : Rd w' sz v xs := by
  obtain ⟨A, n, c, rfl, hl, hc, hm, hx⟩ := h
  subst h0
  have hn : n = 0 := by
    rcases Nat.mul_eq_zero.1 (show n * sz = 0 by simpa using hl.symm) with h | h
    · exact h
    · omega
  exact ⟨A, n, c, rfl, hl, hc, hm, fun h => by omega⟩
theorem Ents.keep {S T : Nat → Prop} {w w' : World} {v : Value} {l : List EntP} (h : Ents w T v l) (K : Keeps S w w') (hS : ∀ i, T i → ¬ S i) : Ents w' T v l where
  rd := by
    by_cases hl : l = []
    · exact Rd.keep_nil (by decide) h.rd (by rw [hl]; rfl)
    · exact Rd.keep (by decide) h.rd K fun b hb => hS b (h.own hl b hb)
  ins x hx := by
    by_cases hl : x.cmd = []
    · exact Rd.keep_nil (by decide) (h.ins x hx) (by rw [hl]; rfl)
    · exact Rd.keep (by decide) (h.ins x hx) K fun b hb => hS b (h.inn x hx hl b hb)
  own := h.own
  inn := h.inn
  lt i hi := Nat.lt_of_lt_of_le (h.lt i hi) K.size
theorem Ents.keep0 {T : Nat → Prop} {w w' : World} {v : Value} {l : List EntP} (h : Ents w T v l) (K : Keeps none_ w w') : Ents w' T v l := h.keep K fun _ _ h => h
theorem Ents.mono {T U : Nat → Prop} {w : World} {v : Value} {l : List EntP} (h : Ents w T v l) (hT : ∀ i, T i → U i) (hU : ∀ i, U i → i < w.heap.size) : Ents w U v l :=
  ⟨h.rd, h.ins, fun hl i hi => hT i (h.own hl i hi), fun x hx hc i hi => hT i (h.inn x hx hc i hi), hU⟩
theorem Ents.nil (w : World) : Ents w none_ (.slice none 0 0) [] := ⟨Rd.nil _ _, fun x hx => (by cases hx), fun h => absurd rfl h, fun x hx => (by cases hx), fun i hi => hi.elim⟩
/-- The block of what is read is one of the world's. -/
theorem Rd.lt {w : World} {sz : Nat} {v : Value} {xs : List Value} (h : Rd w sz v xs) (h0 : xs ≠ []) : ∀ i, v.ownBlock = some i → i < w.heap.size := by
  intro i hi
  obtain ⟨A, n, c, rfl, hl, hc, hm, hx⟩ := h
  have hn : 0 < n := by
    rcases Nat.eq_zero_or_pos n with h | h
    · subst h; exact absurd (List.eq_nil_of_length_eq_zero (by simpa using hl)) h0
    · exact h
  obtain ⟨b, off, rfl, hcell⟩ := hx hn
  have hi : b = i := by simpa [Value.ownBlock] using hi
  subst hi
  obtain ⟨u, hu⟩ : ∃ u, xs[0]? = some u := ⟨xs[0]'(List.length_pos_iff.2 h0), List.getElem?_eq_getElem _⟩
  exact World.block_lt_of_cell? w _ (hcell 0 u hu)
theorem ents_ne {l : List EntP} (h : l ≠ []) : l.flatMap EntP.cells ≠ [] := by
  cases l with
  | nil => exact absurd rfl h
  | cons x l => simp [EntP.cells]
/-- Entries that came in. -/
theorem Ents.given {w : World} {v : Value} {l : List EntP} (h : RdE w v l) (hi : EntsIn w l) : Ents w (fun i => i < w.heap.size) v l :=
  ⟨h, hi, fun hl i hb => Rd.lt h (ents_ne hl) i hb, fun x hx hc i hb => Rd.lt (hi x hx) (by intro q; exact hc (by simpa [bv] using q)) i hb, fun _ h => h⟩
theorem Ents.len {T : Nat → Prop} {w : World} {A : Option Addr} {n c : Nat} {l : List EntP} (h : Ents w T (.slice A n c) l) : l.length = n ∧ n ≤ c ∧ c ≤ maxLen := RdT.len EntP.two (by decide) h.rd
theorem Ents.form {T : Nat → Prop} {w : World} {v : Value} {l : List EntP} (h : Ents w T v l) : ∃ A c, v = .slice A l.length c := RdT.form EntP.two (by decide) h.rd
theorem flat_drop {α : Type} {f : α → List Value} {sz : Nat} (hf : ∀ x, (f x).length = sz) : ∀ (l : List α) (k : Nat), (l.flatMap f).drop (k * sz) = (l.drop k).flatMap f
  | l, 0 => by simp
  | [], k + 1 => by simp
  | x :: l, k + 1 => by
    rw [List.flatMap_cons, List.drop_succ_cons, Nat.add_mul, Nat.one_mul, Nat.add_comm, ← List.drop_drop, show sz = (f x).length from (hf x).symm, List.drop_left, hf x]
    exact flat_drop hf l k
theorem flat_take {α : Type} {f : α → List Value} {sz : Nat} (hf : ∀ x, (f x).length = sz) : ∀ (l : List α) (k : Nat), (l.flatMap f).take (k * sz) = (l.take k).flatMap f
  | l, 0 => by simp
  | [], k + 1 => by simp
  | x :: l, k + 1 => by
    rw [List.flatMap_cons, List.take_succ_cons, List.flatMap_cons, Nat.add_mul, Nat.one_mul, Nat.add_comm, show sz + k * sz = (f x).length + k * sz by rw [hf], List.take_append, List.take_of_length_le (by omega), Nat.add_sub_cancel_left]
    rw [flat_take hf l k]
theorem Ents.cut {T : Nat → Prop} {w : World} {A : Option Addr} {n c : Nat} {l : List EntP} (h : Ents w T (.slice A n c) l) (k e m : Nat) (h1 : k ≤ e) (h2 : e ≤ m) (h3 : m ≤ c) (h4 : e ≤ n) :
    Ents w T (.slice (if m = k then A else Option.map (fun q => Addr.add q (k * 2)) A) (e - k) (m - k)) ((l.drop k).take (e - k)) where
  rd := by
    have := Rd.cut h.rd k e m h1 h2 h3 h4
    rw [flat_drop EntP.two, flat_take EntP.two] at this
    exact this
  ins x hx := h.ins x (List.mem_of_mem_drop (List.mem_of_mem_take hx))
  own hl i hi := by
    have hl0 : l ≠ [] := fun q => by subst q; simp at hl
    cases A with
    | none => simp [Value.ownBlock] at hi
    | some a =>
      refine h.own hl0 i ?_
      split at hi
      · exact hi
      · have ha : (Addr.add a (k * 2)).block = a.block := by unfold Addr.add; split <;> rfl
        simpa [Value.ownBlock, ha] using hi
  inn x hx := h.inn x (List.mem_of_mem_drop (List.mem_of_mem_take hx))
  lt := h.lt
theorem Ents.head {T : Nat → Prop} {w : World} {A : Option Addr} {n c : Nat} {l : List EntP} (h : Ents w T (.slice A n c) l) (e m : Nat) (h2 : e ≤ m) (h3 : m ≤ c) (h4 : e ≤ n) : Ents w T (.slice A e m) (l.take e) := by
  have := h.cut 0 e m (Nat.zero_le _) h2 h3 h4
  rw [List.drop_zero, Nat.sub_zero, Nat.sub_zero] at this
  have hA : (if m = 0 then A else Option.map (fun q => Addr.add q (0 * 2)) A) = A := by cases A <;> simp [Addr.add]
  rwa [hA] at this
theorem append_none {P : Program} {t e ty bytes sz n c : Nat} (E : ElemTy P t e sz bytes) {w : World} {A B : Option Addr} {xs : List Value} (h : Rd w sz (.slice A n n) xs) : (Builtin.append_ #[t, t] ty #[.slice A n n, .slice B 0 c]).run P w = .ok (.slice A n n) w := by
  obtain ⟨i, z, hi, _, hs, _⟩ := E.info
  have hf : ∀ w, (Builtin.firstCells i.size 0 (.slice B 0 c)).run P w = .ok #[] w := by
    intro w
    cases B with
    | none => simp [Builtin.firstCells]
    | some a => simp [Builtin.firstCells, loadCells, loadCellsFrom]
  cases A with
  | none => simp [Builtin.append_, run_underlying E.slice, sizeOf, typeInfo, hi, Builtin.lenOf, hf]
  | some a => simp [Builtin.append_, run_underlying E.slice, sizeOf, typeInfo, hi, Builtin.lenOf, storeCells, hf]
/-- Entries are appended to a slice that has no room. -/
theorem Ents.app {P : Program} {t e ty bytes : Nat} (E : ElemTy P t e 2 bytes) {T U : Nat → Prop} {w : World} {A : Option Addr} {x : Value} {l ys : List EntP} (h : Ents w T (.slice A l.length l.length) l) (hx : Ents w U x ys)
    (hb : (l.length + ys.length) * bytes ≤ 140737488355328) (hl : l.length + ys.length ≤ 140737488355328) :
    ∃ A' c' w', (Builtin.append_ #[t, t] ty #[.slice A l.length l.length, x]).run P w = .ok (.slice A' (l ++ ys).length c') w' ∧ Keeps none_ w w' ∧ Ents w' (fun i => (T i ∨ U i ∨ w.heap.size ≤ i) ∧ i < w'.heap.size) (.slice A' (l ++ ys).length c') (l ++ ys) := by
  have hm : l.length + ys.length ≤ maxLen := by simp only [maxLen]; omega
  rcases Nat.eq_zero_or_pos ys.length with h0 | h0
  · have e0 : ys = [] := List.eq_nil_of_length_eq_zero h0
    subst e0
    obtain ⟨B, d, rfl⟩ := hx.form
    refine ⟨A, l.length, w, ?_, Keeps.refl w, ?_⟩
    · rw [List.append_nil]
      exact append_none E h.rd
    · rw [List.append_nil]
      exact h.mono (fun i hi => ⟨.inl hi, h.lt i hi⟩) fun i hi => hi.2
  · obtain ⟨v', w', hr, ho, hk⟩ := app_clip (ty := ty) E h.rd hx.rd (m := ys.length) (flat_len EntP.two ys) h0 hb hm
    have ho2 : OwnE w' w.heap.size e v' (l ++ ys) := by unfold OwnE OwnT; rw [List.length_append, List.flatMap_append]; exact ho
    obtain ⟨A', c', rfl⟩ := RdT.form EntP.two (by decide) (OwnT.rd ho2)
    refine ⟨A', c', w', hr, hk, ⟨OwnT.rd ho2, fun y hy => ?_, fun _ i hi => ?_, fun y hy hc i hi => ?_, fun i hi => hi.2⟩⟩
    · rcases List.mem_append.1 hy with hy | hy
      · exact (h.keep0 hk).ins y hy
      · exact (hx.keep0 hk).ins y hy
    · have := World.ownsRow.lt ho2 i hi
      exact ⟨.inr (.inr this.1), this.2⟩
    · rcases List.mem_append.1 hy with hy | hy
      · exact ⟨.inl (h.inn y hy hc i hi), Nat.lt_of_lt_of_le (h.lt i (h.inn y hy hc i hi)) hk.size⟩
      · exact ⟨.inr (.inl (hx.inn y hy hc i hi)), Nat.lt_of_lt_of_le (hx.lt i (hx.inn y hy hc i hi)) hk.size⟩
end Go.Q
namespace Go.Q
open Go.RowKit
theorem own_empty2 {w : World} {base e sz b : Nat} {α : Type} {f : α → List Value} (H : Has w b (rowL [] e)) (hb : base ≤ b) : OwnT w base e sz f (.slice (some ⟨b, 0, none⟩) 0 0) [] :=
  ⟨by simp, .inr ⟨b, 0, #[], rfl, hb, H, Nat.le_refl _, Nat.zero_le _, by simp, by simp⟩⟩
end Go.Q
namespace Go.Q
theorem Rd.none_nil2 {w : World} {sz n c : Nat} {xs : List Value} (h : Rd w sz (.slice none n c) xs) : xs = [] := by
  obtain ⟨A, n', c', he, hl, _, _, hx⟩ := h
  injection he with e1 e2 e3
  subst e1; subst e2
  rcases Nat.eq_zero_or_pos n with h0 | h0
  · subst h0; exact List.eq_nil_of_length_eq_zero (by simpa using hl)
  · obtain ⟨b, off, hA, _⟩ := hx h0
    cases hA
end Go.Q
namespace Go.Q
open Go.RowKit
section
variable {P : Program} {t e : TypeId} {T : Nat → Prop} {w : World} {A : Option Addr} {c : Nat} {l : List EntP}
end
theorem Ents.clip {T : Nat → Prop} {w : World} {A : Option Addr} {c : Nat} {l : List EntP} (h : Ents w T (.slice A l.length c) l) : Ents w T (.slice A l.length l.length) l := by
  have hc := h.len
  have := h.head l.length l.length (Nat.le_refl _) (by omega) (Nat.le_refl _)
  rwa [List.take_length] at this
end Go.Q
