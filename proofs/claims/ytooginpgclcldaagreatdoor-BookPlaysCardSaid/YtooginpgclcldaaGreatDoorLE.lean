/- What comes in: texts, operations, rows, answers. -/
import Derived.Test.YtooginpgclcldaaGreatDoorLD
import Derived.ChangeMaps5
set_option linter.unusedVariables false
namespace Go.Q
open Go.ChangeShapes Go.WideShapes Go.ChangeAt Go.RowKit Go.Deep

def fieldOf? (P : Program) (fs : Array Field) (j : Nat) : Option TypeDesc := match fs[j]? with
  | some f => P.underlying f.type
  | none => none

section
variable {H : Type} {enc : TypeId × Value → H} {P : Program} {w : World} {base : Nat} {spare : Nat → Bool} {held : Bool}

theorem trod_cell {e : TypeId} {fs : Array Field} {m : Nat} {cs : List Value} {y : DataW H × List MemPlace} (he : P.underlying e = some (.struct fs)) (hone : oneCellFields P fs = true) (hC : P.cellsOf e = fs.size)
    (h : DataW.trod enc P w base spare held m e cs = some y) {j : Nat} {d : TypeDesc} (hk : fieldOf? P fs j = some d) :
    ∃ v m' t z, cs[j]? = some v ∧ P.underlying t = some d ∧ DataW.trod enc P w base spare held m' t [v] = some z := by
  obtain ⟨xs, m', hm, _, hlen, hxl, hf⟩ := DataW.trod_struct he h
  rw [hC] at hlen
  unfold fieldOf? at hk
  cases hfj : fs[j]? with
  | none => rw [hfj] at hk; cases hk
  | some f =>
    rw [hfj] at hk
    simp only at hk
    have hj : j < fs.size := (Array.getElem?_eq_some_iff.1 hfj).1
    obtain ⟨ho, hc⟩ := hone_of hone j _ hfj
    have h2 := hf j _ hfj
    rw [ho, hc] at h2
    have hone' : (cs.drop j).take 1 = [cs[j]'(by omega)] := by
      rw [List.drop_eq_getElem_cons (by omega)]
      rfl
    rw [hone', List.getElem?_eq_getElem (by omega : j < xs.length)] at h2
    exact ⟨_, _, _, _, List.getElem?_eq_getElem (by omega), hk, h2⟩
theorem cell_i64 {e : TypeId} {fs : Array Field} {m : Nat} {cs : List Value} {y : DataW H × List MemPlace} (he : P.underlying e = some (.struct fs)) (hone : oneCellFields P fs = true) (hC : P.cellsOf e = fs.size)
    (h : DataW.trod enc P w base spare held m e cs = some y) (j : Nat) (hk : fieldOf? P fs j = some (.int .i64)) : ∃ n : Int, cs[j]? = some (i64 n) ∧ -9223372036854775808 ≤ n ∧ n ≤ 9223372036854775807 := by
  obtain ⟨v, m', t, z, hv, ht, hz⟩ := trod_cell he hone hC h hk
  obtain ⟨n, hn, _, hw⟩ := DataW.trod_int ht hz
  simp only [List.cons.injEq, and_true] at hn
  exact ⟨n, by rw [hv, hn], wf_i64 hw⟩
theorem cell_str {e : TypeId} {fs : Array Field} {m : Nat} {cs : List Value} {y : DataW H × List MemPlace} (he : P.underlying e = some (.struct fs)) (hone : oneCellFields P fs = true) (hC : P.cellsOf e = fs.size)
    (h : DataW.trod enc P w base spare held m e cs = some y) (j : Nat) (hk : fieldOf? P fs j = some .string) : ∃ s : List UInt8, cs[j]? = some (.string (str s)) := by
  obtain ⟨v, m', t, z, hv, ht, hz⟩ := trod_cell he hone hC h hk
  obtain ⟨s, hs, _⟩ := DataW.trod_string ht hz
  simp only [List.cons.injEq, and_true] at hs
  exact ⟨s.toList, by rw [hv, hs, str_eta]⟩
theorem cell_bool {e : TypeId} {fs : Array Field} {m : Nat} {cs : List Value} {y : DataW H × List MemPlace} (he : P.underlying e = some (.struct fs)) (hone : oneCellFields P fs = true) (hC : P.cellsOf e = fs.size)
    (h : DataW.trod enc P w base spare held m e cs = some y) (j : Nat) (hk : fieldOf? P fs j = some .bool) : ∃ b : Bool, cs[j]? = some (.bool b) := by
  obtain ⟨v, m', t, z, hv, ht, hz⟩ := trod_cell he hone hC h hk
  obtain ⟨b, hb, _⟩ := DataW.trod_bool ht hz
  simp only [List.cons.injEq, and_true] at hb
  exact ⟨b, by rw [hv, hb]⟩
theorem slice_trod {t e : TypeId} {v : Value} {fuel : Nat} {z : DataW H × List MemPlace} (ht : P.underlying t = some (.slice e)) (h : DataW.trod enc P w base spare held fuel t [v] = some z) : ∃ A n c, v = .slice A n c := by
  rcases open_slice ht h with ⟨hcs, _⟩ | ⟨a, len, cap', m, k, D, Pl, hcs, _⟩
  · simp only [List.cons.injEq, and_true] at hcs
    exact ⟨_, _, _, hcs⟩
  · simp only [List.cons.injEq, and_true] at hcs
    exact ⟨_, _, _, hcs⟩
theorem cell_slice {e el : TypeId} {fs : Array Field} {m : Nat} {cs : List Value} {y : DataW H × List MemPlace} (he : P.underlying e = some (.struct fs)) (hone : oneCellFields P fs = true) (hC : P.cellsOf e = fs.size)
    (h : DataW.trod enc P w base spare held m e cs = some y) (j : Nat) (hk : fieldOf? P fs j = some (.slice el)) :
    ∃ v t m' d ps, cs[j]? = some v ∧ P.underlying t = some (.slice el) ∧ (∃ A n c, v = .slice A n c) ∧ DataW.trod enc P w base spare held m' t [v] = some (d, ps) := by
  obtain ⟨v, m', t, z, hv, ht, hz⟩ := trod_cell he hone hC h hk
  exact ⟨v, t, m', z.1, z.2, hv, ht, slice_trod ht hz, hz⟩
theorem struct_cells {e : TypeId} {fs : Array Field} {v : Value} {d : DataW H} {ps : List MemPlace} (he : P.underlying e = some (.struct fs)) (hC : P.cellsOf e = fs.size) (hv : Value.okWide P w .any 0 e v) (h : DataW.Trod enc P w base spare held e v d ps) :
    ∃ cs m, v = agg cs ∧ cs.length = fs.size ∧ DataW.trod enc P w base spare held m e cs = some (d, ps) := by
  obtain ⟨cs, rfl, hs⟩ := okWide_struct he hv
  obtain ⟨m, hm⟩ := h
  exact ⟨cs.toList, m, rfl, by rw [Array.length_toList, hs, hC], hm⟩

theorem open_str {t : TypeId} {v : Value} {d : DataW H} {ps : List MemPlace} (ht : P.underlying t = some .string) (hv : Value.okWide P w .any 0 t v) (h : DataW.Trod enc P w base spare held t v d ps) : ∃ ss : List UInt8, v = .string (str ss) ∧ d = .lit (.string ss) := by
  obtain ⟨s, rfl⟩ := okWide_string ht hv
  obtain ⟨fuel, hf⟩ := h
  obtain ⟨s', hs, hx, _⟩ := DataW.trod_string ht hf
  simp only [Value.cells, List.cons.injEq, and_true, Value.string.injEq] at hs
  subst hs
  simp only [Prod.mk.injEq] at hx
  exact ⟨s.toList, by rw [str_eta], by rw [hx.1, ByteArray.toList_eq]⟩

/-- An operation that comes in. -/
theorem dec_op {e : TypeId} {fs : Array Field} {m : Nat} {cs : List Value} {y : DataW H × List MemPlace} (he : P.underlying e = some (.struct fs)) (hone : oneCellFields P fs = true) (hC : P.cellsOf e = fs.size) (h7 : fs.size = 7)
    (k0 : fieldOf? P fs 0 = some (.int .i64)) (k1 : fieldOf? P fs 1 = some .string) (k2 : fieldOf? P fs 2 = some .string) (k3 : fieldOf? P fs 3 = some (.int .i64)) (k4 : fieldOf? P fs 4 = some .string) (k5 : fieldOf? P fs 5 = some (.int .i64)) (k6 : fieldOf? P fs 6 = some (.int .i64))
    (hl : cs.length = fs.size) (h : DataW.trod enc P w base spare held m e cs = some y) : ∃ o : Opm, o.Ok ∧ cs = o.cells := by
  rw [h7] at hl
  match cs, hl with
  | [c0, c1, c2, c3, c4, c5, c6], _ =>
    obtain ⟨n0, e0, r0⟩ := cell_i64 he hone hC h 0 k0
    obtain ⟨s1, e1⟩ := cell_str he hone hC h 1 k1
    obtain ⟨s2, e2⟩ := cell_str he hone hC h 2 k2
    obtain ⟨n3, e3, r3⟩ := cell_i64 he hone hC h 3 k3
    obtain ⟨s4, e4⟩ := cell_str he hone hC h 4 k4
    obtain ⟨n5, e5, r5⟩ := cell_i64 he hone hC h 5 k5
    obtain ⟨n6, e6, r6⟩ := cell_i64 he hone hC h 6 k6
    obtain rfl : c0 = _ := Option.some.inj e0
    obtain rfl : c1 = _ := Option.some.inj e1
    obtain rfl : c2 = _ := Option.some.inj e2
    obtain rfl : c3 = _ := Option.some.inj e3
    obtain rfl : c4 = _ := Option.some.inj e4
    obtain rfl : c5 = _ := Option.some.inj e5
    obtain rfl : c6 = _ := Option.some.inj e6
    exact ⟨⟨n0, s1, s2, n3, s4, n5, n6⟩, ⟨r0, r3, r5, r6⟩, rfl⟩
theorem open_op {e : TypeId} {fs : Array Field} {v : Value} {d : DataW H} {ps : List MemPlace} (he : P.underlying e = some (.struct fs)) (hone : oneCellFields P fs = true) (hC : P.cellsOf e = fs.size) (h7 : fs.size = 7)
    (k0 : fieldOf? P fs 0 = some (.int .i64)) (k1 : fieldOf? P fs 1 = some .string) (k2 : fieldOf? P fs 2 = some .string) (k3 : fieldOf? P fs 3 = some (.int .i64)) (k4 : fieldOf? P fs 4 = some .string) (k5 : fieldOf? P fs 5 = some (.int .i64)) (k6 : fieldOf? P fs 6 = some (.int .i64))
    (hv : Value.okWide P w .any 0 e v) (h : DataW.Trod enc P w base spare held e v d ps) : ∃ o : Opm, o.Ok ∧ v = agg o.cells := by
  obtain ⟨cs, m, rfl, hl, h⟩ := struct_cells he hC hv h
  obtain ⟨o, ho, rfl⟩ := dec_op he hone hC h7 k0 k1 k2 k3 k4 k5 k6 hl h
  exact ⟨o, ho, rfl⟩

theorem flat_models {α : Type} {f : α → List Value} {Good : α → Prop} : ∀ {css : List (List Value)}, (∀ cs ∈ css, ∃ x : α, Good x ∧ cs = f x) → ∃ l : List α, css.flatten = l.flatMap f ∧ l.length = css.length ∧ ∀ x ∈ l, Good x
  | [], _ => ⟨[], rfl, rfl, by simp⟩
  | cs :: css, h => by
    obtain ⟨x, hx, rfl⟩ := h cs (by simp)
    obtain ⟨l, hb, hl, hr⟩ := flat_models (css := css) fun c hc => h c (by simp [hc])
    refine ⟨x :: l, by rw [List.flatten_cons, hb, List.flatMap_cons], by simp [hl], fun y hy => ?_⟩
    rcases List.mem_cons.1 hy with rfl | hy
    · exact hx
    · exact hr y hy
/-- A slice of structs that comes in, by its elements' models. -/
theorem open_models {α : Type} (f : α → List Value) (Good : α → Prop) {t e : TypeId} {sz : Nat} {v : Value} {d : DataW H} {ps : List MemPlace} (ht : P.underlying t = some (.slice e)) (hC : P.cellsOf e = sz) (hsz : 0 < sz)
    (hv : ∃ A n c, v = .slice A n c) {fuel : Nat} (h : DataW.trod enc P w base spare held fuel t [v] = some (d, ps))
    (dec : ∀ (m : Nat) (cs : List Value) (y : DataW H × List MemPlace), cs.length = sz → DataW.trod enc P w base spare held m e cs = some y → ∃ x, Good x ∧ cs = f x) :
    ∃ l : List α, RdT w sz f v l ∧ (∀ x ∈ l, Good x) ∧ (l.length = 0 ∨ ∃ el sp, d = .slice el sp ∧ el.length = l.length) ∧ ∃ A c, v = .slice A l.length c := by
  obtain ⟨css, hr, hc, hd, A, c, hA⟩ := open_rows (fun cs => ∃ x, Good x ∧ cs = f x) ht hC hsz hv h dec
  obtain ⟨l, hb, hl, hg⟩ := flat_models fun cs hcs => (hc cs hcs).2
  refine ⟨l, by unfold RdT; rw [← hb]; exact hr, hg, ?_, A, c, by rw [hA, hl]⟩
  rcases hd with rfl | ⟨el, sp, h1, h2⟩
  · exact .inl (by simpa using hl)
  · exact .inr ⟨el, sp, h1, by omega⟩
def RowM.Ok (x : RowM) : Prop := -9223372036854775808 ≤ x.amount ∧ x.amount ≤ 9223372036854775807
theorem dec_row {e : TypeId} {fs : Array Field} {m : Nat} {cs : List Value} {y : DataW H × List MemPlace} (he : P.underlying e = some (.struct fs)) (hone : oneCellFields P fs = true) (hC : P.cellsOf e = fs.size) (h2 : fs.size = 2)
    (k0 : fieldOf? P fs 0 = some .string) (k1 : fieldOf? P fs 1 = some (.int .i64)) (hl : cs.length = 2) (h : DataW.trod enc P w base spare held m e cs = some y) : ∃ x : RowM, x.Ok ∧ cs = x.cells := by
  match cs, hl with
  | [c0, c1], _ =>
    obtain ⟨s0, e0⟩ := cell_str he hone hC h 0 k0
    obtain ⟨n1, e1, r1⟩ := cell_i64 he hone hC h 1 k1
    obtain rfl : c0 = _ := Option.some.inj e0
    obtain rfl : c1 = _ := Option.some.inj e1
    exact ⟨⟨s0, n1⟩, r1, rfl⟩
/-- An answer that comes in. -/
theorem open_reply {e r : TypeId} {fs rs : Array Field} {v : Value} {d : DataW H} {ps : List MemPlace} (he : P.underlying e = some (.struct fs)) (hone : oneCellFields P fs = true) (hC : P.cellsOf e = fs.size) (h3 : fs.size = 3)
    (k0 : fieldOf? P fs 0 = some (.int .i64)) (k1 : fieldOf? P fs 1 = some (.int .i64)) (k2 : fieldOf? P fs 2 = some (.slice r)) (hr : P.underlying r = some (.struct rs)) (hrone : oneCellFields P rs = true) (hrC : P.cellsOf r = rs.size) (hr2 : rs.size = 2)
    (j0 : fieldOf? P rs 0 = some .string) (j1 : fieldOf? P rs 1 = some (.int .i64)) (hv : Value.okWide P w .any 0 e v) (h : DataW.Trod enc P w base spare held e v d ps) :
    ∃ (p : ReplyM) (A : Option Addr) (c : Nat), p.Ok ∧ v = agg [i64 p.why, i64 p.amount, .slice A p.rows.length c] ∧ RdR w (.slice A p.rows.length c) p.rows := by
  obtain ⟨cs, m, rfl, hl, h⟩ := struct_cells he hC hv h
  rw [h3] at hl
  match cs, hl with
  | [c0, c1, c2], _ =>
    obtain ⟨n0, e0, r0⟩ := cell_i64 he hone hC h 0 k0
    obtain ⟨n1, e1, r1⟩ := cell_i64 he hone hC h 1 k1
    obtain ⟨v2, t2, m2, d2, p2, e2, ht2, hf2, htr⟩ := cell_slice he hone hC h 2 k2
    obtain rfl : c0 = _ := Option.some.inj e0
    obtain rfl : c1 = _ := Option.some.inj e1
    obtain rfl : c2 = _ := Option.some.inj e2
    obtain ⟨l, hR, hg, _, A, c, rfl⟩ := open_models RowM.cells RowM.Ok ht2 (by rw [hrC, hr2]) (by decide) hf2 htr fun m cs y hl h => dec_row hr hrone hrC hr2 j0 j1 hl h
    exact ⟨⟨n0, n1, l⟩, A, c, ⟨r0, r1, hg⟩, rfl, hR⟩
end
end Go.Q
