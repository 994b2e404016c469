/- What comes in, with its bulk. -/
import Derived.Test.YtooginpgclcldaaDoorLF
set_option linter.unusedVariables false
namespace Go.Q
open Go.ChangeShapes Go.WideShapes Go.ChangeAt Go.RowKit Go.Deep

/-- A measure of what is read: at least its letters, its elements, its parts. -/
structure Bulk {H : Type} (B : DataW H → Nat) : Prop where
  str : ∀ s, s.length ≤ B (.lit (.string s))
  agg : ∀ ps z, z ∈ ps → B z ≤ B (.agg ps)
  el : ∀ es sp z, z ∈ es → B z ≤ B (.slice es sp)
  len : ∀ es sp, es.length ≤ B (.slice es sp)

section
variable {H : Type} {enc : TypeId × Value → H} {P : Program} {w : World} {base : Nat} {spare : Nat → Bool} {held : Bool} {B : DataW H → Nat}

theorem bytes_bulk (hB : Bulk B) {d : DataW H} {n : Nat} (h : n = 0 ∨ ∃ el sp, d = .slice el sp ∧ el.length = n) : n ≤ B d := by
  rcases h with rfl | ⟨el, sp, rfl, rfl⟩
  · exact Nat.zero_le _
  · exact hB.len el sp
theorem cell_bulk {e : TypeId} {fs : Array Field} {m : Nat} {cs : List Value} {y : DataW H × List MemPlace} (hB : Bulk B) (he : P.underlying e = some (.struct fs)) (hone : oneCellFields P fs = true) (hC : P.cellsOf e = fs.size)
    (h : DataW.trod enc P w base spare held m e cs = some y) {j : Nat} {d : TypeDesc} (hk : fieldOf? P fs j = some d) :
    ∃ v m' t z, cs[j]? = some v ∧ P.underlying t = some d ∧ DataW.trod enc P w base spare held m' t [v] = some z ∧ B z.1 ≤ B y.1 := by
  obtain ⟨xs, m', hm, hy, hlen, hxl, hf⟩ := DataW.trod_struct he h
  rw [hC] at hlen
  unfold fieldOf? at hk
  cases hfj : fs[j]? with
  | none => rw [hfj] at hk; cases hk
  | some f =>
    rw [hfj] at hk
    simp only at hk
    have hj : j < fs.size := (Array.getElem?_eq_some_iff.1 hfj).1
    obtain ⟨ho, hc⟩ := hone_of hone j _ hfj
    have h2 := hf j _ hfj
    rw [ho, hc] at h2
    have hone' : (cs.drop j).take 1 = [cs[j]'(by omega)] := by
      rw [List.drop_eq_getElem_cons (by omega)]
      rfl
    rw [hone', List.getElem?_eq_getElem (by omega : j < xs.length)] at h2
    refine ⟨_, _, _, _, List.getElem?_eq_getElem (by omega), hk, h2, ?_⟩
    rw [hy]
    exact hB.agg _ _ (List.mem_map.2 ⟨xs[j], List.getElem_mem _, rfl⟩)
theorem str_bulk {e : TypeId} {fs : Array Field} {m : Nat} {cs : List Value} {y : DataW H × List MemPlace} (hB : Bulk B) (he : P.underlying e = some (.struct fs)) (hone : oneCellFields P fs = true) (hC : P.cellsOf e = fs.size)
    (h : DataW.trod enc P w base spare held m e cs = some y) (j : Nat) (hk : fieldOf? P fs j = some .string) {s : List UInt8} (hs : cs[j]? = some (.string (str s))) : s.length ≤ B y.1 := by
  obtain ⟨v, m', t, z, hv, ht, hz, hb⟩ := cell_bulk hB he hone hC h hk
  obtain ⟨s', hs', hx, _⟩ := DataW.trod_string ht hz
  simp only [List.cons.injEq, and_true] at hs'
  rw [hs, hs'] at hv
  have e1 : s'.data.toList = s := by
    have := Option.some.inj hv
    injection this with this
    rw [← this]; rfl
  rw [hx, e1] at hb
  exact Nat.le_trans (hB.str s) hb
theorem slice_bulk {e el : TypeId} {fs : Array Field} {m : Nat} {cs : List Value} {y : DataW H × List MemPlace} (hB : Bulk B) (he : P.underlying e = some (.struct fs)) (hone : oneCellFields P fs = true) (hC : P.cellsOf e = fs.size)
    (h : DataW.trod enc P w base spare held m e cs = some y) (j : Nat) (hk : fieldOf? P fs j = some (.slice el)) :
    ∃ v t m' d ps, cs[j]? = some v ∧ P.underlying t = some (.slice el) ∧ (∃ A n c, v = .slice A n c) ∧ DataW.trod enc P w base spare held m' t [v] = some (d, ps) ∧ B d ≤ B y.1 := by
  obtain ⟨v, m', t, z, hv, ht, hz, hb⟩ := cell_bulk hB he hone hC h hk
  exact ⟨v, t, m', z.1, z.2, hv, ht, slice_trod ht hz, hz, hb⟩
/-- An operation that comes in, with its bulk. -/
theorem open_opB (hB : Bulk B) {e : TypeId} {fs : Array Field} {v : Value} {d : DataW H} {ps : List MemPlace} (he : P.underlying e = some (.struct fs)) (hone : oneCellFields P fs = true) (hC : P.cellsOf e = fs.size) (h7 : fs.size = 7)
    (k0 : fieldOf? P fs 0 = some (.int .i64)) (k1 : fieldOf? P fs 1 = some .string) (k2 : fieldOf? P fs 2 = some .string) (k3 : fieldOf? P fs 3 = some (.int .i64)) (k4 : fieldOf? P fs 4 = some .string) (k5 : fieldOf? P fs 5 = some (.int .i64)) (k6 : fieldOf? P fs 6 = some (.int .i64))
    (hv : Value.okWide P w .any 0 e v) (h : DataW.Trod enc P w base spare held e v d ps) : ∃ o : Opm, o.Ok ∧ v = agg o.cells ∧ o.frm.length ≤ B d ∧ o.to.length ≤ B d ∧ o.key.length ≤ B d := by
  obtain ⟨cs, m, rfl, hl, h⟩ := struct_cells he hC hv h
  obtain ⟨o, ho, rfl⟩ := dec_op he hone hC h7 k0 k1 k2 k3 k4 k5 k6 hl h
  exact ⟨o, ho, rfl, str_bulk hB he hone hC h 1 k1 rfl, str_bulk hB he hone hC h 2 k2 rfl, str_bulk hB he hone hC h 4 k4 rfl⟩

theorem open_rows_b (hB : Bulk B) {t e : TypeId} {sz : Nat} {v : Value} {d : DataW H} {ps : List MemPlace} (R : List Value → DataW H → Prop) (ht : P.underlying t = some (.slice e)) (hC : P.cellsOf e = sz) (hsz : 0 < sz)
    {fuel : Nat} (h : DataW.trod enc P w base spare held fuel t [v] = some (d, ps))
    (dec : ∀ (m : Nat) (cs : List Value) (y : DataW H × List MemPlace), cs.length = sz → DataW.trod enc P w base spare held m e cs = some y → R cs y.1) :
    ∃ css : List (List Value), Rd w sz v css.flatten ∧ (∀ cs ∈ css, ∃ z, R cs z ∧ B z ≤ B d) ∧ css.length ≤ B d ∧ ∃ A c, v = .slice A css.length c := by
  have hv := slice_trod ht h
  rcases open_slice ht h with ⟨hcs, hx⟩ | ⟨a, len, cap', m, k, D, Pl, hcs, hb, hl, hm, hmm, hxx, hi⟩
  · simp only [List.cons.injEq, and_true] at hcs
    subst hcs
    exact ⟨[], Rd.nil w sz, by simp, Nat.zero_le _, none, 0, rfl⟩
  · have hd : d = .slice ((List.range len).map D) ((List.range (m - len)).map fun j => D (len + j)) := by
      simp only [Prod.mk.injEq] at hxx; exact hxx.1
    have hlm : len ≤ m := by rw [hmm]; split <;> omega
    -- each element's cells are read as one of the data
    obtain ⟨css, hr, hc, hdd, A, c, hA⟩ := open_rows (fun cs => ∃ z, R cs z) ht hC hsz hv h fun m cs y hl htr => ⟨y.1, dec m cs y hl htr⟩
    -- the same rows, told with their places
    have hn : css.length = len := by
      simp only [List.cons.injEq, and_true] at hcs
      rw [hA] at hcs
      injection hcs with _ h2 _
    have hat : ∀ i, i < len → ∃ cs z, css[i]? = some cs ∧ R cs z ∧ B z ≤ B d := by
      intro i hin
      obtain ⟨cs', hc', htr⟩ := hi i (by omega)
      rw [hC] at hc'
      obtain ⟨_, hlen, hcell⟩ := World.cells?_some hc'
      have hci : i < css.length := by omega
      refine ⟨css[i], D i, List.getElem?_eq_getElem hci, ?_, ?_⟩
      · have hcl := (hc css[i] (List.getElem_mem hci)).1
        have heq : css[i] = cs' := by
          apply List.ext_getElem?
          intro j
          rcases Nat.lt_or_ge j sz with hj | hj
          · have h1 : css[i][j]? = some (css[i][j]'(by omega)) := List.getElem?_eq_getElem (by omega)
            have h2 : cs'[j]? = some (cs'[j]'(by omega)) := List.getElem?_eq_getElem (by omega)
            have hfl : (css.flatten)[i * sz + j]? = css[i][j]? := by
              have e1 : css.flatten = css.flatMap id := by simp [List.flatMap]
              have hall : ∀ l : List (List Value), (∀ x ∈ l, x.length = sz) → ∀ (k : Nat) (x : List Value), l[k]? = some x → ∀ q, q < sz → l.flatten[k * sz + q]? = x[q]? := by
                intro l
                induction l with
                | nil => intro _ k x hx; simp at hx
                | cons y l ih =>
                  intro hy k x hx q hq
                  have hyl := hy y (by simp)
                  cases k with
                  | zero =>
                    simp only [List.getElem?_cons_zero, Option.some.injEq] at hx
                    subst hx
                    rw [List.flatten_cons, Nat.zero_mul, Nat.zero_add, List.getElem?_append_left (by omega)]
                  | succ k =>
                    simp only [List.getElem?_cons_succ] at hx
                    rw [List.flatten_cons, List.getElem?_append_right (by rw [hyl, Nat.add_mul]; omega), hyl, show (k + 1) * sz + q - sz = k * sz + q from by rw [Nat.add_mul]; omega]
                    exact ih (fun z hz => hy z (by simp [hz])) k x hx q hq
              exact hall css (fun x hx => (hc x hx).1) i _ (List.getElem?_eq_getElem hci) j hj
            obtain ⟨bk, off, hAA⟩ := Rd.addr (hA ▸ hr : Rd w sz (.slice A css.length c) css.flatten) (by omega)
            have hw1 := Rd.cell (hA ▸ hr : Rd w sz (.slice A css.length c) css.flatten) hAA (hfl.trans h1)
            have hw2 := hcell j hj
            have ha : a = ⟨bk, off, none⟩ := by
              simp only [List.cons.injEq, and_true] at hcs
              rw [hA] at hcs
              injection hcs with h1 _ _
              rw [hAA] at h1
              exact (Option.some.inj h1).symm
            rw [ha, add_plain, add_plain, Nat.add_assoc, hw1, h2] at hw2
            rw [h1, h2]
            exact hw2
          · rw [List.getElem?_eq_none (by omega), List.getElem?_eq_none (by omega)]
        rw [heq]
        exact dec _ cs' _ hlen htr
      · rw [hd]
        exact hB.el _ _ _ (List.mem_map.2 ⟨i, List.mem_range.2 hin, rfl⟩)
    refine ⟨css, hr, fun cs hcs => ?_, ?_, A, c, hA⟩
    · obtain ⟨i, hi1, hi2⟩ := List.getElem_of_mem hcs
      obtain ⟨cs2, z, h1, h2, h3⟩ := hat i (by omega)
      rw [List.getElem?_eq_getElem hi1, hi2] at h1
      have := Option.some.inj h1
      subst this
      exact ⟨z, h2, h3⟩
    · rw [hn, hd]
      have := hB.len ((List.range len).map D) ((List.range (m - len)).map fun j => D (len + j))
      simpa using this
theorem open_modelsB (hB : Bulk B) {α : Type} (f : α → List Value) (Good : α → Prop) (size : α → Nat) {t e : TypeId} {sz : Nat} {v : Value} {d : DataW H} {ps : List MemPlace} (ht : P.underlying t = some (.slice e)) (hC : P.cellsOf e = sz) (hsz : 0 < sz)
    {fuel : Nat} (h : DataW.trod enc P w base spare held fuel t [v] = some (d, ps))
    (dec : ∀ (m : Nat) (cs : List Value) (y : DataW H × List MemPlace), cs.length = sz → DataW.trod enc P w base spare held m e cs = some y → ∃ x, (Good x ∧ size x ≤ B y.1) ∧ cs = f x) :
    ∃ l : List α, RdT w sz f v l ∧ (∀ x ∈ l, Good x ∧ size x ≤ B d) ∧ l.length ≤ B d ∧ ∃ A c, v = .slice A l.length c := by
  obtain ⟨css, hr, hc, hd, A, c, hA⟩ := open_rows_b hB (fun cs z => ∃ x, (Good x ∧ size x ≤ B z) ∧ cs = f x) ht hC hsz h dec
  obtain ⟨l, hb, hl, hg⟩ := flat_models (f := f) (Good := fun x => Good x ∧ size x ≤ B d) (css := css) fun cs hcs => by
    obtain ⟨z, ⟨x, ⟨h1, h2⟩, h3⟩, h4⟩ := hc cs hcs
    exact ⟨x, ⟨h1, Nat.le_trans h2 h4⟩, h3⟩
  exact ⟨l, by unfold RdT; rw [← hb]; exact hr, hg, by omega, A, c, by rw [hA, hl]⟩
theorem open_replyB (hB : Bulk B) {e r : TypeId} {fs rs : Array Field} {v : Value} {d : DataW H} {ps : List MemPlace} (he : P.underlying e = some (.struct fs)) (hone : oneCellFields P fs = true) (hC : P.cellsOf e = fs.size) (h3 : fs.size = 3)
    (k0 : fieldOf? P fs 0 = some (.int .i64)) (k1 : fieldOf? P fs 1 = some (.int .i64)) (k2 : fieldOf? P fs 2 = some (.slice r)) (hr : P.underlying r = some (.struct rs)) (hrone : oneCellFields P rs = true) (hrC : P.cellsOf r = rs.size) (hr2 : rs.size = 2)
    (j0 : fieldOf? P rs 0 = some .string) (j1 : fieldOf? P rs 1 = some (.int .i64)) (hv : Value.okWide P w .any 0 e v) (h : DataW.Trod enc P w base spare held e v d ps) :
    ∃ (p : ReplyM) (A : Option Addr) (c : Nat), p.Ok ∧ v = agg [i64 p.why, i64 p.amount, .slice A p.rows.length c] ∧ RdR w (.slice A p.rows.length c) p.rows ∧ p.rows.length ≤ B d ∧ ∀ x ∈ p.rows, x.name.length ≤ B d := by
  obtain ⟨cs, m, rfl, hl, h⟩ := struct_cells he hC hv h
  rw [h3] at hl
  match cs, hl with
  | [c0, c1, c2], _ =>
    obtain ⟨n0, e0, r0⟩ := cell_i64 he hone hC h 0 k0
    obtain ⟨n1, e1, r1⟩ := cell_i64 he hone hC h 1 k1
    obtain ⟨v2, t2, m2, d2, p2, e2, ht2, hf2, htr, hb2⟩ := slice_bulk hB he hone hC h 2 k2
    obtain rfl : c0 = _ := Option.some.inj e0
    obtain rfl : c1 = _ := Option.some.inj e1
    obtain rfl : c2 = _ := Option.some.inj e2
    obtain ⟨l, hR, hg, hn, A, c, rfl⟩ := open_modelsB hB RowM.cells RowM.Ok (fun x => x.name.length) ht2 (by rw [hrC, hr2]) (by decide) htr fun m cs y hl h => by
      obtain ⟨x, hx, rfl⟩ := dec_row hr hrone hrC hr2 j0 j1 hl h
      exact ⟨x, ⟨hx, str_bulk hB hr hrone hrC h 0 j0 rfl⟩, rfl⟩
    exact ⟨⟨n0, n1, l⟩, A, c, ⟨r0, r1, fun x hx => (hg x hx).1⟩, rfl, hR, Nat.le_trans hn hb2, fun x hx => Nat.le_trans (hg x hx).2 hb2⟩
def i64s (P : Program) (fs : Array Field) : Nat → Bool
  | 0 => true
  | j + 1 => (match fieldOf? P fs j with | some (.int .i64) => true | _ => false) && i64s P fs j
theorem i64s_at {P : Program} {fs : Array Field} : ∀ {n j : Nat}, i64s P fs n = true → j < n → fieldOf? P fs j = some (.int .i64)
  | n + 1, j, h, hj => by
    simp only [i64s, Bool.and_eq_true] at h
    rcases Nat.lt_or_ge j n with h1 | h1
    · exact i64s_at h.2 h1
    · obtain rfl : j = n := by omega
      have h3 := h.1
      split at h3
      · assumption
      · cases h3
theorem open_msgB (hB : Bulk B) {e r b : TypeId} {fs rs : Array Field} {v : Value} {d : DataW H} {ps : List MemPlace} (he : P.underlying e = some (.struct fs)) (hone : oneCellFields P fs = true) (hC : P.cellsOf e = fs.size) (h11 : fs.size = 11)
    (hi : i64s P fs 8 = true) (k8 : fieldOf? P fs 8 = some .bool) (k9 : fieldOf? P fs 9 = some (.slice r)) (k10 : fieldOf? P fs 10 = some (.slice b))
    (hr : P.underlying r = some (.struct rs)) (hrone : oneCellFields P rs = true) (hrC : P.cellsOf r = rs.size) (hr2 : rs.size = 2) (j0 : fieldOf? P rs 0 = some (.int .i64)) (j1 : fieldOf? P rs 1 = some (.slice b)) (hb : P.underlying b = some (.int .u8)) (hbC : P.cellsOf b = 1)
    (hv : Value.okWide P w .any 0 e v) (h : DataW.Trod enc P w base spare held e v d ps) :
    ∃ (m : MsgP) (E D : Option Addr) (ec dc : Nat), m.Ok ∧ v = agg [i64 m.kind, i64 m.group, i64 m.frm, i64 m.to, i64 m.term, i64 m.index, i64 m.logTerm, i64 m.commit, .bool m.ok, .slice E m.entries.length ec, .slice D m.data.length dc] ∧
      RdE w (.slice E m.entries.length ec) m.entries ∧ EntsIn w m.entries ∧ RdB w (.slice D m.data.length dc) m.data ∧ ∀ x ∈ m.entries, x.cmd.length ≤ B d := by
  obtain ⟨cs, m, rfl, hl, h⟩ := struct_cells he hC hv h
  rw [h11] at hl
  match cs, hl with
  | [c0, c1, c2, c3, c4, c5, c6, c7, c8, c9, c10], _ =>
    obtain ⟨n0, e0, r0⟩ := cell_i64 he hone hC h 0 (i64s_at hi (by decide))
    obtain ⟨n1, e1, r1⟩ := cell_i64 he hone hC h 1 (i64s_at hi (by decide))
    obtain ⟨n2, e2, r2⟩ := cell_i64 he hone hC h 2 (i64s_at hi (by decide))
    obtain ⟨n3, e3, r3⟩ := cell_i64 he hone hC h 3 (i64s_at hi (by decide))
    obtain ⟨n4, e4, r4⟩ := cell_i64 he hone hC h 4 (i64s_at hi (by decide))
    obtain ⟨n5, e5, r5⟩ := cell_i64 he hone hC h 5 (i64s_at hi (by decide))
    obtain ⟨n6, e6, r6⟩ := cell_i64 he hone hC h 6 (i64s_at hi (by decide))
    obtain ⟨n7, e7, r7⟩ := cell_i64 he hone hC h 7 (i64s_at hi (by decide))
    obtain ⟨b8, e8⟩ := cell_bool he hone hC h 8 k8
    obtain ⟨v9, t9, m9, d9, p9, e9, ht9, hf9, htr9, hb9⟩ := slice_bulk hB he hone hC h 9 k9
    obtain ⟨v10, t10, m10, d10, p10, e10, ht10, hf10, htr10, hb10⟩ := slice_bulk hB he hone hC h 10 k10
    obtain rfl : c0 = _ := Option.some.inj e0
    obtain rfl : c1 = _ := Option.some.inj e1
    obtain rfl : c2 = _ := Option.some.inj e2
    obtain rfl : c3 = _ := Option.some.inj e3
    obtain rfl : c4 = _ := Option.some.inj e4
    obtain rfl : c5 = _ := Option.some.inj e5
    obtain rfl : c6 = _ := Option.some.inj e6
    obtain rfl : c7 = _ := Option.some.inj e7
    obtain rfl : c8 = _ := Option.some.inj e8
    obtain rfl : c9 = _ := Option.some.inj e9
    obtain rfl : c10 = _ := Option.some.inj e10
    obtain ⟨l, hR, hg, hn, A, c, rfl⟩ := open_modelsB hB EntP.cells (fun x => (-9223372036854775808 ≤ x.term ∧ x.term ≤ 9223372036854775807) ∧ RdB w (.slice x.A x.cmd.length x.c) x.cmd) (fun x => x.cmd.length) ht9 (by rw [hrC, hr2]) (by decide) htr9 fun m cs y hl h => by
      match cs, hl with
      | [q0, q1], _ =>
        obtain ⟨n0, f0, s0⟩ := cell_i64 hr hrone hrC h 0 j0
        obtain ⟨v1, t1, m1, d1, p1, f1, ht1, hf1, htr1, hbb⟩ := slice_bulk hB hr hrone hrC h 1 j1
        obtain rfl : q0 = _ := Option.some.inj f0
        obtain rfl : q1 = _ := Option.some.inj f1
        obtain ⟨bs, hbs, hbz⟩ := open_bytes_in ht1 hb hbC hf1 htr1
        obtain ⟨A, c, rfl⟩ := hbs.form
        exact ⟨⟨n0, A, c, bs⟩, ⟨⟨s0, hbs⟩, Nat.le_trans (bytes_bulk hB hbz) hbb⟩, rfl⟩
    obtain ⟨bs, hbs, _⟩ := open_bytes_in ht10 hb hbC hf10 htr10
    obtain ⟨D, dc, rfl⟩ := hbs.form
    exact ⟨⟨n0, n1, n2, n3, n4, n5, n6, n7, b8, l, bs⟩, A, D, c, dc, ⟨r0, r1, r2, r3, r4, r5, r6, r7, fun x hx => (hg x hx).1.1⟩, rfl, hR, fun x hx => (hg x hx).1.2, hbs, fun x hx => Nat.le_trans (hg x hx).2 hb9⟩
end
end Go.Q
