/- Structs that come in, with what they weigh. -/
import Derived.Test.YtncjidepplaocaaLG
import Derived.Test.YtncjidepplaocaaLU
import Derived.Test.YtncjidepplaocaaLY
set_option linter.unusedVariables false
namespace Go.Q
open Go.ChangeShapes Go.WideShapes Go.ChangeAt Go.RowKit Go.Deep
section
variable {H : Type} {enc : TypeId × Value → H} {P : Program} {w : World} {base : Nat} {spare : Nat → Bool} {held : Bool}
theorem weightsAll_mem {e : TypeId} : ∀ {l : List (DataW H)} {d : DataW H}, d ∈ l → ∀ {n : Nat}, n ∈ d.weights P e → n ∈ DataW.weightsAll P e l
  | [], d, h, _, _ => by cases h
  | x :: l, d, h, n, hn => by
    simp only [DataW.weightsAll, List.mem_append]
    rcases List.mem_cons.1 h with rfl | h
    · exact .inl hn
    · exact .inr (weightsAll_mem h hn)
theorem open_rows_w {t e : TypeId} {sz : Nat} {v : Value} {d : DataW H} {ps : List MemPlace} (R : List Value → DataW H → Prop) (ht : P.underlying t = some (.slice e)) (hC : P.cellsOf e = sz) (hsz : 0 < sz)
    {fuel : Nat} (h : DataW.trod enc P w base spare held fuel t [v] = some (d, ps))
    (dec : ∀ (m : Nat) (cs : List Value) (y : DataW H × List MemPlace), cs.length = sz → DataW.trod enc P w base spare held m e cs = some y → R cs y.1) :
    ∃ css : List (List Value), Rd w sz v css.flatten ∧ (∀ cs ∈ css, ∃ z, R cs z ∧ ∀ n ∈ z.weights P e, n ∈ d.weights P t) ∧ (css.length = 0 ∨ ∃ k ∈ d.weights P t, css.length * P.bytesOf e ≤ k) ∧ ∃ A c, v = .slice A css.length c := by
  have hv := slice_trod ht h
  rcases open_slice ht h with ⟨hcs, hx⟩ | ⟨a, len, cap', m, k, D, Pl, hcs, hb, hl, hm, hmm, hxx, hi⟩
  · simp only [List.cons.injEq, and_true] at hcs
    subst hcs
    exact ⟨[], Rd.nil w sz, by simp, .inl rfl, none, 0, rfl⟩
  · have hd : d = .slice ((List.range len).map D) ((List.range (m - len)).map fun j => D (len + j)) := by
      simp only [Prod.mk.injEq] at hxx; exact hxx.1
    have hlm : len ≤ m := by rw [hmm]; split <;> omega
    -- each element's cells are read as one of the data
    obtain ⟨css, hr, hc, hdd, A, c, hA⟩ := open_rows (fun cs => ∃ z, R cs z) ht hC hsz hv h fun m cs y hl htr => ⟨y.1, dec m cs y hl htr⟩
    -- the same rows, told with their places
    have hn : css.length = len := by
      simp only [List.cons.injEq, and_true] at hcs
      rw [hA] at hcs
      injection hcs with _ h2 _
    have hat : ∀ i, i < len → ∃ cs z, css[i]? = some cs ∧ R cs z ∧ ∀ n ∈ z.weights P e, n ∈ d.weights P t := by
      intro i hin
      obtain ⟨cs', hc', htr⟩ := hi i (by omega)
      rw [hC] at hc'
      obtain ⟨_, hlen, hcell⟩ := World.cells?_some hc'
      have hci : i < css.length := by omega
      refine ⟨css[i], D i, List.getElem?_eq_getElem hci, ?_, ?_⟩
      · have hcl := (hc css[i] (List.getElem_mem hci)).1
        have heq : css[i] = cs' := by
          apply List.ext_getElem?
          intro j
          rcases Nat.lt_or_ge j sz with hj | hj
          · have h1 : css[i][j]? = some (css[i][j]'(by omega)) := List.getElem?_eq_getElem (by omega)
            have h2 : cs'[j]? = some (cs'[j]'(by omega)) := List.getElem?_eq_getElem (by omega)
            have hfl : (css.flatten)[i * sz + j]? = css[i][j]? := by
              have e1 : css.flatten = css.flatMap id := by simp [List.flatMap]
              have hall : ∀ l : List (List Value), (∀ x ∈ l, x.length = sz) → ∀ (k : Nat) (x : List Value), l[k]? = some x → ∀ q, q < sz → l.flatten[k * sz + q]? = x[q]? := by
                intro l
                induction l with
                | nil => intro _ k x hx; simp at hx
                | cons y l ih =>
                  intro hy k x hx q hq
                  have hyl := hy y (by simp)
                  cases k with
                  | zero =>
                    simp only [List.getElem?_cons_zero, Option.some.injEq] at hx
                    subst hx
                    rw [List.flatten_cons, Nat.zero_mul, Nat.zero_add, List.getElem?_append_left (by omega)]
                  | succ k =>
                    simp only [List.getElem?_cons_succ] at hx
                    rw [List.flatten_cons, List.getElem?_append_right (by rw [hyl, Nat.add_mul]; omega), hyl, show (k + 1) * sz + q - sz = k * sz + q from by rw [Nat.add_mul]; omega]
                    exact ih (fun z hz => hy z (by simp [hz])) k x hx q hq
              exact hall css (fun x hx => (hc x hx).1) i _ (List.getElem?_eq_getElem hci) j hj
            obtain ⟨bk, off, hAA⟩ := Rd.addr (hA ▸ hr : Rd w sz (.slice A css.length c) css.flatten) (by omega)
            have hw1 := Rd.cell (hA ▸ hr : Rd w sz (.slice A css.length c) css.flatten) hAA (hfl.trans h1)
            have hw2 := hcell j hj
            have ha : a = ⟨bk, off, none⟩ := by
              simp only [List.cons.injEq, and_true] at hcs
              rw [hA] at hcs
              injection hcs with h1 _ _
              rw [hAA] at h1
              exact (Option.some.inj h1).symm
            rw [ha, add_plain, add_plain, Nat.add_assoc, hw1, h2] at hw2
            rw [h1, h2]
            exact hw2
          · rw [List.getElem?_eq_none (by omega), List.getElem?_eq_none (by omega)]
        rw [heq]
        exact dec _ cs' _ hlen htr
      · intro n hn'
        rw [hd]
        simp only [DataW.weights, ht]
        exact List.mem_cons.2 (.inr (List.mem_append.2 (.inl (weightsAll_mem (List.mem_map.2 ⟨i, List.mem_range.2 hin, rfl⟩) hn'))))
    refine ⟨css, hr, fun cs hcs => ?_, ?_, A, c, hA⟩
    · obtain ⟨i, hi1, hi2⟩ := List.getElem_of_mem hcs
      obtain ⟨cs2, z, h1, h2, h3⟩ := hat i (by omega)
      rw [List.getElem?_eq_getElem hi1, hi2] at h1
      have := Option.some.inj h1
      subst this
      exact ⟨z, h2, h3⟩
    · refine .inr ⟨_, by rw [hd]; simp only [DataW.weights, ht]; exact List.mem_cons_self .., ?_⟩
      rw [hn]
      exact Nat.mul_le_mul_right _ (by simp)
/-- Entries that come in. -/
theorem open_entsW {t e b tb i0 : TypeId} {fs : Array Field} {v : Value} {d : DataW H} {ps : List MemPlace} (ht : P.underlying t = some (.slice e)) (he : P.underlying e = some (.struct fs)) (hC : P.cellsOf e = 2) (hbe : P.bytesOf e = 32)
    (k0 : fieldAt? P fs 0 = some (0, 1, i0)) (k1 : fieldAt? P fs 1 = some (1, 1, tb)) (u0 : P.underlying i0 = some (.int .i64)) (u1 : P.underlying tb = some (.slice b)) (hb8 : P.underlying b = some (.int .u8)) (hbC : P.cellsOf b = 1) (hbb : P.bytesOf b = 1)
    (hv : Value.okWide P w .any 0 t v) (hz : ∀ k ∈ d.weights P t, k ≤ reachBytes) (h : DataW.Trod enc P w base spare held t v d ps) :
    ∃ (l : List EntP) (A : Option Addr) (c : Nat), v = .slice A l.length c ∧ RdE w (.slice A l.length c) l ∧ EntsIn w l ∧ EntsOk l ∧ l.length * 32 ≤ 140737488351232 ∧ ∀ x ∈ l, x.cmd.length ≤ 140737488351232 := by
  obtain ⟨fuel, h⟩ := trod_fuel h (slice_form ht hv)
  have hr : reachBytes = 140737488351232 := by decide
  rw [hr] at hz
  obtain ⟨css, hR, hc, hl, A, c, hA⟩ := open_rows_w (sz := 2) (fun cs z => (∀ k ∈ z.weights P e, k ≤ 140737488351232) → ∃ x : EntP, ((-9223372036854775808 ≤ x.term ∧ x.term ≤ 9223372036854775807) ∧ RdB w (.slice x.A x.cmd.length x.c) x.cmd ∧ x.cmd.length ≤ 140737488351232) ∧ cs = x.cells) ht hC (by decide) h fun m cs y hl htr hz => by
    match cs, hl with
    | [c0, c1], _ =>
      obtain ⟨m0, z0, s0, _⟩ := trod_field he htr k0
      obtain ⟨m1, z1, s1, w1⟩ := trod_field he htr k1
      obtain ⟨n0, e0, _, w0⟩ := DataW.trod_int u0 s0
      have hs1 := slice_trod u1 (v := c1) s1
      obtain ⟨bs, hB, hBd⟩ := open_bytes_in (d := z1.1) (ps := z1.2) u1 hb8 hbC hs1 s1
      have hbz := slice_weight u1 hbb (fun k hk => by rw [hr]; exact hz k (w1 k hk)) hBd
      rw [Nat.mul_one] at hbz
      obtain ⟨B, d, rfl⟩ := hB.form
      simp only [List.drop_zero, List.take_succ_cons, List.take_zero, List.cons.injEq, and_true] at e0
      subst e0
      exact ⟨⟨n0, B, d, bs⟩, ⟨wf_i64 w0, hB, hbz⟩, rfl⟩
  obtain ⟨l, hb, hl2, hg⟩ := flat_models (f := EntP.cells) (Good := fun x => (-9223372036854775808 ≤ x.term ∧ x.term ≤ 9223372036854775807) ∧ RdB w (.slice x.A x.cmd.length x.c) x.cmd ∧ x.cmd.length ≤ 140737488351232) (css := css) fun cs hcs => by
    obtain ⟨z, h1, h2⟩ := hc cs hcs
    exact h1 fun k hk => hz k (h2 k hk)
  rw [← hl2] at hA hl
  subst hA
  rw [hbe] at hl
  refine ⟨l, A, c, rfl, by unfold RdE RdT; rw [← hb]; exact hR, fun x hx => (hg x hx).2.1, fun x hx => (hg x hx).1, ?_, fun x hx => (hg x hx).2.2⟩
  rcases hl with h0 | ⟨k, hk, hk2⟩
  · omega
  · exact Nat.le_trans hk2 (hz k hk)
/-- Entries that come in, of bounded bulk. -/
theorem open_entsB {B : DataW H → Nat} (hB : Bulk B) {t e b : TypeId} {rs : Array Field} {v : Value} {d : DataW H} {ps : List MemPlace} (ht : P.underlying t = some (.slice e)) (hr : P.underlying e = some (.struct rs)) (hrone : oneCellFields P rs = true) (hrC : P.cellsOf e = rs.size) (hr2 : rs.size = 2)
    (j0 : fieldOf? P rs 0 = some (.int .i64)) (j1 : fieldOf? P rs 1 = some (.slice b)) (hb : P.underlying b = some (.int .u8)) (hbC : P.cellsOf b = 1) (hv : Value.okWide P w .any 0 t v) (h : DataW.Trod enc P w base spare held t v d ps) :
    ∃ (l : List EntP) (A : Option Addr) (c : Nat), v = .slice A l.length c ∧ RdE w (.slice A l.length c) l ∧ EntsIn w l ∧ EntsOk l ∧ l.length ≤ B d ∧ ∀ x ∈ l, x.cmd.length ≤ B d := by
  obtain ⟨fuel, h⟩ := trod_fuel h (slice_form ht hv)
  obtain ⟨l, hR, hg, hn, A, c, rfl⟩ := open_modelsB hB EntP.cells (fun x => (-9223372036854775808 ≤ x.term ∧ x.term ≤ 9223372036854775807) ∧ RdB w (.slice x.A x.cmd.length x.c) x.cmd) (fun x => x.cmd.length) ht (by rw [hrC, hr2]) (by decide) h fun m cs y hl h => by
    match cs, hl with
    | [q0, q1], _ =>
      obtain ⟨n0, f0, s0⟩ := cell_i64 hr hrone hrC h 0 j0
      obtain ⟨v1, t1, m1, d1, p1, f1, ht1, hf1, htr1, hbb⟩ := slice_bulk hB hr hrone hrC h 1 j1
      obtain rfl : q0 = _ := Option.some.inj f0
      obtain rfl : q1 = _ := Option.some.inj f1
      obtain ⟨bs, hbs, hbz⟩ := open_bytes_in ht1 hb hbC hf1 htr1
      obtain ⟨A, c, rfl⟩ := hbs.form
      exact ⟨⟨n0, A, c, bs⟩, ⟨⟨s0, hbs⟩, Nat.le_trans (bytes_bulk hB hbz) hbb⟩, rfl⟩
  exact ⟨l, A, c, rfl, hR, fun x hx => (hg x hx).1.2, fun x hx => (hg x hx).1.1, hn, fun x hx => (hg x hx).2⟩
end
end Go.Q
