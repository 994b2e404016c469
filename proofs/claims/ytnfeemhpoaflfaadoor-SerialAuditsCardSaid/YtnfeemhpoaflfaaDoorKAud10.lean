/- What the claim stands on, part 10: rules of the walk, contracts of the functions, plain laws. -/
import Derived.Test.YtnfeemhpoaflfaaDoorKAud6
import Derived.ChangeMaps5
import Derived.Test.YtnfeemhpoaflfaaDoorKAud5
import Derived.Test.YtnfeemhpoaflfaaDoorKAud9
import Derived.Test.YtnfeemhpoaflfaaDoorKAud4
import Derived.Lib.AppendStr
set_option linter.unusedVariables false
namespace Go.Q
open Go.ChangeShapes Go.WideShapes Go.ChangeAt Go.RowKit Go.Deep

def fieldOf? (P : Program) (fs : Array Field) (j : Nat) : Option TypeDesc := match fs[j]? with
  | some f => P.underlying f.type
  | none => none

section
variable {H : Type} {enc : TypeId × Value → H} {P : Program} {w : World} {base : Nat} {spare : Nat → Bool} {held : Bool}

theorem trod_cell {e : TypeId} {fs : Array Field} {m : Nat} {cs : List Value} {y : DataW H × List MemPlace} (he : P.underlying e = some (.struct fs)) (hone : oneCellFields P fs = true) (hC : P.cellsOf e = fs.size)
    (h : DataW.trod enc P w base spare held m e cs = some y) {j : Nat} {d : TypeDesc} (hk : fieldOf? P fs j = some d) :
    ∃ v m' t z, cs[j]? = some v ∧ P.underlying t = some d ∧ DataW.trod enc P w base spare held m' t [v] = some z := by
  obtain ⟨xs, m', hm, _, hlen, hxl, hf⟩ := DataW.trod_struct he h
  rw [hC] at hlen
  unfold fieldOf? at hk
  cases hfj : fs[j]? with
  | none => rw [hfj] at hk; cases hk
  | some f =>
    rw [hfj] at hk
    simp only at hk
    have hj : j < fs.size := (Array.getElem?_eq_some_iff.1 hfj).1
    obtain ⟨ho, hc⟩ := hone_of hone j _ hfj
    have h2 := hf j _ hfj
    rw [ho, hc] at h2
    have hone' : (cs.drop j).take 1 = [cs[j]'(by omega)] := by
      rw [List.drop_eq_getElem_cons (by omega)]
      rfl
    rw [hone', List.getElem?_eq_getElem (by omega : j < xs.length)] at h2
    exact ⟨_, _, _, _, List.getElem?_eq_getElem (by omega), hk, h2⟩
theorem cell_i64 {e : TypeId} {fs : Array Field} {m : Nat} {cs : List Value} {y : DataW H × List MemPlace} (he : P.underlying e = some (.struct fs)) (hone : oneCellFields P fs = true) (hC : P.cellsOf e = fs.size)
    (h : DataW.trod enc P w base spare held m e cs = some y) (j : Nat) (hk : fieldOf? P fs j = some (.int .i64)) : ∃ n : Int, cs[j]? = some (i64 n) ∧ -9223372036854775808 ≤ n ∧ n ≤ 9223372036854775807 := by
  obtain ⟨v, m', t, z, hv, ht, hz⟩ := trod_cell he hone hC h hk
  obtain ⟨n, hn, _, hw⟩ := DataW.trod_int ht hz
  simp only [List.cons.injEq, and_true] at hn
  exact ⟨n, by rw [hv, hn], wf_i64 hw⟩
theorem cell_str {e : TypeId} {fs : Array Field} {m : Nat} {cs : List Value} {y : DataW H × List MemPlace} (he : P.underlying e = some (.struct fs)) (hone : oneCellFields P fs = true) (hC : P.cellsOf e = fs.size)
    (h : DataW.trod enc P w base spare held m e cs = some y) (j : Nat) (hk : fieldOf? P fs j = some .string) : ∃ s : List UInt8, cs[j]? = some (.string (str s)) := by
  obtain ⟨v, m', t, z, hv, ht, hz⟩ := trod_cell he hone hC h hk
  obtain ⟨s, hs, _⟩ := DataW.trod_string ht hz
  simp only [List.cons.injEq, and_true] at hs
  exact ⟨s.toList, by rw [hv, hs, str_eta]⟩
theorem slice_trod {t e : TypeId} {v : Value} {fuel : Nat} {z : DataW H × List MemPlace} (ht : P.underlying t = some (.slice e)) (h : DataW.trod enc P w base spare held fuel t [v] = some z) : ∃ A n c, v = .slice A n c := by
  rcases open_slice ht h with ⟨hcs, _⟩ | ⟨a, len, cap', m, k, D, Pl, hcs, _⟩
  · simp only [List.cons.injEq, and_true] at hcs
    exact ⟨_, _, _, hcs⟩
  · simp only [List.cons.injEq, and_true] at hcs
    exact ⟨_, _, _, hcs⟩
theorem open_str {t : TypeId} {v : Value} {d : DataW H} {ps : List MemPlace} (ht : P.underlying t = some .string) (hv : Value.okWide P w .any 0 t v) (h : DataW.Trod enc P w base spare held t v d ps) : ∃ ss : List UInt8, v = .string (str ss) ∧ d = .lit (.string ss) := by
  obtain ⟨s, rfl⟩ := okWide_string ht hv
  obtain ⟨fuel, hf⟩ := h
  obtain ⟨s', hs, hx, _⟩ := DataW.trod_string ht hf
  simp only [Value.cells, List.cons.injEq, and_true, Value.string.injEq] at hs
  subst hs
  simp only [Prod.mk.injEq] at hx
  exact ⟨s.toList, by rw [str_eta], by rw [hx.1, ByteArray.toList_eq]⟩

/-- An operation that comes in. -/
theorem dec_op {e : TypeId} {fs : Array Field} {m : Nat} {cs : List Value} {y : DataW H × List MemPlace} (he : P.underlying e = some (.struct fs)) (hone : oneCellFields P fs = true) (hC : P.cellsOf e = fs.size) (h7 : fs.size = 7)
    (k0 : fieldOf? P fs 0 = some (.int .i64)) (k1 : fieldOf? P fs 1 = some .string) (k2 : fieldOf? P fs 2 = some .string) (k3 : fieldOf? P fs 3 = some (.int .i64)) (k4 : fieldOf? P fs 4 = some .string) (k5 : fieldOf? P fs 5 = some (.int .i64)) (k6 : fieldOf? P fs 6 = some (.int .i64))
    (hl : cs.length = fs.size) (h : DataW.trod enc P w base spare held m e cs = some y) : ∃ o : Opm, o.Ok ∧ cs = o.cells := by
  rw [h7] at hl
  match cs, hl with
  | [c0, c1, c2, c3, c4, c5, c6], _ =>
    obtain ⟨n0, e0, r0⟩ := cell_i64 he hone hC h 0 k0
    obtain ⟨s1, e1⟩ := cell_str he hone hC h 1 k1
    obtain ⟨s2, e2⟩ := cell_str he hone hC h 2 k2
    obtain ⟨n3, e3, r3⟩ := cell_i64 he hone hC h 3 k3
    obtain ⟨s4, e4⟩ := cell_str he hone hC h 4 k4
    obtain ⟨n5, e5, r5⟩ := cell_i64 he hone hC h 5 k5
    obtain ⟨n6, e6, r6⟩ := cell_i64 he hone hC h 6 k6
    obtain rfl : c0 = _ := Option.some.inj e0
    obtain rfl : c1 = _ := Option.some.inj e1
    obtain rfl : c2 = _ := Option.some.inj e2
    obtain rfl : c3 = _ := Option.some.inj e3
    obtain rfl : c4 = _ := Option.some.inj e4
    obtain rfl : c5 = _ := Option.some.inj e5
    obtain rfl : c6 = _ := Option.some.inj e6
    exact ⟨⟨n0, s1, s2, n3, s4, n5, n6⟩, ⟨r0, r3, r5, r6⟩, rfl⟩
theorem flat_models {α : Type} {f : α → List Value} {Good : α → Prop} : ∀ {css : List (List Value)}, (∀ cs ∈ css, ∃ x : α, Good x ∧ cs = f x) → ∃ l : List α, css.flatten = l.flatMap f ∧ l.length = css.length ∧ ∀ x ∈ l, Good x
  | [], _ => ⟨[], rfl, rfl, by simp⟩
  | cs :: css, h => by
    obtain ⟨x, hx, rfl⟩ := h cs (by simp)
    obtain ⟨l, hb, hl, hr⟩ := flat_models (css := css) fun c hc => h c (by simp [hc])
    refine ⟨x :: l, by rw [List.flatten_cons, hb, List.flatMap_cons], by simp [hl], fun y hy => ?_⟩
    rcases List.mem_cons.1 hy with rfl | hy
    · exact hx
    · exact hr y hy
/-- A slice of structs that comes in, by its elements' models. -/
theorem open_models {α : Type} (f : α → List Value) (Good : α → Prop) {t e : TypeId} {sz : Nat} {v : Value} {d : DataW H} {ps : List MemPlace} (ht : P.underlying t = some (.slice e)) (hC : P.cellsOf e = sz) (hsz : 0 < sz)
    (hv : ∃ A n c, v = .slice A n c) {fuel : Nat} (h : DataW.trod enc P w base spare held fuel t [v] = some (d, ps))
    (dec : ∀ (m : Nat) (cs : List Value) (y : DataW H × List MemPlace), cs.length = sz → DataW.trod enc P w base spare held m e cs = some y → ∃ x, Good x ∧ cs = f x) :
    ∃ l : List α, RdT w sz f v l ∧ (∀ x ∈ l, Good x) ∧ (l.length = 0 ∨ ∃ el sp, d = .slice el sp ∧ el.length = l.length) ∧ ∃ A c, v = .slice A l.length c := by
  obtain ⟨css, hr, hc, hd, A, c, hA⟩ := open_rows (fun cs => ∃ x, Good x ∧ cs = f x) ht hC hsz hv h dec
  obtain ⟨l, hb, hl, hg⟩ := flat_models fun cs hcs => (hc cs hcs).2
  refine ⟨l, by unfold RdT; rw [← hb]; exact hr, hg, ?_, A, c, by rw [hA, hl]⟩
  rcases hd with rfl | ⟨el, sp, h1, h2⟩
  · exact .inl (by simpa using hl)
  · exact .inr ⟨el, sp, h1, by omega⟩
def RowM.Ok (x : RowM) : Prop := -9223372036854775808 ≤ x.amount ∧ x.amount ≤ 9223372036854775807
end
end Go.Q
namespace Go.Q
open Go.ChangeShapes Go.WideShapes Go.ChangeAt Go.RowKit Go.Deep
def total (S : List AccM) : Int := (S.map (·.amt)).sum
def sumR (l : List RowM) : Int := (l.map (·.amount)).sum
theorem sum_perm {l k : List Int} (h : l.Perm k) : l.sum = k.sum := by
  induction h with
  | nil => rfl
  | cons x _ ih => rw [List.sum_cons, List.sum_cons, ih]
  | swap x y l => simp only [List.sum_cons]; omega
  | trans _ _ h1 h2 => exact h1.trans h2
theorem rows_all (S : List AccM) : rowsS S (-1) = S.map AccM.row := by
  unfold rowsS
  rw [List.filter_eq_self.2 fun a _ => inSlot_t (.inl rfl)]
/-- A call of a book. -/
structure BopM where
  kind : Int
  name : List UInt8
  own : List UInt8
  n : Int
  slot : Int
def BopM.cells (x : BopM) : List Value := [i64 x.kind, .string (str x.name), .string (str x.own), i64 x.n, i64 x.slot]
structure BopM.Ok (x : BopM) : Prop where
  kind : -9223372036854775808 ≤ x.kind ∧ x.kind ≤ 9223372036854775807
  n : -9223372036854775808 ≤ x.n ∧ x.n ≤ 9223372036854775807
  slot : -9223372036854775808 ≤ x.slot ∧ x.slot ≤ 9223372036854775807
section
variable {H : Type} {enc : TypeId × Value → H} {P : Program} {w : World} {base : Nat} {spare : Nat → Bool} {held : Bool}
end
end Go.Q
namespace Go.Q
open Go.RowKit
theorem opEq_iff (a b : Opm) : opEq a b = true ↔ a = b := by
  unfold opEq Opm.cells
  obtain ⟨a1, a2, a3, a4, a5, a6, a7⟩ := a
  obtain ⟨b1, b2, b3, b4, b5, b6, b7⟩ := b
  simp only [aggB, Bool.and_eq_true, cellB_str_iff, cellB_int_iff, and_true, Opm.mk.injEq]
theorem LMap.same {m k : List (List UInt8 × Int)} {S : List RowM} (h : LMap m S) (h2 : LMap k S) {x : List UInt8} {a : Int} (hm : (x, a) ∈ m) : getM k x = some a := by
  obtain ⟨b, hb, e⟩ := List.mem_map.1 (h.perm.mem_iff.2 hm)
  simp only [RowM.pair, Prod.mk.injEq] at e
  rw [h2.get, ← e.1, h.led.get_of hb, ← e.2]
  rfl
/-! ### structs with a struct within -/
/-- Two structs of a struct (n cells) and a cell. -/
structure NestTy (P : Program) (t : TypeId) (f1 f2 : Field) (n : Nat) : Prop where
  und : P.underlying t = some (.struct #[f1, f2])
  n1 : f1.name ≠ "_"
  n2 : f2.name ≠ "_"
  o1 : f1.offset = 0
  o2 : f2.offset = n
  a1 : isAgg? P f1.type = some true
  z1 : ∀ w, (Go.sizeOf f1.type).run P w = .ok n w
  held : P.stoodInHeld t = false
  guard : P.eqGuardType P.depth t = false
/-! ### sums -/
def sumE (S : List RowM) : Int × Int := if 9223372036854775807 < sumR S then (0, 43) else (sumR S, 0)
def sumP (m : List (List UInt8 × Int)) : Int := (m.map (·.2)).sum
theorem LMap.sum {m : List (List UInt8 × Int)} {S : List RowM} (h : LMap m S) : sumP m = sumR S := by
  unfold sumP sumR
  rw [← sum_perm (h.perm.map (·.2)), List.map_map]
  rfl
end Go.Q
namespace Go.Q
open Go.RowKit Go.Lib
theorem OwnB.app2S {P : Program} {w : World} {t u ty e base : Nat} {v : Value} {xs ys : List UInt8} (T : u8Ty? P t u = some e) (h : OwnB w base e v xs) (hl : xs.length + ys.length ≤ 140737488355328) (hbase : base ≤ w.heap.size) :
    ∃ v' w', (Builtin.append_ #[t, u] ty #[v, .string (str ys)]).run P w = .ok v' w' ∧ OwnB w' base e v' (xs ++ ys) ∧ Keeps (fun i => v.ownBlock = some i) w w' ∧ ∀ i, v'.ownBlock = some i → v.ownBlock = some i ∨ w.heap.size ≤ i := by
  unfold u8Ty? at T
  split at T
  · rename_i e' ht hu
    split at T
    · rename_i i hi
      split at T
      · rename_i hz
        cases hb : (Nat.beq i.size 1 && Nat.beq i.bytes 1) with
        | false => rw [hb] at T; cases T
        | true =>
          rw [hb] at T
          simp only [cond_true, Option.some.injEq] at T
          subst T
          simp only [Bool.and_eq_true] at hb
          have hm : xs.length + ys.length ≤ maxLen := by simp only [maxLen]; omega
          have h1 := Nat.eq_of_beq_eq_true hb.1
          have h2 := Nat.eq_of_beq_eq_true hb.2
          obtain ⟨v', w', hr, ho, hg, _⟩ := run_append_own_string (P := P) w base t u ty e' i ht hu hi hz h1 h2 v xs.length (bv xs) h (str ys) (by rw [str_size]; exact hm) (by rw [str_size]; exact hl) hbase
          refine ⟨v', w', hr, ?_, (Keeps.of_grown hg).mono fun j hj hS => hS.symm, ?_⟩
          · rw [strCells_bv, str_size] at ho
            unfold OwnB
            rw [List.length_append, bv_append]
            exact ho
          · intro j hj
            have hown : w.ownsRow base e' 1 v xs.length (bv xs) := h
            rcases hown.2 with ⟨rfl, hn⟩ | ⟨g, cap, cur, rfl, hbg, hgc, hnc, hcm, hcs, htake⟩
            · obtain ⟨v2, w2, hr2, ho2, _, _⟩ := run_append_own_string (P := P) w w.heap.size t u ty e' i ht hu hi hz h1 h2 (.slice none 0 0) xs.length (bv xs) ⟨hown.1, .inl ⟨rfl, hn⟩⟩ (str ys) (by rw [str_size]; exact hm) (by rw [str_size]; exact hl) (Nat.le_refl _)
              rw [hr] at hr2
              simp only [Result.ok.injEq] at hr2
              obtain ⟨rfl, rfl⟩ := hr2
              exact .inr (World.ownsRow.lt ho2 j hj).1
            · by_cases hroom : xs.length + (str ys).size ≤ cap
              · have hcs' : cur.size = cap := by simpa using hcs
                have hr2 := run_append_room_string (P := P) w t u ty e' i ht hu hi h1 g xs.length cap cur hgc (str ys) hroom (by omega)
                rw [hr] at hr2
                simp only [Result.ok.injEq] at hr2
                rw [hr2.1] at hj
                exact .inl hj
              · have holds : ∀ j u, (bv xs)[j]? = some u → w.cell? ((⟨g, 0, none⟩ : Addr).add j) = some u := hown.cells (g := g) rfl
                have hr2 := run_append_grow_string (P := P) w t u ty e' i (.int .u8 0) ht hu hi hz ⟨g, 0, none⟩ xs.length cap (bv xs) (by rw [h1]; simp [bv_length]) holds (str ys) (by omega) (by rw [str_size]; omega) (by rw [h2]; exact growslice_fits (by omega) (by rw [str_size]; omega))
                rw [hr] at hr2
                simp only [Result.ok.injEq] at hr2
                rw [hr2.1] at hj
                simp only [Value.ownBlock, Option.some.injEq] at hj
                exact .inr (by omega)
      · cases T
    · cases T
  · cases T
/-- A cell of a block that one holds is set. -/
theorem Has.set0 {w : World} {b : Nat} {x y v : Value} {e : TypeId} (h : Has w b (rowL [x, y] e)) : Has (w.setCell ⟨b, 0, none⟩ v) b (rowL [v, y] e) ∧ Keeps (fun i => i = b) w (w.setCell ⟨b, 0, none⟩ v) := by
  have hl := h.lt
  refine ⟨?_, rfl, rfl, rfl, by show w.heap.size ≤ (w.heap.modify _ _).size; rw [Array.size_modify]; exact Nat.le_refl _, fun k _ hk => Below.heap_setCell _ _ _ k hk⟩
  unfold Has at h ⊢
  have hlt : b < w.heap.size := hl
  have h' : w.heap[b] = rowL [x, y] e := by simpa [Array.getElem?_eq_getElem hlt] using h
  show (w.heap.modify b _)[b]? = _
  rw [Array.getElem?_modify]
  simp [h, rowL]
end Go.Q
