/- Parts that come in; where their frames end. -/
import Derived.Test.YtnepjfnkaigakaaLP
set_option linter.unusedVariables false
namespace Go.Q
open Go.ChangeShapes Go.WideShapes Go.ChangeAt Go.RowKit Go.Deep

/-- A part: its bytes, and where they stand. -/
structure PartP where
  A : Option Addr
  c : Nat
  data : List UInt8
def PartP.cells (x : PartP) : List Value := [.slice x.A x.data.length x.c]
theorem PartP.two (x : PartP) : x.cells.length = 1 := rfl
theorem PartP.one (x : PartP) : oneCells x.cells = true := rfl
abbrev RdP (w : World) (v : Value) (l : List PartP) : Prop := RdT w 1 PartP.cells v l
def PartsIn (w : World) (l : List PartP) : Prop := ∀ x ∈ l, RdB w (.slice x.A x.data.length x.c) x.data
theorem PartsIn.keep {w w' : World} {l : List PartP} (h : PartsIn w l) (K : Keeps none_ w w') : PartsIn w' l := fun x hx => (h x hx).keep0 (by omega) K
/-- The parts' bytes are one's own. -/
def PartsOwn (e : Nat) (w : World) (base : Nat) (l : List PartP) : Prop := ∀ x ∈ l, OwnB w base e (.slice x.A x.data.length x.c) x.data
theorem PartsOwn.ins {e base : Nat} {w : World} {l : List PartP} (h : PartsOwn e w base l) : PartsIn w l := fun x hx => OwnB.rd (h x hx)
theorem PartsOwn.nil (e : Nat) (w : World) (base : Nat) : PartsOwn e w base [] := fun x hx => by cases hx
theorem PartsOwn.keep {e base : Nat} {w w' : World} {l : List PartP} (h : PartsOwn e w base l) (K : Keeps none_ w w') : PartsOwn e w' base l := fun x hx => own_keep0 (h x hx) K
theorem PartsOwn.keep2 {e base : Nat} {S : Nat → Prop} {w w' : World} {l : List PartP} (h : PartsOwn e w base l) (K : Keeps S w w') (hS : ∀ x ∈ l, ∀ i, (Value.slice x.A x.data.length x.c).ownBlock = some i → ¬ S i) : PartsOwn e w' base l :=
  fun x hx => own_keep (h x hx) K (hS x hx)
theorem PartsOwn.add {e base : Nat} {w : World} {l : List PartP} {x : PartP} (h : PartsOwn e w base l) (hx : OwnB w base e (.slice x.A x.data.length x.c) x.data) : PartsOwn e w base (l ++ [x]) := fun y hy => by
  rcases List.mem_append.1 hy with hy | hy
  · exact h y hy
  · rw [List.mem_singleton] at hy; subst hy; exact hx
/-- Rows of other types are other rows. -/
theorem own_types {w : World} {b1 b2 e1 e2 s1 s2 n1 n2 : Nat} {v1 v2 : Value} {xs1 xs2 : List Value} (h1 : w.ownsRow b1 e1 s1 v1 n1 xs1) (h2 : w.ownsRow b2 e2 s2 v2 n2 xs2) (he : e1 ≠ e2) : ∀ i, v1.ownBlock = some i → v2.ownBlock = some i → False := by
  intro i hi1 hi2
  obtain ⟨_, h1⟩ := h1
  obtain ⟨_, h2⟩ := h2
  rcases h1 with ⟨rfl, _⟩ | ⟨g1, _, _, rfl, _, g1h, _⟩
  · cases hi1
  · rcases h2 with ⟨rfl, _⟩ | ⟨g2, _, _, rfl, _, g2h, _⟩
    · cases hi2
    · obtain rfl : g1 = i := by simpa [Value.ownBlock] using hi1
      obtain rfl : g2 = g1 := by simpa [Value.ownBlock] using hi2
      rw [g1h] at g2h
      simp only [Option.some.injEq, Obj.cells.injEq] at g2h
      exact he g2h.2.1
theorem PartsOwn.apart {e base b2 e2 s2 n2 : Nat} {w : World} {l : List PartP} {v : Value} {xs : List Value} (h : PartsOwn e w base l) (h2 : w.ownsRow b2 e2 s2 v n2 xs) (he : e ≠ e2) :
    ∀ x ∈ l, ∀ i, (Value.slice x.A x.data.length x.c).ownBlock = some i → v.ownBlock = some i → False := fun x hx => own_types (h x hx) h2 he
/-- Numbers as a row of cells. -/
def icell (n : Int) : List Value := [i64 n]
theorem icell_two (n : Int) : (icell n).length = 1 := rfl
theorem icell_one (n : Int) : oneCells (icell n) = true := rfl
theorem RdT.ldu {α : Type} {f : α → List Value} {P : Program} {t : TypeId} {w : World} {n c k b off : Nat} {A : Option Addr} {l : List α} {x : α} {u : Value} (hf : ∀ x, (f x).length = 1) (h : RdT w 1 f (.slice A n c) l) (ht : isAgg? P t = some false) (hA : A = some ⟨b, off, none⟩) (hx : l[k]? = some x) (hu : (f x)[0]? = some u) :
    Loads P w t ⟨b, off + k, none⟩ u := by
  have := RdT.ldf (o := 0) hf h ht hA hx hu
  rwa [Nat.mul_one, Nat.add_zero] at this
section
variable {H : Type} {enc : TypeId × Value → H} {P : Program} {w : World} {base : Nat} {spare : Nat → Bool} {held : Bool}
theorem open_parts {t e b : TypeId} {v : Value} {d : DataW H} {ps : List MemPlace} (ht : P.underlying t = some (.slice e)) (he : P.underlying e = some (.slice b)) (hC : P.cellsOf e = 1) (hb : P.underlying b = some (.int .u8)) (hbC : P.cellsOf b = 1)
    (hv : Value.okWide P w .any 0 t v) (h : DataW.Trod enc P w base spare held t v d ps) :
    ∃ (l : List PartP) (A : Option Addr) (c : Nat), v = .slice A l.length c ∧ RdP w (.slice A l.length c) l ∧ PartsIn w l := by
  have hf := slice_form ht hv
  obtain ⟨fuel, h⟩ := trod_fuel h hf
  obtain ⟨l, hR, hg, _, A, c, rfl⟩ := open_models PartP.cells (fun x => RdB w (.slice x.A x.data.length x.c) x.data) ht hC (by decide) hf h fun m cs y hl htr => by
    match cs, hl with
    | [c0], _ =>
      have hs := slice_trod he htr
      obtain ⟨bs, hB, _⟩ := open_bytes_in he hb hbC hs htr
      obtain ⟨A, c, rfl⟩ := hB.form
      exact ⟨⟨A, c, bs⟩, hB, rfl⟩
  exact ⟨l, A, c, rfl, hR, hg⟩
end
/-- The frames of the first i parts, one behind the other. -/
def allB (l : List PartP) (i : Nat) : List UInt8 := ((l.map PartP.data).take i).flatMap frameB
/-- Where they end. -/
def endsI (l : List PartP) (i : Nat) : List Int := (List.range i).map fun j => (((allB l (j + 1)).length : Nat) : Int)
theorem allB_zero (l : List PartP) : allB l 0 = [] := rfl
theorem allB_next {l : List PartP} {i : Nat} {x : PartP} (h : l[i]? = some x) : allB l (i + 1) = allB l i ++ frameB x.data := by
  obtain ⟨h1, h2⟩ := List.getElem?_eq_some_iff.1 h
  unfold allB
  rw [List.take_succ_eq_append_getElem (by rw [List.length_map]; exact h1), List.flatMap_append, List.getElem_map, h2]
  simp
theorem endsI_zero (l : List PartP) : endsI l 0 = [] := rfl
theorem endsI_next (l : List PartP) (i : Nat) : endsI l (i + 1) = endsI l i ++ [(((allB l (i + 1)).length : Nat) : Int)] := by
  unfold endsI
  rw [List.range_succ, List.map_append]
  rfl
theorem endsI_len (l : List PartP) (i : Nat) : (endsI l i).length = i := by unfold endsI; rw [List.length_map, List.length_range]
theorem endsI_at {l : List PartP} {i k : Nat} {x : Int} (h : (endsI l i)[k]? = some x) : x = (((allB l (k + 1)).length : Nat) : Int) := by
  have hk : k < i := by have := (List.getElem?_eq_some_iff.1 h).1; rwa [endsI_len] at this
  unfold endsI at h
  rw [List.getElem?_map, List.getElem?_range hk] at h
  exact (Option.some.inj h).symm
theorem fit_le : ∀ (l : List (List UInt8)) (cut : Nat), fitN l cut ≤ l.length
  | [], _ => Nat.le_refl _
  | p :: l, cut => by
    unfold fitN
    split
    · have := fit_le l (cut - (frameB p).length); rw [List.length_cons]; omega
    · exact Nat.zero_le _
theorem fit_end : ∀ (l : List (List UInt8)) (cut k : Nat), k < fitN l cut → ((l.take (k + 1)).flatMap frameB).length ≤ cut
  | [], _, k, h => by cases h
  | p :: l, cut, k, h => by
    unfold fitN at h
    split at h
    · rename_i hc
      rw [List.take_succ_cons, List.flatMap_cons, List.length_append]
      cases k with
      | zero => rw [List.take_zero]; simpa using hc
      | succ k => have := fit_end l (cut - (frameB p).length) k (by omega); omega
    · cases h
theorem fit_stop : ∀ (l : List (List UInt8)) (cut : Nat), fitN l cut < l.length → cut < ((l.take (fitN l cut + 1)).flatMap frameB).length
  | [], _, h => by cases h
  | p :: l, cut, h => by
    unfold fitN at h ⊢
    split
    · rename_i hc
      rw [if_pos hc, List.length_cons] at h
      have := fit_stop l (cut - (frameB p).length) (by omega)
      rw [List.take_succ_cons, List.flatMap_cons, List.length_append]
      omega
    · rename_i hc
      rw [List.take_succ_cons, List.flatMap_cons, List.length_append]
      omega
/-- How many of the first i parts' frames are told where their bytes are cut, and what is known of them. -/
theorem told {l : List PartP} {i k : Nat} (hi : i ≤ l.length) (hs : ∀ x ∈ l.take i, x.data.length ≤ 65536) :
    (framesB ((allB l i).take k)).length ≤ i ∧ (∀ j, j < (framesB ((allB l i).take k)).length → (allB l (j + 1)).length ≤ k ∧ ∀ x, l[j]? = some x → (framesB ((allB l i).take k)).getD j [] = x.data) ∧
      ((framesB ((allB l i).take k)).length < i → k < (allB l ((framesB ((allB l i).take k)).length + 1)).length) := by
  have ht : framesB ((allB l i).take k) = ((l.map PartP.data).take i).take (fitN ((l.map PartP.data).take i) k) := frames_take _ _ fun p hp => by
    rw [← List.map_take] at hp
    obtain ⟨x, hx, rfl⟩ := List.mem_map.1 hp
    exact hs x hx
  have hl : ((l.map PartP.data).take i).length = i := by rw [List.length_take, List.length_map]; omega
  have hf := fit_le ((l.map PartP.data).take i) k
  have hN : (framesB ((allB l i).take k)).length = fitN ((l.map PartP.data).take i) k := by rw [ht, List.length_take]; omega
  have htt : ∀ j, j < i → ((l.map PartP.data).take i).take (j + 1) = (l.map PartP.data).take (j + 1) := fun j hj => by rw [List.take_take]; congr 1; omega
  refine ⟨by omega, fun j hj => ⟨?_, fun x hx => ?_⟩, fun h => ?_⟩
  · have := fit_end ((l.map PartP.data).take i) k j (by omega)
    rw [htt j (by omega)] at this
    exact this
  · rw [List.getD_eq_getElem?_getD, ht, List.getElem?_take_of_lt (by omega), List.getElem?_take_of_lt (by omega), List.getElem?_map, hx]
    rfl
  · have := fit_stop ((l.map PartP.data).take i) k (by omega)
    rw [← hN, htt _ h] at this
    exact this
end Go.Q
