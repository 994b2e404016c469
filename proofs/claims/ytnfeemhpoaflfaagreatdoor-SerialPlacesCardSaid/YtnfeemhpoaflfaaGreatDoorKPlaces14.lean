/- What the claim stands on, part 14: rules of the walk, contracts of the functions, plain laws. -/
import Derived.Test.YtnfeemhpoaflfaaGreatDoorKPlaces10
import Derived.Test.YtnfeemhpoaflfaaGreatDoorKPlaces12
set_option linter.unusedVariables false
namespace Go.Q
open Go.ChangeShapes Go.WideShapes Go.ChangeAt Go.RowKit Go.Deep
variable {H : Type} {enc : TypeId × Value → H} {P : Program} {w : World} {spare : Nat → Bool} {held : Bool}
theorem open_ops {t e : TypeId} {fs : Array Field} {v : Value} {d : DataW H} {ps : List MemPlace} (ht : P.underlying t = some (.slice e)) (he : P.underlying e = some (.struct fs)) (hone : oneCellFields P fs = true) (hC : P.cellsOf e = fs.size) (h7 : fs.size = 7)
    (k0 : fieldOf? P fs 0 = some (.int .i64)) (k1 : fieldOf? P fs 1 = some .string) (k2 : fieldOf? P fs 2 = some .string) (k3 : fieldOf? P fs 3 = some (.int .i64)) (k4 : fieldOf? P fs 4 = some .string) (k5 : fieldOf? P fs 5 = some (.int .i64)) (k6 : fieldOf? P fs 6 = some (.int .i64))
    (hv : Value.okWide P w .any 0 t v) (h : DataW.Trod enc P w 0 spare held t v d ps) : ∃ (l : List Opm) (A : Option Addr) (c : Nat), v = .slice A l.length c ∧ RdT w 7 Opm.cells (.slice A l.length c) l ∧ ∀ x ∈ l, x.Ok := by
  obtain ⟨fuel, h⟩ := trod_fuel h (slice_form ht hv)
  obtain ⟨l, hR, hg, _, A, c, rfl⟩ := open_models Opm.cells Opm.Ok ht (sz := 7) (by rw [hC, h7]) (by decide) (slice_trod ht h) h fun m cs y hl h => dec_op he hone hC h7 k0 k1 k2 k3 k4 k5 k6 (hl.trans h7.symm) h
  exact ⟨l, A, c, rfl, hR, hg⟩
theorem tab_third {n1 n2 : String} {d1 d2 d : DataW Unit} {rest : List (String × DataW Unit)} {W : World} {g : Nat} {t e : TypeId}
    (hg : P.globalNamed "internal/strconv.uint64pow10" = some g) (hty : (P.globals[g]?).map (·.type) = some t) (ht : P.underlying t = some (.array 20 e)) (he : P.underlying e = some (.int .u64)) (hce : P.cellsOf e = 1) (hct : P.cellsOf t = 20)
    (hd : d = Lib.tabData .u64 Lib.pow10Tab) (h : laidMet P ((n1, d1) :: (n2, d2) :: ("internal/strconv.uint64pow10", d) :: rest) W) : Tab P W g := by
  subst hd
  obtain ⟨ps, ⟨_, _, _, _, _, _, _, _, _, _, ⟨_, _, _, _, _, _, _, _, _, _, ⟨g', t', cs, fuel, p, q, hg', ht', hvar, hd, _, _⟩, _⟩, _⟩, _⟩ := h
  obtain rfl := Option.some.inj (hg.symm.trans hg')
  obtain rfl := Option.some.inj (hty.symm.trans ht')
  refine ⟨hg, ?_⟩
  unfold Lib.TabIs
  rw [hvar, ← Lib.cells_of_tab ht he hce hct hd]
end Go.Q
