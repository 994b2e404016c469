/- Structs of numbers that come in. -/
import Derived.Test.YtoljbckhoigibaaChart5
namespace Go.Q
open Go.ChangeShapes Go.WideShapes Go.ChangeAt Go.RowKit Go.Deep

section
variable {H : Type} {enc : TypeId × Value → H} {P : Program} {w : World} {base : Nat} {spare : Nat → Bool} {held : Bool}

theorem open_cmd {e : TypeId} {fs : Array Field} {v : Value} {d : DataW H} {ps : List MemPlace} (he : P.underlying e = some (.struct fs)) (hone : oneCellFields P fs = true)
    (hk : intFields P fs .i64 = true) (hC : P.cellsOf e = fs.size) (h5 : fs.size = 5) (hv : Value.okWide P w .any 0 e v) (h : DataW.Trod enc P w base spare held e v d ps) : ∃ x : Cmd, x.Good ∧ v = x.v := by
  obtain ⟨cs, rfl, hs⟩ := okWide_struct he hv
  obtain ⟨m, hm⟩ := h
  have hl : (Value.agg cs).cells.toList.length = 5 := by
    show cs.toList.length = 5
    rw [Array.length_toList, hs, hC, h5]
  obtain ⟨x, hg, hx⟩ := dec_cmd he hone hk hC h5 m _ _ hl hm
  refine ⟨x, hg, ?_⟩
  have hx' : x.v.cells.toList = cs.toList := hx
  have : x.v.cells = cs := Array.ext' hx'
  rw [← this]
  rfl
end
end Go.Q
