/- A chart in memory: its 42 cells as a list, field by field. -/
import Derived.Test.YtoljbckhoigibaaQ5
namespace Go.Q
open Go.RowKit

structure Ch where
  shards : Int
  owner : List Int
  epoch : List Int
  began : Int
  ms : Int
  mf : Int
  mt : Int
  me : Int
  mp : Int
  mn : Int
  audit : Int
  phase : Int

def Ch.moves (c : Ch) : List Value := [i64 c.ms, i64 c.mf, i64 c.mt, i64 c.me, i64 c.mp, i64 c.mn]
def chL (c : Ch) : List Value := i64 c.shards :: (ints c.owner ++ (ints c.epoch ++ (i64 c.began :: (c.moves ++ [i64 c.audit, i64 c.phase]))))

structure Ch.Ok (c : Ch) : Prop where
  o : c.owner.length = 16
  e : c.epoch.length = 16


theorem chL_length {c : Ch} (h : c.Ok) : (chL c).length = 42 := by simp [chL, ints_length, h.o, h.e, Ch.moves]

section
variable {c : Ch} (h : c.Ok)
include h
theorem ch_0 : (chL c)[0]? = some (i64 c.shards) := by have := h; rfl
theorem ch_own (k : Nat) (hk : k < 16) : (chL c)[1 + k]? = some (i64 (c.owner.getD k 0)) := by
  have hl : k < (ints c.owner).length := by rw [ints_length, h.o]; exact hk
  rw [chL, show 1 + k = k + 1 from by omega, List.getElem?_cons_succ, List.getElem?_append_left hl, intsL_at _ _ (by rw [h.o]; exact hk)]
theorem ch_ep (k : Nat) (hk : k < 16) : (chL c)[17 + k]? = some (i64 (c.epoch.getD k 0)) := by
  rw [chL, show 17 + k = (16 + k) + 1 from by omega, List.getElem?_cons_succ, List.getElem?_append_right (by rw [ints_length, h.o]; omega), ints_length, h.o, show 16 + k - 16 = k from by omega,
    List.getElem?_append_left (by rw [ints_length, h.e]; exact hk), intsL_at _ _ (by rw [h.e]; exact hk)]
theorem ch_tail (k : Nat) : (chL c)[33 + k]? = (i64 c.began :: (c.moves ++ [i64 c.audit, i64 c.phase]))[k]? := by
  rw [chL, show 33 + k = (32 + k) + 1 from by omega, List.getElem?_cons_succ, List.getElem?_append_right (by rw [ints_length, h.o]; omega), ints_length, h.o, show 32 + k - 16 = 16 + k from by omega,
    List.getElem?_append_right (by rw [ints_length, h.e]; omega), ints_length, h.e, show 16 + k - 16 = k from by omega]
theorem ch_33 : (chL c)[33]? = some (i64 c.began) := ch_tail h 0
theorem ch_34 : (chL c)[34]? = some (i64 c.ms) := ch_tail h 1
theorem ch_35 : (chL c)[35]? = some (i64 c.mf) := ch_tail h 2
theorem ch_36 : (chL c)[36]? = some (i64 c.mt) := ch_tail h 3
theorem ch_37 : (chL c)[37]? = some (i64 c.me) := ch_tail h 4
theorem ch_38 : (chL c)[38]? = some (i64 c.mp) := ch_tail h 5
theorem ch_39 : (chL c)[39]? = some (i64 c.mn) := ch_tail h 6
theorem ch_40 : (chL c)[40]? = some (i64 c.audit) := ch_tail h 7
theorem ch_41 : (chL c)[41]? = some (i64 c.phase) := ch_tail h 8

theorem ch_drop (k : Nat) : (chL c).drop (33 + k) = (i64 c.began :: (c.moves ++ [i64 c.audit, i64 c.phase])).drop k := by
  apply List.ext_getElem?
  intro j
  rw [List.getElem?_drop, List.getElem?_drop, show 33 + k + j = 33 + (k + j) from by omega, ch_tail h]
theorem ch_move : ((chL c).drop 34).take 6 = c.moves := by rw [ch_drop h 1]; rfl

/-- What stands behind the two arrays is another list. -/
theorem chs_tail (c' : Ch) (k : Nat) (v : Value) (h1 : c'.shards = c.shards) (h2 : c'.owner = c.owner) (h3 : c'.epoch = c.epoch)
    (ht : (i64 c.began :: (c.moves ++ [i64 c.audit, i64 c.phase])).set k v = (i64 c'.began :: (c'.moves ++ [i64 c'.audit, i64 c'.phase]))) : (chL c).set (33 + k) v = chL c' := by
  simp only [chL, h1, h2, h3]
  rw [← ht, show 33 + k = (32 + k) + 1 from by omega, List.set_cons_succ, List.set_append_right _ _ (by rw [ints_length, h.o]; omega), ints_length, h.o, show 32 + k - 16 = 16 + k from by omega,
    List.set_append_right _ _ (by rw [ints_length, h.e]; omega), ints_length, h.e, show 16 + k - 16 = k from by omega]
theorem chs_33 (x : Int) : (chL c).set 33 (i64 x) = chL { c with began := x } := chs_tail h _ 0 _ rfl rfl rfl rfl
theorem chs_34 (x : Int) : (chL c).set 34 (i64 x) = chL { c with ms := x } := chs_tail h _ 1 _ rfl rfl rfl rfl
theorem chs_35 (x : Int) : (chL c).set 35 (i64 x) = chL { c with mf := x } := chs_tail h _ 2 _ rfl rfl rfl rfl
theorem chs_36 (x : Int) : (chL c).set 36 (i64 x) = chL { c with mt := x } := chs_tail h _ 3 _ rfl rfl rfl rfl
theorem chs_37 (x : Int) : (chL c).set 37 (i64 x) = chL { c with me := x } := chs_tail h _ 4 _ rfl rfl rfl rfl
theorem chs_38 (x : Int) : (chL c).set 38 (i64 x) = chL { c with mp := x } := chs_tail h _ 5 _ rfl rfl rfl rfl
theorem chs_39 (x : Int) : (chL c).set 39 (i64 x) = chL { c with mn := x } := chs_tail h _ 6 _ rfl rfl rfl rfl
theorem chs_40 (x : Int) : (chL c).set 40 (i64 x) = chL { c with audit := x } := chs_tail h _ 7 _ rfl rfl rfl rfl
theorem chs_41 (x : Int) : (chL c).set 41 (i64 x) = chL { c with phase := x } := chs_tail h _ 8 _ rfl rfl rfl rfl

theorem chs_own (k : Nat) (hk : k < 16) (x : Int) : (chL c).set (1 + k) (i64 x) = chL { c with owner := c.owner.set k x } := by
  have hl : k < (ints c.owner).length := by rw [ints_length, h.o]; exact hk
  simp only [chL]
  rw [show 1 + k = k + 1 from by omega, List.set_cons_succ, List.set_append_left _ _ hl, ints_set]
  rfl
theorem chs_ep (k : Nat) (hk : k < 16) (x : Int) : (chL c).set (17 + k) (i64 x) = chL { c with epoch := c.epoch.set k x } := by
  simp only [chL]
  rw [show 17 + k = (16 + k) + 1 from by omega, List.set_cons_succ, List.set_append_right _ _ (by rw [ints_length, h.o]; omega), ints_length, h.o, show 16 + k - 16 = k from by omega,
    List.set_append_left _ _ (by rw [ints_length, h.e]; exact hk), ints_set]
  rfl
theorem chs_move (a b d e f g : Int) : (chL c).take 34 ++ [i64 a, i64 b, i64 d, i64 e, i64 f, i64 g] ++ (chL c).drop 40 = chL { c with ms := a, mf := b, mt := d, me := e, mp := f, mn := g } := by
  have h1 : (chL c).drop 40 = [i64 c.audit, i64 c.phase] := by rw [ch_drop h 7]; rfl
  have h2 : (chL c).take 34 = i64 c.shards :: (ints c.owner ++ (ints c.epoch ++ [i64 c.began])) := by
    have e1 : chL c = (i64 c.shards :: (ints c.owner ++ (ints c.epoch ++ [i64 c.began]))) ++ (c.moves ++ [i64 c.audit, i64 c.phase]) := by simp [chL]
    rw [e1]
    refine List.take_left' ?_
    simp [ints_length, h.o, h.e]
  rw [h1, h2]
  simp [chL, Ch.moves]
end
end Go.Q
