/- What the claim stands on, part 5: rules of the walk, contracts of the functions, plain laws. -/
import Derived.Test.YtnbcghbgeiocbaaDoorKHRecords4
import Derived.Maps.Own
import Derived.Sort.KeysCollected
import Derived.Lib.SlTrimSet
set_option linter.unusedVariables false
namespace Go.Q
open Go.RowKit
theorem HasMap.owns {P : Program} {k : TypeId} {α : Type} {vf : α → Value} {w : World} {b : Nat} {m : List (List UInt8 × α)} (hk : P.underlying k = some .string) (h : HasMap w b kstr vf m) (hl : ∀ x ∈ m, x.1.length ≤ maxLen) (hs : m.length ≤ maxLen) :
  ∃ D : DataW Unit, w.ownsMap P k (fun _ => some (DataW.nil, [])) b m.length D ∧ (strKeys D).Perm (m.map (·.1)) ∧ Maps.size D = m.length := by
 obtain ⟨es, clock, hb, hst, he⟩ := h
 have hkeys : es.toList.map (·.key) = m.map (fun x => kstr x.1) := by
  have := congrArg (List.map Prod.fst) he
  simpa [List.map_map, Function.comp_def] using this
 have hlen : es.size = m.length := by have := congrArg List.length he; simpa using this
 have hrd : ∀ x ∈ es.toList, ∃ y ∈ m, x.key = kstr y.1 ∧ WideElems.rd P k (fun _ => some (DataW.nil (H := Unit), [])) x = some (.string y.1, .nil) := by
  intro x hx
  have : x.key ∈ m.map (fun x => kstr x.1) := by rw [← hkeys]; exact List.mem_map.2 ⟨x, hx, rfl⟩
  obtain ⟨y, hy, e⟩ := List.mem_map.1 this
  refine ⟨y, hy, e.symm, ?_⟩
  have hsz : (str y.1).size ≤ maxLen := hl y hy
  unfold WideElems.rd
  rw [← e, kstr, Go.WideMaps.keyOf_string_mk hk hsz]
  simp [str]
 have hkl : ∀ l : List MapEntry, (∀ x ∈ l, ∃ y : List UInt8 × α, x.key = kstr y.1 ∧ WideElems.rd P k (fun _ => some (DataW.nil (H := Unit), [])) x = some (.string y.1, .nil)) → ((l.map (WideElems.rg P k (fun _ => some (DataW.nil (H := Unit), [])))).map fun p => strOf p.1).map kstr = l.map (·.key) := by
  intro l
  induction l with
  | nil => intro _; rfl
  | cons x l ih =>
   intro h
   obtain ⟨y, h1, h2⟩ := h x (List.mem_cons_self ..)
   rw [List.map_cons, List.map_cons, List.map_cons, List.map_cons, ih fun z hz => h z (List.mem_cons_of_mem _ hz), h1]
   congr 1
   unfold WideElems.rg
   rw [h2]
   rfl
 refine ⟨_, ⟨es, clock, hb, ⟨by omega, hst, fun x hx => ?_⟩, by omega, rfl⟩, ?_, ?_⟩
 ·obtain ⟨y, _, _, h2⟩ := hrd x hx
  exact ⟨_, h2⟩
 ·show (List.map (fun p : Lit × DataW Unit => strOf p.1) _).Perm _
  refine ((WideShapes.sorted_perm _).map _).trans (List.Perm.of_eq ?_)
  have h1 := hkl es.toList fun x hx => by obtain ⟨y, _, h1, h2⟩ := hrd x hx; exact ⟨y, h1, h2⟩
  rw [hkeys] at h1
  have h2 : (m.map (·.1)).map kstr = m.map (fun x => kstr x.1) := by rw [List.map_map]; rfl
  rw [← h2] at h1
  exact (List.map_inj_right (fun x y => (keyTy_str hk).inj x y)).1 h1
 ·rw [Maps.size_eq, (WideShapes.sorted_perm _).length_eq, List.length_map]
  simpa using hlen
theorem Book.names_ok {m : List (List UInt8 × AccV)} {S : List AccM} (h : Book m S) : ∀ x ∈ m, x.1.length ≤ 24 := by
 intro x hx
 obtain ⟨a, ha, rfl⟩ := List.mem_map.1 (h.perm.mem_iff.2 hx)
 have := (h.accs.ok a ha).name
 simp only [nameOk, Bool.and_eq_true, decide_eq_true_eq] at this
 exact this.1.2
def lettersB : List UInt8 := [97, 98, 99, 100, 101, 102, 103, 104, 105, 106, 107, 108, 109, 110, 111, 112, 113, 114, 115, 116, 117, 118, 119, 120, 121, 122, 48, 49, 50, 51, 52, 53, 54, 55, 56, 57, 95]
theorem letters_all (c : UInt8) : lettersB.contains c = letterB c := by
 have h : ∀ n : Fin 256, lettersB.contains (UInt8.ofNat n.val) = letterB (UInt8.ofNat n.val) := by decide +kernel
 have := h ⟨c.toNat, c.toNat_lt⟩
 simpa using this
theorem trim_letters (s : List UInt8) : (Lib.trimS s lettersB == []) = s.all letterB := by
 have h1 : ∀ l : List UInt8, (l.dropWhile (lettersB.contains ·) = [] ↔ l.all letterB = true) := by
  intro l
  induction l with
  | nil => simp
  | cons x l ih =>
   rw [List.dropWhile_cons]
   by_cases hx : lettersB.contains x = true
   ·rw [if_pos hx, ih, List.all_cons, ← letters_all, hx, Bool.true_and]
   ·rw [if_neg hx, List.all_cons, ← letters_all]
    rw [Bool.not_eq_true] at hx
    rw [hx, Bool.false_and]
    simp
 have h2 : Lib.trimS s lettersB = [] ↔ s.all letterB = true := by
  unfold Lib.trimS Lib.trimLeftS
  rw [h1]
  unfold Lib.trimRightS
  rw [List.all_reverse]
  constructor
  ·intro h
   by_cases hs : s.all letterB = true
   ·exact hs
   ·exfalso
    have h3 : s.reverse.dropWhile (lettersB.contains ·) ≠ [] := fun e => hs (by have := (h1 _).1 e; rwa [List.all_reverse] at this)
    have h4 := List.head_dropWhile_not (lettersB.contains ·) h3
    have h5 := List.all_eq_true.1 h _ (List.head_mem h3)
    rw [← letters_all] at h5
    exact absurd (h4.symm.trans h5) (by decide)
  ·intro hs
   rw [(h1 _).2 (by rw [List.all_reverse]; exact hs)]
   rfl
 cases hs : s.all letterB with
 | true => simp [h2.2 hs]
 | false =>
  have : Lib.trimS s lettersB ≠ [] := fun e => by rw [h2.1 e] at hs; cases hs
  simpa using this
def kcell (x : List UInt8) : List Value := [kstr x]
theorem kcell_len (x : List UInt8) : (kcell x).length = 1 := rfl
theorem kcells (l : List (List UInt8)) : l.flatMap kcell = l.map Go.Proofs.encStr := by
 induction l with
 | nil => rfl
 | cons x l ih => rw [List.flatMap_cons, List.map_cons, ih]; rfl
theorem AccM.Ok.len {a : AccM} (h : a.Ok) : a.name.length ≤ 24 := by
 have := h.name
 simp only [nameOk, Bool.and_eq_true, decide_eq_true_eq] at this
 exact this.1.2
def dropL (S : List AccM) (l : List RowM) : List AccM := l.foldl (fun S r => S.filter fun a => decide (a.name ≠ r.name)) S
theorem RdT.ld1 {P : Program} {t : TypeId} {w : World} {α : Type} {f : α → List Value} {l : List α} {A : Option Addr} {n c k b off : Nat} {x : α} {u : Value} (hf : ∀ x, (f x).length = 1) (h : RdT w 1 f (.slice A n c) l) (ht : isAgg? P t = some false) (hA : A = some ⟨b, off, none⟩)
  (hx : l[k]? = some x) (hu : (f x)[0]? = some u) : Loads P w t ⟨b, off + k, none⟩ u := by
 have := RdT.ldf (o := 0) hf h ht hA hx hu
 simpa using this
def knownS : List AccM := chgS (holdF [121]) (chgS (holdF [120]) (chgS (takeF 6) (chgS (addF 5) (putS [] [97, 110, 110] 0) [97, 110, 110]) [97, 110, 110]) [97, 110, 110]) [97, 110, 110]
end Go.Q
