/- What the claim stands on, part 11: rules of the walk, contracts of the functions, plain laws. -/
import Derived.Test.YtnbcghbgeiocbaaDoorKHRecords10
import Derived.Lib.ItoaLen
import Derived.Lib.ItoaMem
import Derived.Lib.LaidTab
import Derived.Lib.Bytealg
import Derived.Sort.LotA
import Derived.Sort.Grow
import Derived.Test.YtnbcghbgeiocbaaDoorKHRecords9
import Derived.Test.YtnbcghbgeiocbaaDoorKHRecords6
import Derived.Test.YtnbcghbgeiocbaaDoorProg
import Derived.Test.YtnbcghbgeiocbaaDoorKHRecords8
import Derived.SizedLaws
import Derived.Laws.OwnMore
set_option linter.unusedVariables false
namespace Go.Q
open Go.RowKit
def rowT (a : RowM) : List UInt8 := a.name ++ [61] ++ Lib.itoa a.amount ++ [32]
def idT (x : List UInt8 × List UInt8) (why : Int) : List UInt8 := x.1 ++ [47] ++ x.2 ++ [58] ++ Lib.decDigits why.toNat ++ [32]
def keptT (k : KeptM) : List UInt8 := idT k.id k.why
def ltI (a b : List UInt8 × List UInt8) : Prop := a.1 < b.1 ∨ (a.1 = b.1 ∧ a.2 < b.2)
instance (a b : List UInt8 × List UInt8) : Decidable (ltI a b) := by unfold ltI; infer_instance
def insK : List KeptM → KeptM → List KeptM
 | [], x => [x]
 | y :: l, x => if ltI y.id x.id then y :: insK l x else x :: y :: l
def sortK (K : List KeptM) : List KeptM := K.foldl insK []
def textE (S : List RowM) (K : List KeptM) : List UInt8 := S.flatMap rowT ++ (sortK K).flatMap keptT
abbrev ordK (l : List KeptM) : Prop := l.Pairwise (fun a b => ltI a.id b.id)
def cmpI (x y : List UInt8 × List UInt8) : Int := if x.1 = y.1 then Lib.compareBytes x.2 y.2 else Lib.compareBytes x.1 y.1
theorem dec_len {n : Nat} (h : n < 18446744073709551616) : (Lib.decDigits n).length ≤ 20 := by rw [Lib.decDigits_length]; exact Lib.nDigits_le20 n h
theorem itoa_len {n : Int} (h : 0 ≤ n ∧ n ≤ 9223372036854775807) : (Lib.itoa n).length ≤ 20 := by
 unfold Lib.itoa
 rw [if_neg (by omega)]
 exact dec_len (by omega)
theorem rowT_len {a : RowM} (h : a.Fit) : (rowT a).length ≤ 50 := by
 have h1 := (nameOk_len h.name).2
 have h2 := itoa_len ⟨h.lo, h.hi⟩
 unfold rowT
 simp only [List.length_append, List.length_cons, List.length_nil]
 omega
theorem flatM_len {α : Type} {f : α → List UInt8} {c : Nat} : ∀ {l : List α}, (∀ x ∈ l, (f x).length ≤ c) → (l.flatMap f).length ≤ l.length * c
 | [], _ => by simp
 | x :: l, h => by
  rw [List.flatMap_cons, List.length_append, List.length_cons, Nat.add_mul]
  have h1 := h x (List.mem_cons_self ..)
  have h2 := flatM_len fun y hy => h y (List.mem_cons_of_mem _ hy)
  omega
theorem Led.flat {S : List RowM} (h : Led S) (i : Nat) : ((S.take i).flatMap rowT).length ≤ S.length * 50 := by
 have h1 := flatM_len (f := rowT) (c := 50) (l := S.take i) fun x hx => rowT_len (h.ok x (List.mem_of_mem_take hx))
 have h2 : (S.take i).length ≤ S.length := by rw [List.length_take]; omega
 have h3 := Nat.mul_le_mul_right 50 h2
 omega
def Tab (P : Program) (w : World) (g : Nat) : Prop := P.globalNamed "internal/strconv.uint64pow10" = some g ∧ Lib.TabIs P w "internal/strconv.uint64pow10" .u64 Lib.pow10Tab
theorem Tab.cells {P : Program} {w : World} {g : Nat} (h : Tab P w g) : ∃ cs t fz, w.heap[g]? = some (.cells cs t fz) ∧ cs = (Lib.pow10Tab.map fun z => Value.int .u64 z).toArray := by
 obtain ⟨h1, h2⟩ := h
 unfold Lib.TabIs World.var? at h2
 rw [h1] at h2
 simp only [Option.bind_some] at h2
 split at h2
 ·next cs t fz hc => exact ⟨cs, t, fz, hc, by injection h2⟩
 ·cases h2
theorem Tab.lt {P : Program} {w : World} {g : Nat} (h : Tab P w g) : g < w.heap.size := by
 obtain ⟨_, _, _, h1, _⟩ := h.cells
 exact (Array.getElem?_eq_some_iff.1 h1).1
theorem Tab.keep {P : Program} {w w' : World} {g : Nat} {S : Nat → Prop} (h : Tab P w g) (k : Keeps S w w') (hg : ¬ S g) : Tab P w' g := by
 have hl := h.lt
 refine ⟨h.1, ?_⟩
 have h2 := h.2
 unfold Lib.TabIs World.var? at h2 ⊢
 rw [h.1] at h2 ⊢
 simp only [Option.bind_some] at h2 ⊢
 rw [k.blk g hl hg]
 exact h2
theorem Keeps.grown {w : World} (q : Nat) (os : Array Obj) : Keeps none_ w (Sort.grow (w.drewN q) os) :=
 ⟨rfl, rfl, rfl, by show w.heap.size ≤ (w.heap ++ os).size; rw [Array.size_append]; omega, fun i hi _ => by show (w.heap ++ os)[i]? = _; rw [Array.getElem?_append_left hi]⟩
end Go.Q
namespace Go.Q
open Go.RowKit
abbrev ann_ : List UInt8 := [97, 110, 110]
abbrev ko1 : Opm := ⟨1, [97, 110, 110], [], 0, [107, 49], 0, 0⟩
abbrev ko2 : Opm := ⟨2, [97, 110, 110], [], 5, [107, 50], 0, 0⟩
abbrev ko4 : Opm := ⟨2, [97, 110, 110], [], 6, [107, 50], 0, 0⟩
abbrev ko5 : Opm := ⟨4, [97, 110, 110], [98, 111, 98], 5, [107, 51], 0, 0⟩
abbrev kA : List RowM := [⟨[97, 110, 110], 0⟩]
abbrev kB : List RowM := [⟨[97, 110, 110], 5⟩]
theorem doK_len (S : List RowM) (K : List KeptM) (o : Opm) : (doK S K o).length ≤ K.length + 1 := by
 unfold doK
 split
 ·rw [List.length_append]; exact Nat.le_refl _
 ·omega
theorem doK_pre (S : List RowM) (K : List KeptM) (o : Opm) : K <+: doK S K o := by
 unfold doK
 split
 ·exact List.prefix_append _ _
 ·exact List.prefix_refl _
end Go.Q
namespace Go.Q
open Go.RowKit
theorem getM_append {κ α : Type} [DecidableEq κ] {m l : List (κ × α)} {x : κ} {a : α} (h : getM m x = some a) : getM (m ++ l) x = some a := by
 unfold getM at h ⊢
 rw [List.find?_append]
 obtain ⟨z, h1, h2⟩ := Option.map_eq_some_iff.1 h
 rw [h1]
 exact congrArg some h2
theorem findK_pre {K K' : List KeptM} (h : K <+: K') {f k : List UInt8} {x : KeptM} (hx : findK K f k = some x) : findK K' f k = some x := by
 obtain ⟨L, rfl⟩ := h
 unfold findK at hx ⊢
 rw [List.map_append]
 exact getM_append hx
theorem findK_last {K : List KeptM} {x : KeptM} (h : findK K x.op.frm x.op.key = none) : findK (K ++ [x]) x.op.frm x.op.key = some x := by
 have h1 := findK_none h
 unfold findK at h ⊢
 rw [List.map_append]
 unfold getM at h ⊢
 rw [List.find?_append]
 have h2 : (K.map KeptM.kv).find? (fun z => decide (z.1 = (x.op.frm, x.op.key))) = none := Option.map_eq_none_iff.1 h
 rw [h2, Option.none_or]
 simp [KeptM.kv, KeptM.id]
end Go.Q
namespace Go.Q
open Go.RowKit
deriving instance DecidableEq for RowM
deriving instance DecidableEq for ReplyM
theorem Led.act {S : List RowM} {o : Opm} (h : Led S) (hk : 1 ≤ o.kind ∧ o.kind ≤ 4) (hn : nameOk o.frm = true) (ha : o.kind ≠ 1 → 1 ≤ o.amount) : Led (actS S o) := by
 unfold actS
 split
 ·split
  ·exact h
  ·next hg => exact h.ins ⟨hn, Int.le_refl 0, by show (0 : Int) ≤ 9223372036854775807; decide⟩ (by cases q : getW S o.frm with | none => rfl | some a => rw [q] at hg; exact absurd rfl hg)
 ·next h1 =>
  have h1 := ha h1
  cases hg : getW S o.frm with
  | none => exact h
  | some a =>
   have hm := h.ok a (getW_some hg).1
   have hl := hm.lo
   have hh := hm.hi
   dsimp only
   split
   ·split
    ·exact h
    ·exact h.set ⟨by omega, by omega⟩
   ·split
    ·exact h
    ·split
     ·cases hg2 : getW S o.to with
      | none => exact h
      | some b =>
       have hm2 := h.ok b (getW_some hg2).1
       have hl2 := hm2.lo
       have hh2 := hm2.hi
       dsimp only
       split
       ·exact h
       ·exact (h.set ⟨by omega, by omega⟩).set ⟨by omega, by omega⟩
     ·exact h.set ⟨by omega, by omega⟩
theorem Ledg.do {S : List RowM} {K : List KeptM} {o : Opm} (h : Ledg S K) (ho : -9223372036854775808 ≤ o.amount ∧ o.amount ≤ 9223372036854775807) : Ledg (doS S K o) (doK S K o) := by
 by_cases hf : Fresh K o
 ·obtain ⟨hw, h7, h6, h5, hk⟩ := hf
  obtain ⟨q1, q2, q3, q4, q5⟩ := wrong_act hw h7 h6 h5
  obtain ⟨_, e1, e2⟩ := do_fresh (S := S) hw h7 h6 h5 hk
  rw [e1, e2]
  have hB : LBook (S.map RowM.pair) S K := ⟨h, List.Perm.refl _⟩
  have hl : Led (actS S (plainE o)) := h.led.act (o := plainE o) q1 q2 (fun hne => by rw [plainE_amount o hne]; exact q4 hne)
  exact (hB.fresh hw h7 h6 h5 hk ho (m' := (actS S (plainE o)).map RowM.pair) ⟨hl, List.Perm.refl _⟩).ledg
 ·unfold doS doK
  rw [if_neg hf, if_neg hf]
  exact h
theorem findK_perm {K R : List KeptM} (hK : (K.map KeptM.id).Nodup) (h : K.Perm R) (f k : List UInt8) : findK K f k = findK R f k := by
 have hR : (R.map KeptM.id).Nodup := ((h.map KeptM.id).nodup_iff).1 hK
 cases hf : findK K f k with
 | some x => exact (kept_same hR h (getM_mem hf)).symm
 | none =>
  cases hr : findK R f k with
  | none => rfl
  | some x =>
   have := kept_same hK h.symm (getM_mem hr)
   rw [show getM (K.map KeptM.kv) (f, k) = findK K f k from rfl, hf] at this
   cases this
theorem do_perm {S : List RowM} {K R : List KeptM} (hK : (K.map KeptM.id).Nodup) (h : K.Perm R) (o : Opm) : doR S K o = doR S R o ∧ doS S K o = doS S R o ∧ (doK S K o).Perm (doK S R o) := by
 have hf := findK_perm hK h o.frm o.key
 have hF : Fresh K o ↔ Fresh R o := by unfold Fresh; rw [hf]
 refine ⟨by unfold doR; rw [hf], by unfold doS; by_cases q : Fresh K o; (rw [if_pos q, if_pos (hF.1 q)]); (rw [if_neg q, if_neg fun z => q (hF.2 z)]), ?_⟩
 unfold doK
 by_cases q : Fresh K o
 ·rw [if_pos q, if_pos (hF.1 q)]; exact h.append_right _
 ·rw [if_neg q, if_neg fun z => q (hF.2 z)]; exact h
structure HCall where
 op : Opm
 bg : Int
 en : Int
 told : Bool
 rep : ReplyM
def aheadH (a b : HCall) : Bool := a.told && decide (a.en < b.bg)
def countsH (c : HCall) : Bool := !c.told || decide (c.rep.why ≠ 50)
def lookedH (l : List HCall) : List (HCall × Nat) := l.zipIdx.filter fun p => countsH p.1
abbrev LS_ := List RowM × List KeptM
def stepH (c : HCall) (s : LS_) : Option LS_ := if c.told && decide (doR s.1 s.2 c.op ≠ c.rep) then none else some (doS s.1 s.2 c.op, doK s.1 s.2 c.op)
def probH (X : List (HCall × Nat)) : Prob LS_ where
 n := X.length
 num i := match X[i]? with | some c => c.2 | none => 0
 wait d i := match X[i]? with | some c => X.zipIdx.any fun p => decide (p.2 ≠ i) && !d.testBit p.2 && aheadH p.1.1 c.1 | none => true
 step i s := match X[i]? with | some c => stepH c.1 s | none => none
 told i := match X[i]? with | some c => c.1.told | none => false
 ok s := Ledg s.1 s.2
def leftH (X : List (HCall × Nat)) : Int := ((X.countP fun c => c.1.told : Nat) : Int)
def startH (X : List (HCall × Nat)) : Sr LS_ := ⟨[], 0, leftH X, ([], [])⟩
def orderH (l : List HCall) : List Nat × Bool × Int :=
 if 8 < (lookedH l).length then ([], false, 3)
 else if (lookedH l).any (fun c => c.1.told && decide (c.1.en < c.1.bg)) then ([], false, 1)
 else match (probH (lookedH l)).sv (startH (lookedH l)) with | some o => (o, true, 0) | none => ([], false, 0)
def sameL (a b : LS_) : Prop := a.1 = b.1 ∧ a.2.Perm b.2
theorem probH_like {X : List (HCall × Nat)} (hX : ∀ c ∈ X, -9223372036854775808 ≤ c.1.op.amount ∧ c.1.op.amount ≤ 9223372036854775807) : (probH X).Like sameL where
 keep i a a' hi ha h := by
  have h : (match X[i]? with | some c => stepH c.1 a | none => none) = some a' := h
  cases hc : X[i]? with
  | none => rw [hc] at h; cases h
  | some c =>
   rw [hc] at h
   have h : stepH c.1 a = some a' := h
   unfold stepH at h
   split at h
   ·cases h
   ·cases h
    exact Ledg.do ha (hX c (List.mem_of_getElem? hc))
 step a b i hi ha hb hab := by
  obtain ⟨S, K⟩ := a
  obtain ⟨S2, R⟩ := b
  obtain ⟨h1, h2⟩ := hab
  have h1 : S = S2 := h1
  have h2 : K.Perm R := h2
  subst h1
  have ha : Ledg S K := ha
  show ((match X[i]? with | some c => stepH c.1 (S, K) | none => none) = none ∧ (match X[i]? with | some c => stepH c.1 (S, R) | none => none) = none) ∨ ∃ a' b', (match X[i]? with | some c => stepH c.1 (S, K) | none => none) = some a' ∧ (match X[i]? with | some c => stepH c.1 (S, R) | none => none) = some b' ∧ sameL a' b'
  cases hc : X[i]? with
  | none => exact .inl ⟨rfl, rfl⟩
  | some c =>
   obtain ⟨q1, q2, q3⟩ := do_perm ha.ids h2 c.1.op (S := S)
   dsimp only
   unfold stepH
   dsimp only
   rw [← q1, ← q2]
   split
   ·exact .inl ⟨rfl, rfl⟩
   ·exact .inr ⟨_, _, rfl, rfl, rfl, q3⟩
theorem startH_V (X : List (HCall × Nat)) : (probH X).V (startH X) := by
 refine ⟨?_, Ledg.nil⟩
 show ((X.countP fun c => c.1.told : Nat) : Int) = (((List.range X.length).countP fun i => (match X[i]? with | some c => c.1.told | none => false) && !(0 : Nat).testBit i : Nat) : Int)
 congr 1
 have h1 : ∀ (Y Z : List (HCall × Nat)), X = Z ++ Y → (Y.countP fun c => c.1.told) = (List.range' Z.length Y.length).countP fun i => (match X[i]? with | some c => c.1.told | none => false) && !(0 : Nat).testBit i := by
  intro Y
  induction Y with
  | nil => intro Z _; rfl
  | cons c Y ih =>
   intro Z hZ
   rw [List.length_cons, List.range'_succ, List.countP_cons, List.countP_cons, ih (Z ++ [c]) (by rw [hZ]; simp)]
   have : X[Z.length]? = some c := by rw [hZ]; simp
   rw [this, List.length_append, List.length_singleton, Nat.zero_testBit]
   simp
 have h2 := h1 X [] rfl
 rw [h2, List.range_eq_range']
 rfl
end Go.Q
namespace Go.Q
open Go.ChangeShapes Go.WideShapes Go.ChangeAt Go.RowKit Go.Deep
structure EntP where
 term : Int
 A : Option Addr
 c : Nat
 cmd : List UInt8
def EntP.cells (x : EntP) : List Value := [i64 x.term, .slice x.A x.cmd.length x.c]
def EntP.key (x : EntP) : Int × List UInt8 := (x.term, x.cmd)
theorem EntP.two (x : EntP) : x.cells.length = 2 := rfl
theorem EntP.one (x : EntP) : oneCells x.cells = true := rfl
abbrev RdE (w : World) (v : Value) (l : List EntP) : Prop := RdT w 2 EntP.cells v l
abbrev OwnE (w : World) (base e : Nat) (v : Value) (l : List EntP) : Prop := OwnT w base e 2 EntP.cells v l
def EntsIn (w : World) (l : List EntP) : Prop := ∀ x ∈ l, RdB w (.slice x.A x.cmd.length x.c) x.cmd
def EntsOk (l : List EntP) : Prop := ∀ x ∈ l, -9223372036854775808 ≤ x.term ∧ x.term ≤ 9223372036854775807
structure MsgP where
 kind : Int
 group : Int
 frm : Int
 to : Int
 term : Int
 index : Int
 logTerm : Int
 commit : Int
 ok : Bool
 entries : List EntP
 data : List UInt8
def MsgP.ints (m : MsgP) : List Int := [m.kind, m.group, m.frm, m.to, m.term, m.index, m.logTerm, m.commit]
structure MsgP.Ok (m : MsgP) : Prop where
 kind : -9223372036854775808 ≤ m.kind ∧ m.kind ≤ 9223372036854775807
 group : -9223372036854775808 ≤ m.group ∧ m.group ≤ 9223372036854775807
 frm : -9223372036854775808 ≤ m.frm ∧ m.frm ≤ 9223372036854775807
 to : -9223372036854775808 ≤ m.to ∧ m.to ≤ 9223372036854775807
 term : -9223372036854775808 ≤ m.term ∧ m.term ≤ 9223372036854775807
 index : -9223372036854775808 ≤ m.index ∧ m.index ≤ 9223372036854775807
 logTerm : -9223372036854775808 ≤ m.logTerm ∧ m.logTerm ≤ 9223372036854775807
 commit : -9223372036854775808 ≤ m.commit ∧ m.commit ≤ 9223372036854775807
 ents : EntsOk m.entries
def entsv : List EntP → List UInt8
 | [] => []
 | x :: l => iv x.term ++ (tv x.cmd ++ entsv l)
def headv (m : MsgP) : List UInt8 := iv m.kind ++ (iv m.group ++ (iv m.frm ++ (iv m.to ++ (iv m.term ++ (iv m.index ++ (iv m.logTerm ++ (iv m.commit ++ uv m.ok.toNat)))))))
def msgv (m : MsgP) : List UInt8 := headv m ++ (uv m.entries.length ++ (entsv m.entries ++ tv m.data))
def sumc : List EntP → Nat
 | [] => 0
 | x :: l => x.cmd.length + sumc l
structure MsgP.Fits (m : MsgP) : Prop where
 count : m.entries.length ≤ 4096
 data : m.data.length ≤ 65536
 cmds : ∀ x ∈ m.entries, x.cmd.length ≤ 65536
 size : (msgv m).length ≤ 1048576
theorem sumc_append : ∀ (l m : List EntP), sumc (l ++ m) = sumc l + sumc m
 | [], m => by simp [sumc]
 | x :: l, m => by simp only [List.cons_append, sumc, sumc_append l m]; omega
theorem sumc_take_le (l : List EntP) (i : Nat) : sumc (l.take i) ≤ sumc l := by
 have := sumc_append (l.take i) (l.drop i)
 rw [List.take_append_drop] at this
 omega
theorem entsv_sum : ∀ (l : List EntP), sumc l ≤ (entsv l).length
 | [] => Nat.le_refl _
 | x :: l => by
  have h1 := entsv_sum l
  have h2 := tv_ge x.cmd
  simp only [entsv, sumc, List.length_append]
  omega
theorem msgv_len (m : MsgP) : (msgv m).length = (headv m).length + (uv m.entries.length).length + (entsv m.entries).length + (tv m.data).length := by
 unfold msgv
 simp only [List.length_append]
 omega
def MsgP.Pre (m : MsgP) (i : Nat) : Prop := m.entries.length ≤ 4096 ∧ m.data.length ≤ 65536 ∧ (∀ x ∈ m.entries.take i, x.cmd.length ≤ 65536) ∧ (i = 0 ∨ m.data.length + sumc (m.entries.take i) ≤ 1048576)
theorem MsgP.Fits.pre {m : MsgP} (h : m.Fits) (i : Nat) : m.Pre i := by
 refine ⟨h.count, h.data, fun x hx => h.cmds x (List.mem_of_mem_take hx), .inr ?_⟩
 have h1 := h.size
 rw [msgv_len] at h1
 have h2 := entsv_sum m.entries
 have h3 := sumc_take_le m.entries i
 have h4 := tv_ge m.data
 omega
section
variable {H : Type} {enc : TypeId × Value → H} {P : Program} {w : World} {base : Nat} {spare : Nat → Bool} {held : Bool}
end
end Go.Q
namespace Go.Q
theorem EntsIn.keep {w w' : World} {l : List EntP} (h : EntsIn w l) (K : Keeps none_ w w') : EntsIn w' l := fun x hx => (h x hx).keep0 (by omega) K
end Go.Q
namespace Go.Q
end Go.Q
namespace Go.Q
end Go.Q
namespace Go.Q
open Go.ChangeShapes Go.WideShapes Go.ChangeAt Go.RowKit Go.Deep
structure Bulk {H : Type} (B : DataW H → Nat) : Prop where
 str : ∀ s, s.length ≤ B (.lit (.string s))
 agg : ∀ ps z, z ∈ ps → B z ≤ B (.agg ps)
 el : ∀ es sp z, z ∈ es → B z ≤ B (.slice es sp)
 len : ∀ es sp, es.length ≤ B (.slice es sp)
section
variable {H : Type} {enc : TypeId × Value → H} {P : Program} {w : World} {base : Nat} {spare : Nat → Bool} {held : Bool} {B : DataW H → Nat}
def i64s (P : Program) (fs : Array Field) : Nat → Bool
 | 0 => true
 | j + 1 => (match fieldOf? P fs j with | some (.int .i64) => true | _ => false) && i64s P fs j
end
end Go.Q
namespace Go.Q
open Go.RowKit
structure MsgP.Same (a b : MsgP) : Prop where
 kind : a.kind = b.kind
 group : a.group = b.group
 frm : a.frm = b.frm
 to : a.to = b.to
 term : a.term = b.term
 index : a.index = b.index
 logTerm : a.logTerm = b.logTerm
 commit : a.commit = b.commit
 ok : a.ok = b.ok
 ents : a.entries.map EntP.key = b.entries.map EntP.key
 data : a.data = b.data
end Go.Q
namespace Go.Q
open Go.RowKit
def Rdr.nth : Nat → Rdr → Rdr
 | 0, r => r
 | n + 1, r => (Rdr.nth n r).int.2
def Rdr.ents : Nat → Rdr → List (Int × List UInt8) × Rdr
 | 0, r => ([], r)
 | n + 1, r => if r.why ≠ 0 then ([], r) else ((r.int.1, r.int.2.bytes.1) :: (Rdr.ents n r.int.2.bytes.2).1, (Rdr.ents n r.int.2.bytes.2).2)
structure MsgC where
 ints : List Int
 ok : Bool
 ents : List (Int × List UInt8)
 data : List UInt8
def MsgP.core (m : MsgP) : MsgC := ⟨m.ints, m.ok, m.entries.map EntP.key, m.data⟩
def MsgC.zero : MsgC := ⟨[0, 0, 0, 0, 0, 0, 0, 0], false, [], []⟩
def Rdr.mok (r : Rdr) : Bool × Rdr := (Rdr.nth 8 r).bool_
def Rdr.mcnt (r : Rdr) : Nat × Rdr := r.mok.2.sized 4096
def Rdr.ments (r : Rdr) : List (Int × List UInt8) × Rdr := Rdr.ents r.mcnt.1 r.mcnt.2
def Rdr.mdata (r : Rdr) : List UInt8 × Rdr := r.ments.2.bytes
def Rdr.mint (r : Rdr) (i : Nat) : Int := (Rdr.nth i r).int.1
def Rdr.mints (r : Rdr) : List Int := [r.mint 0, r.mint 1, r.mint 2, r.mint 3, r.mint 4, r.mint 5, r.mint 6, r.mint 7]
def Rdr.mfit (r : Rdr) : Prop := (1 ≤ r.mint 0 ∧ r.mint 0 ≤ 6) ∧ (0 ≤ r.mint 1 ∧ r.mint 1 ≤ 3) ∧ (0 ≤ r.mint 2 ∧ r.mint 2 ≤ 4) ∧ (0 ≤ r.mint 3 ∧ r.mint 3 ≤ 4)
instance (r : Rdr) : Decidable r.mfit := by unfold Rdr.mfit; infer_instance
def unmsgB (bs : List UInt8) : MsgC × Int :=
 if 1048576 < bs.length then (MsgC.zero, 3)
 else if (⟨bs, 0, 0⟩ : Rdr).mdata.2.end_ ≠ 0 then (MsgC.zero, (⟨bs, 0, 0⟩ : Rdr).mdata.2.end_)
 else if (⟨bs, 0, 0⟩ : Rdr).mfit then (⟨(⟨bs, 0, 0⟩ : Rdr).mints, (⟨bs, 0, 0⟩ : Rdr).mok.1, (⟨bs, 0, 0⟩ : Rdr).ments.1, (⟨bs, 0, 0⟩ : Rdr).mdata.1⟩, 0)
 else (MsgC.zero, 1)
def EntsMine (e : Nat) (w : World) (base : Nat) (v : Value) (l : List EntP) : Prop := ∀ x ∈ l, OwnB w base e (.slice x.A x.cmd.length x.c) x.cmd ∧ ∀ g o s, x.A = some ⟨g, o, s⟩ → base ≤ g ∧ g < w.heap.size ∧ v.ownBlock ≠ some g
theorem EntsMine.ins {e : Nat} {w : World} {base : Nat} {v : Value} {l : List EntP} (h : EntsMine e w base v l) : EntsIn w l := fun x hx => OwnB.rd (h x hx).1
theorem EntsMine.keep {e : Nat} {S : Nat → Prop} {w w' : World} {base : Nat} {v : Value} {l : List EntP} (h : EntsMine e w base v l) (K : Keeps S w w') (hS : ∀ i, base ≤ i → v.ownBlock ≠ some i → ¬ S i) : EntsMine e w' base v l := by
 intro x hx
 obtain ⟨h1, h2⟩ := h x hx
 refine ⟨own_keep h1 K fun b hb => ?_, fun g o s hg => ?_⟩
 ·cases hA : x.A with
  | none => rw [hA] at hb; cases hb
  | some a =>
   rw [hA] at hb
   simp only [Value.ownBlock, Option.some.injEq] at hb
   obtain ⟨q1, _, q3⟩ := h2 a.block a.off a.spot hA
   exact hS b (by omega) (hb ▸ q3)
 ·obtain ⟨q1, q2, q3⟩ := h2 g o s hg
  exact ⟨q1, Nat.lt_of_lt_of_le q2 K.size, q3⟩
theorem EntsMine.grow {e : Nat} {w : World} {base m : Nat} {v v' : Value} {l : List EntP} (h : EntsMine e w base v l) (hg : ∀ i, v'.ownBlock = some i → v.ownBlock = some i ∨ m ≤ i) (hm : ∀ x ∈ l, ∀ g o s, x.A = some ⟨g, o, s⟩ → g < m) : EntsMine e w base v' l := by
 intro x hx
 obtain ⟨h1, h2⟩ := h x hx
 refine ⟨h1, fun g o s hA => ?_⟩
 obtain ⟨q1, q2, q3⟩ := h2 g o s hA
 refine ⟨q1, q2, fun hv => ?_⟩
 rcases hg g hv with h | h
 ·exact q3 h
 ·have := hm x hx g o s hA; omega
theorem EntsMine.lt {e : Nat} {w : World} {base : Nat} {v : Value} {l : List EntP} (h : EntsMine e w base v l) : ∀ x ∈ l, ∀ g o s, x.A = some ⟨g, o, s⟩ → g < w.heap.size := fun x hx g o s hA => ((h x hx).2 g o s hA).2.1
theorem EntsMine.snoc {e : Nat} {w : World} {base : Nat} {v : Value} {l : List EntP} {x : EntP} (h : EntsMine e w base v l) (hx : OwnB w base e (.slice x.A x.cmd.length x.c) x.cmd) (ha : ∀ g o s, x.A = some ⟨g, o, s⟩ → base ≤ g ∧ g < w.heap.size ∧ v.ownBlock ≠ some g) : EntsMine e w base v (l ++ [x]) := by
 intro y hy
 rcases List.mem_append.1 hy with hy | hy
 ·exact h y hy
 ·rw [List.mem_singleton] at hy; subst hy; exact ⟨hx, ha⟩
end Go.Q
namespace Go.Q
open Go.RowKit
section
variable {P : Program} {n : Nat} {os : Array Oper} {K : Loc → World → Prop} {L L1 La : Loc} {L2 L3 Rl : Nat → Loc} {w : World} {i j : Nat} {di dj : Option Tmp} {S : World → Prop} {fuel : Nat} {is : List Nat}
end
end Go.Q
namespace Go.Q
theorem EntsMine.new {e : Nat} {w : World} {base c : Nat} {v : Value} {l : List EntP} (h : EntsMine e w base v l) (hc : w.heap.size ≤ c) : ∀ x ∈ l, ∀ g o s, x.A = some ⟨g, o, s⟩ → g ≠ c := fun x hx g o s hA => by
 have := ((h x hx).2 g o s hA).2.1; omega
theorem EntsMine.own {e : Nat} {w : World} {base : Nat} {v : Value} {l : List EntP} (h : EntsMine e w base v l) : ∀ x ∈ l, ∀ g o s, x.A = some ⟨g, o, s⟩ → v.ownBlock ≠ some g := fun x hx g o s hA => ((h x hx).2 g o s hA).2.2
theorem EntsMine.nil {e : Nat} (w : World) (base : Nat) (v : Value) : EntsMine e w base v [] := fun x hx => by cases hx
theorem EntsMine.add {w' : World} {base e m : Nat} {v v' : Value} {l : List EntP} {x : EntP} (h : EntsMine e w' base v l) (hx : OwnB w' base e (.slice x.A x.cmd.length x.c) x.cmd) (hl : ∀ y ∈ l ++ [x], ∀ g o s, y.A = some ⟨g, o, s⟩ → g < m)
  (hg : ∀ i, v'.ownBlock = some i → v.ownBlock = some i ∨ m ≤ i) (hv : ∀ g o s, x.A = some ⟨g, o, s⟩ → v.ownBlock ≠ some g) : EntsMine e w' base v' (l ++ [x]) := by
 have h1 : EntsMine e w' base v (l ++ [x]) := h.snoc hx fun g o s hA => by
  have hlt := World.ownsRow.lt hx g (by rw [hA]; rfl)
  exact ⟨hlt.1, hlt.2, hv g o s hA⟩
 exact h1.grow hg hl
end Go.Q
namespace Go.Q
theorem EntsOk.add {l : List EntP} {x : EntP} (h : EntsOk l) (hx : -9223372036854775808 ≤ x.term ∧ x.term ≤ 9223372036854775807) : EntsOk (l ++ [x]) := by
 intro y hy
 rcases List.mem_append.1 hy with hy | hy
 ·exact h y hy
 ·rw [List.mem_singleton] at hy; subst hy; exact hx
end Go.Q
namespace Go.Q
open Go.RowKit
structure Ents (w : World) (T : Nat → Prop) (v : Value) (l : List EntP) : Prop where
 rd : RdE w v l
 ins : EntsIn w l
 own : l ≠ [] → ∀ i, v.ownBlock = some i → T i
 inn : ∀ x ∈ l, x.cmd ≠ [] → ∀ i, (Value.slice x.A x.cmd.length x.c).ownBlock = some i → T i
 lt : ∀ i, T i → i < w.heap.size
theorem Rd.keep_nil {w w' : World} {sz : Nat} {v : Value} {xs : List Value} (hsz : 0 < sz) (h : Rd w sz v xs) (h0 : xs = []) : Rd w' sz v xs := by
 obtain ⟨A, n, c, rfl, hl, hc, hm, hx⟩ := h
 subst h0
 have hn : n = 0 := by
  rcases Nat.mul_eq_zero.1 (show n * sz = 0 by simpa using hl.symm) with h | h
  ·exact h
  ·omega
 exact ⟨A, n, c, rfl, hl, hc, hm, fun h => by omega⟩
theorem Ents.keep {S T : Nat → Prop} {w w' : World} {v : Value} {l : List EntP} (h : Ents w T v l) (K : Keeps S w w') (hS : ∀ i, T i → ¬ S i) : Ents w' T v l where
 rd := by
  by_cases hl : l = []
  ·exact Rd.keep_nil (by decide) h.rd (by rw [hl]; rfl)
  ·exact Rd.keep (by decide) h.rd K fun b hb => hS b (h.own hl b hb)
 ins x hx := by
  by_cases hl : x.cmd = []
  ·exact Rd.keep_nil (by decide) (h.ins x hx) (by rw [hl]; rfl)
  ·exact Rd.keep (by decide) (h.ins x hx) K fun b hb => hS b (h.inn x hx hl b hb)
 own := h.own
 inn := h.inn
 lt i hi := Nat.lt_of_lt_of_le (h.lt i hi) K.size
theorem Ents.keep0 {T : Nat → Prop} {w w' : World} {v : Value} {l : List EntP} (h : Ents w T v l) (K : Keeps none_ w w') : Ents w' T v l := h.keep K fun _ _ h => h
theorem Ents.mono {T U : Nat → Prop} {w : World} {v : Value} {l : List EntP} (h : Ents w T v l) (hT : ∀ i, T i → U i) (hU : ∀ i, U i → i < w.heap.size) : Ents w U v l :=
 ⟨h.rd, h.ins, fun hl i hi => hT i (h.own hl i hi), fun x hx hc i hi => hT i (h.inn x hx hc i hi), hU⟩
theorem Ents.nil (w : World) : Ents w none_ (.slice none 0 0) [] := ⟨Rd.nil _ _, fun x hx => (by cases hx), fun h => absurd rfl h, fun x hx => (by cases hx), fun i hi => hi.elim⟩
theorem Rd.lt {w : World} {sz : Nat} {v : Value} {xs : List Value} (h : Rd w sz v xs) (h0 : xs ≠ []) : ∀ i, v.ownBlock = some i → i < w.heap.size := by
 intro i hi
 obtain ⟨A, n, c, rfl, hl, hc, hm, hx⟩ := h
 have hn : 0 < n := by
  rcases Nat.eq_zero_or_pos n with h | h
  ·subst h; exact absurd (List.eq_nil_of_length_eq_zero (by simpa using hl)) h0
  ·exact h
 obtain ⟨b, off, rfl, hcell⟩ := hx hn
 have hi : b = i := by simpa [Value.ownBlock] using hi
 subst hi
 obtain ⟨u, hu⟩ : ∃ u, xs[0]? = some u := ⟨xs[0]'(List.length_pos_iff.2 h0), List.getElem?_eq_getElem _⟩
 exact World.block_lt_of_cell? w _ (hcell 0 u hu)
theorem ents_ne {l : List EntP} (h : l ≠ []) : l.flatMap EntP.cells ≠ [] := by
 cases l with
 | nil => exact absurd rfl h
 | cons x l => simp [EntP.cells]
theorem Ents.given {w : World} {v : Value} {l : List EntP} (h : RdE w v l) (hi : EntsIn w l) : Ents w (fun i => i < w.heap.size) v l :=
 ⟨h, hi, fun hl i hb => Rd.lt h (ents_ne hl) i hb, fun x hx hc i hb => Rd.lt (hi x hx) (by intro q; exact hc (by simpa [bv] using q)) i hb, fun _ h => h⟩
theorem Ents.len {T : Nat → Prop} {w : World} {A : Option Addr} {n c : Nat} {l : List EntP} (h : Ents w T (.slice A n c) l) : l.length = n ∧ n ≤ c ∧ c ≤ maxLen := RdT.len EntP.two (by decide) h.rd
theorem Ents.form {T : Nat → Prop} {w : World} {v : Value} {l : List EntP} (h : Ents w T v l) : ∃ A c, v = .slice A l.length c := RdT.form EntP.two (by decide) h.rd
theorem flat_drop {α : Type} {f : α → List Value} {sz : Nat} (hf : ∀ x, (f x).length = sz) : ∀ (l : List α) (k : Nat), (l.flatMap f).drop (k * sz) = (l.drop k).flatMap f
 | l, 0 => by simp
 | [], k + 1 => by simp
 | x :: l, k + 1 => by
  rw [List.flatMap_cons, List.drop_succ_cons, Nat.add_mul, Nat.one_mul, Nat.add_comm, ← List.drop_drop, show sz = (f x).length from (hf x).symm, List.drop_left, hf x]
  exact flat_drop hf l k
theorem flat_take {α : Type} {f : α → List Value} {sz : Nat} (hf : ∀ x, (f x).length = sz) : ∀ (l : List α) (k : Nat), (l.flatMap f).take (k * sz) = (l.take k).flatMap f
 | l, 0 => by simp
 | [], k + 1 => by simp
 | x :: l, k + 1 => by
  rw [List.flatMap_cons, List.take_succ_cons, List.flatMap_cons, Nat.add_mul, Nat.one_mul, Nat.add_comm, show sz + k * sz = (f x).length + k * sz by rw [hf], List.take_append, List.take_of_length_le (by omega), Nat.add_sub_cancel_left]
  rw [flat_take hf l k]
theorem Ents.cut {T : Nat → Prop} {w : World} {A : Option Addr} {n c : Nat} {l : List EntP} (h : Ents w T (.slice A n c) l) (k e m : Nat) (h1 : k ≤ e) (h2 : e ≤ m) (h3 : m ≤ c) (h4 : e ≤ n) :
  Ents w T (.slice (if m = k then A else Option.map (fun q => Addr.add q (k * 2)) A) (e - k) (m - k)) ((l.drop k).take (e - k)) where
 rd := by
  have := Rd.cut h.rd k e m h1 h2 h3 h4
  rw [flat_drop EntP.two, flat_take EntP.two] at this
  exact this
 ins x hx := h.ins x (List.mem_of_mem_drop (List.mem_of_mem_take hx))
 own hl i hi := by
  have hl0 : l ≠ [] := fun q => by subst q; simp at hl
  cases A with
  | none => simp [Value.ownBlock] at hi
  | some a =>
   refine h.own hl0 i ?_
   split at hi
   ·exact hi
   ·have ha : (Addr.add a (k * 2)).block = a.block := by unfold Addr.add; split <;> rfl
    simpa [Value.ownBlock, ha] using hi
 inn x hx := h.inn x (List.mem_of_mem_drop (List.mem_of_mem_take hx))
 lt := h.lt
theorem Ents.head {T : Nat → Prop} {w : World} {A : Option Addr} {n c : Nat} {l : List EntP} (h : Ents w T (.slice A n c) l) (e m : Nat) (h2 : e ≤ m) (h3 : m ≤ c) (h4 : e ≤ n) : Ents w T (.slice A e m) (l.take e) := by
 have := h.cut 0 e m (Nat.zero_le _) h2 h3 h4
 rw [List.drop_zero, Nat.sub_zero, Nat.sub_zero] at this
 have hA : (if m = 0 then A else Option.map (fun q => Addr.add q (0 * 2)) A) = A := by cases A <;> simp [Addr.add]
 rwa [hA] at this
theorem append_none {P : Program} {t e ty bytes sz n c : Nat} (E : ElemTy P t e sz bytes) {w : World} {A B : Option Addr} {xs : List Value} (h : Rd w sz (.slice A n n) xs) : (Builtin.append_ #[t, t] ty #[.slice A n n, .slice B 0 c]).run P w = .ok (.slice A n n) w := by
 obtain ⟨i, z, hi, _, hs, _⟩ := E.info
 have hf : ∀ w, (Builtin.firstCells i.size 0 (.slice B 0 c)).run P w = .ok #[] w := by
  intro w
  cases B with
  | none => simp [Builtin.firstCells]
  | some a => simp [Builtin.firstCells, loadCells, loadCellsFrom]
 cases A with
 | none => simp [Builtin.append_, run_underlying E.slice, sizeOf, typeInfo, hi, Builtin.lenOf, hf]
 | some a => simp [Builtin.append_, run_underlying E.slice, sizeOf, typeInfo, hi, Builtin.lenOf, storeCells, hf]
theorem Ents.app {P : Program} {t e ty bytes : Nat} (E : ElemTy P t e 2 bytes) {T U : Nat → Prop} {w : World} {A : Option Addr} {x : Value} {l ys : List EntP} (h : Ents w T (.slice A l.length l.length) l) (hx : Ents w U x ys)
  (hb : (l.length + ys.length) * bytes ≤ 140737488355328) (hl : l.length + ys.length ≤ 140737488355328) :
  ∃ A' c' w', (Builtin.append_ #[t, t] ty #[.slice A l.length l.length, x]).run P w = .ok (.slice A' (l ++ ys).length c') w' ∧ Keeps none_ w w' ∧ Ents w' (fun i => (T i ∨ U i ∨ w.heap.size ≤ i) ∧ i < w'.heap.size) (.slice A' (l ++ ys).length c') (l ++ ys) := by
 have hm : l.length + ys.length ≤ maxLen := by simp only [maxLen]; omega
 rcases Nat.eq_zero_or_pos ys.length with h0 | h0
 ·have e0 : ys = [] := List.eq_nil_of_length_eq_zero h0
  subst e0
  obtain ⟨B, d, rfl⟩ := hx.form
  refine ⟨A, l.length, w, ?_, Keeps.refl w, ?_⟩
  ·rw [List.append_nil]
   exact append_none E h.rd
  ·rw [List.append_nil]
   exact h.mono (fun i hi => ⟨.inl hi, h.lt i hi⟩) fun i hi => hi.2
 ·obtain ⟨v', w', hr, ho, hk⟩ := app_clip (ty := ty) E h.rd hx.rd (m := ys.length) (flat_len EntP.two ys) h0 hb hm
  have ho2 : OwnE w' w.heap.size e v' (l ++ ys) := by unfold OwnE OwnT; rw [List.length_append, List.flatMap_append]; exact ho
  obtain ⟨A', c', rfl⟩ := RdT.form EntP.two (by decide) (OwnT.rd ho2)
  refine ⟨A', c', w', hr, hk, ⟨OwnT.rd ho2, fun y hy => ?_, fun _ i hi => ?_, fun y hy hc i hi => ?_, fun i hi => hi.2⟩⟩
  ·rcases List.mem_append.1 hy with hy | hy
   ·exact (h.keep0 hk).ins y hy
   ·exact (hx.keep0 hk).ins y hy
  ·have := World.ownsRow.lt ho2 i hi
   exact ⟨.inr (.inr this.1), this.2⟩
  ·rcases List.mem_append.1 hy with hy | hy
   ·exact ⟨.inl (h.inn y hy hc i hi), Nat.lt_of_lt_of_le (h.lt i (h.inn y hy hc i hi)) hk.size⟩
   ·exact ⟨.inr (.inl (hx.inn y hy hc i hi)), Nat.lt_of_lt_of_le (hx.lt i (hx.inn y hy hc i hi)) hk.size⟩
end Go.Q
namespace Go.Q
open Go.RowKit
theorem own_empty2 {w : World} {base e sz b : Nat} {α : Type} {f : α → List Value} (H : Has w b (rowL [] e)) (hb : base ≤ b) : OwnT w base e sz f (.slice (some ⟨b, 0, none⟩) 0 0) [] :=
 ⟨by simp, .inr ⟨b, 0, #[], rfl, hb, H, Nat.le_refl _, Nat.zero_le _, by simp, by simp⟩⟩
end Go.Q
namespace Go.Q
theorem Rd.none_nil2 {w : World} {sz n c : Nat} {xs : List Value} (h : Rd w sz (.slice none n c) xs) : xs = [] := by
 obtain ⟨A, n', c', he, hl, _, _, hx⟩ := h
 injection he with e1 e2 e3
 subst e1; subst e2
 rcases Nat.eq_zero_or_pos n with h0 | h0
 ·subst h0; exact List.eq_nil_of_length_eq_zero (by simpa using hl)
 ·obtain ⟨b, off, hA, _⟩ := hx h0
  cases hA
end Go.Q
namespace Go.Q
open Go.RowKit
section
variable {P : Program} {t e : TypeId} {T : Nat → Prop} {w : World} {A : Option Addr} {c : Nat} {l : List EntP}
end
end Go.Q
namespace Go.Q
open Go.RowKit
theorem mid1 {pre cs suf : List Value} {off k : Nat} {u : Value} (ho : off = pre.length + k) (h : cs[k]? = some u) : (pre ++ cs ++ suf)[off]? = some u := by
 have hk := (List.getElem?_eq_some_iff.1 h).1
 rw [ho, List.append_assoc, List.getElem?_append_right (by omega), Nat.add_sub_cancel_left, List.getElem?_append_left hk, h]
theorem mid_len {pre cs suf vs : List Value} {off k : Nat} (ho : off = pre.length + k) (hk : k + vs.length ≤ cs.length) : off + vs.length ≤ (pre ++ cs ++ suf).length := by
 simp only [List.length_append]; omega
theorem mid_set1 {pre cs suf : List Value} {off k : Nat} {v : Value} (ho : off = pre.length + k) (hk : k < cs.length) : (pre ++ cs ++ suf).set off v = pre ++ cs.set k v ++ suf := by
 rw [ho, List.append_assoc, List.set_append_right _ _ (by omega), Nat.add_sub_cancel_left, List.set_append_left _ _ hk, List.append_assoc]
theorem mid_setN {pre cs suf vs : List Value} {off k : Nat} (ho : off = pre.length + k) (hk : k + vs.length ≤ cs.length) : (pre ++ cs ++ suf).take off ++ vs ++ (pre ++ cs ++ suf).drop (off + vs.length) = pre ++ (cs.take k ++ vs ++ cs.drop (k + vs.length)) ++ suf := by
 have e1 : (pre ++ cs ++ suf).take off = pre ++ cs.take k := by
  rw [ho, List.append_assoc, List.take_append, List.take_of_length_le (by omega), Nat.add_sub_cancel_left, List.take_append_of_le_length (by omega)]
 have e2 : (pre ++ cs ++ suf).drop (off + vs.length) = cs.drop (k + vs.length) ++ suf := by
  rw [ho, List.append_assoc, show pre.length + k + vs.length = pre.length + (k + vs.length) from by omega, ← List.drop_drop, List.drop_left, List.drop_append_of_le_length hk]
 rw [e1, e2]; simp [List.append_assoc]
theorem flat_split {α : Type} {f : α → List Value} : ∀ {l : List α} {i : Nat} {x : α}, l[i]? = some x → l.flatMap f = (l.take i).flatMap f ++ f x ++ (l.drop (i + 1)).flatMap f
 | [], i, x, h => by simp at h
 | y :: l, 0, x, h => by simp at h; subst h; simp
 | y :: l, i + 1, x, h => by
  have := flat_split (f := f) (l := l) (i := i) (x := x) (by simpa using h)
  simp only [List.flatMap_cons, List.take_succ_cons, List.drop_succ_cons]
  rw [this]; simp [List.append_assoc]
theorem flat_setx {α : Type} {f : α → List Value} : ∀ {l : List α} {i : Nat} {x y : α}, l[i]? = some x → (l.set i y).flatMap f = (l.take i).flatMap f ++ f y ++ (l.drop (i + 1)).flatMap f
 | [], i, x, y, h => by simp at h
 | z :: l, 0, x, y, h => by simp
 | z :: l, i + 1, x, y, h => by
  have := flat_setx (f := f) (l := l) (i := i) (x := x) (y := y) (by simpa using h)
  simp only [List.set_cons_succ, List.flatMap_cons, List.take_succ_cons, List.drop_succ_cons]
  rw [this]; simp [List.append_assoc]
theorem OwnT.mid {α : Type} {f : α → List Value} {sz : Nat} (hf : ∀ x, (f x).length = sz) (h0 : 0 < sz) {w : World} {base e i c : Nat} {A : Option Addr} {l : List α} {x : α} (hx : l[i]? = some x) (h : OwnT w base e sz f (.slice A l.length c) l) :
  ∃ g pre suf, A = some ⟨g, 0, none⟩ ∧ base ≤ g ∧ pre.length = i * sz ∧ Has w g (rowL (pre ++ f x ++ suf) e) ∧ ∀ (y : α) w', Has w' g (rowL (pre ++ f y ++ suf) e) → OwnT w' base e sz f (.slice A l.length c) (l.set i y) := by
 obtain ⟨hl, h⟩ := h
 have hi := (List.getElem?_eq_some_iff.1 hx).1
 have hil : i * sz ≤ l.length * sz := Nat.mul_le_mul_right _ (by omega)
 rcases h with ⟨_, h0'⟩ | ⟨g, cap, cur, hv, hg, hh, h1, h2, h3, h4⟩
 ·exfalso; omega
 ·simp only [Value.slice.injEq] at hv
  obtain ⟨rfl, _, rfl⟩ := hv
  have hcl : cur.toList.length = c * sz := by simpa using h3
  have hlc : l.length * sz ≤ c * sz := Nat.mul_le_mul_right _ h1
  have hfl : (l.flatMap f).length = l.length * sz := flat_len hf l
  have hcur : cur.toList = l.flatMap f ++ cur.toList.drop (l.length * sz) := by
   have := (List.take_append_drop (l.length * sz) cur.toList).symm
   rw [h4] at this; exact this
  refine ⟨g, (l.take i).flatMap f, (l.drop (i + 1)).flatMap f ++ cur.toList.drop (l.length * sz), rfl, hg, by rw [flat_len hf, List.length_take]; congr 1; omega, ?_, fun y w' H => ?_⟩
  ·have e0 : cur = ⟨(l.take i).flatMap f ++ f x ++ ((l.drop (i + 1)).flatMap f ++ cur.toList.drop (l.length * sz))⟩ := by
    apply Array.ext'
    show cur.toList = _
    rw [flat_split hx] at hcur
    rw [← List.append_assoc]; exact hcur
   show w.heap[g]? = _
   rw [hh]; exact congrArg (fun z => some (Obj.cells z e)) e0
  ·have hlen : (((l.take i).flatMap f ++ f y ++ ((l.drop (i + 1)).flatMap f ++ cur.toList.drop (l.length * sz))).length) = c * sz := by
    have e1 : (l.set i y).flatMap f ++ cur.toList.drop (l.length * sz) = (l.take i).flatMap f ++ f y ++ ((l.drop (i + 1)).flatMap f ++ cur.toList.drop (l.length * sz)) := by rw [flat_setx hx]; simp [List.append_assoc]
    rw [← e1, List.length_append, flat_len hf, List.length_set, List.length_drop, hcl]; omega
   show World.ownsRow _ _ _ _ _ (l.set i y).length _
   rw [List.length_set]
   refine ⟨by rw [flat_len hf, List.length_set], .inr ⟨g, c, ⟨(l.take i).flatMap f ++ f y ++ ((l.drop (i + 1)).flatMap f ++ cur.toList.drop (l.length * sz))⟩, rfl, hg, H, h1, h2, by simpa using hlen, ?_⟩⟩
   show List.take (l.length * sz) _ = _
   have e1 : (l.take i).flatMap f ++ f y ++ ((l.drop (i + 1)).flatMap f ++ cur.toList.drop (l.length * sz)) = (l.set i y).flatMap f ++ cur.toList.drop (l.length * sz) := by rw [flat_setx hx]; simp [List.append_assoc]
   rw [e1, List.take_left' (by rw [flat_len hf, List.length_set])]
def RowsE {α : Type} (w : World) (rv : α → Value) (rs : α → List RowM) (T : Nat → Prop) (l : List α) : Prop :=
 (∀ x ∈ l, RdR w (rv x) (rs x)) ∧ (∀ x ∈ l, rs x ≠ [] → ∀ i, (rv x).ownBlock = some i → T i) ∧ ∀ i, T i → i < w.heap.size
section
variable {α : Type} {w w' : World} {rv : α → Value} {rs : α → List RowM} {T : Nat → Prop} {l : List α}
theorem RowsE.keep {S : Nat → Prop} (h : RowsE w rv rs T l) (K : Keeps S w w') (hS : ∀ i, T i → ¬ S i) : RowsE w' rv rs T l :=
 ⟨fun x hx => by
  by_cases hl : rs x = []
  ·exact Rd.keep_nil (by decide) (h.1 x hx) (by rw [hl]; rfl)
  ·exact Rd.keep (by decide) (h.1 x hx) K fun b hb => hS b (h.2.1 x hx hl b hb), h.2.1, fun i hi => Nat.lt_of_lt_of_le (h.2.2 i hi) K.size⟩
theorem RowsE.lt (h : RowsE w rv rs T l) : ∀ i, T i → i < w.heap.size := h.2.2
theorem RowsE.nil (w : World) (rv : α → Value) (rs : α → List RowM) : RowsE w rv rs none_ [] := ⟨fun x hx => (by cases hx), fun x hx => (by cases hx), fun i hi => hi.elim⟩
theorem RowsE.add (h : RowsE w rv rs T l) {x : α} (hx : RdR w (rv x) (rs x)) (h0 : rs x = []) : RowsE w rv rs T (l ++ [x]) := by
 refine ⟨fun y hy => ?_, fun y hy hn => ?_, h.2.2⟩
 ·rcases List.mem_append.1 hy with hy | hy
  ·exact h.1 y hy
  ·rw [List.mem_singleton] at hy; subst hy; exact hx
 ·rcases List.mem_append.1 hy with hy | hy
  ·exact h.2.1 y hy hn
  ·rw [List.mem_singleton] at hy; subst hy; exact absurd h0 hn
theorem RowsE.set (h : RowsE w rv rs T l) {k : Nat} {y : α} (hy : RdR w (rv y) (rs y)) (hT : rs y ≠ [] → ∀ i, (rv y).ownBlock = some i → i < w.heap.size) : RowsE w rv rs (fun i => T i ∨ (rs y ≠ [] ∧ (rv y).ownBlock = some i)) (l.set k y) := by
 refine ⟨fun x hx => ?_, fun x hx hn i hi => ?_, fun i hi => ?_⟩
 ·rcases List.mem_or_eq_of_mem_set hx with hx | rfl
  ·exact h.1 x hx
  ·exact hy
 ·rcases List.mem_or_eq_of_mem_set hx with hx | rfl
  ·exact .inl (h.2.1 x hx hn i hi)
  ·exact .inr ⟨hn, hi⟩
 ·rcases hi with hi | ⟨hn, hi⟩
  ·exact h.2.2 i hi
  ·exact hT hn i hi
end
theorem Rd.keepE {S F : Nat → Prop} {sz : Nat} {w w' : World} {v : Value} {xs : List Value} (hsz : 0 < sz) (h : Rd w sz v xs) (hF : xs ≠ [] → ∀ i, v.ownBlock = some i → ¬ F i) (K : Keeps S w w') (hS : ∀ i, S i → F i) : Rd w' sz v xs := by
 by_cases h0 : xs = []
 ·exact Rd.keep_nil hsz h h0
 ·exact Rd.keep hsz h K fun b hb hs => hF h0 b hb (hS b hs)
theorem RdR.keepE {S F : Nat → Prop} {w w' : World} {v : Value} {rs : List RowM} (h : RdR w v rs) (hF : rs ≠ [] → ∀ i, v.ownBlock = some i → ¬ F i) (K : Keeps S w w') (hS : ∀ i, S i → F i) : RdR w' v rs :=
 Rd.keepE (by decide) h (fun hn => hF (fun q => hn (by rw [q]; rfl))) K hS
structure DM where
 op : Opm
 why : Int
 amount : Int
 rows : List RowM
 is : Bool
structure DCall where
 op : Opm
 why : Int
 amount : Int
 A : Option Addr
 c : Nat
 rows : List RowM
 is : Bool
def DCall.cells (x : DCall) : List Value := [i64 x.op.kind, .string (str x.op.frm), .string (str x.op.to), i64 x.op.amount, .string (str x.op.key), i64 x.op.slot, i64 x.op.shard, i64 x.why, i64 x.amount, .slice x.A x.rows.length x.c, .bool x.is]
theorem DCall.two (x : DCall) : x.cells.length = 11 := rfl
theorem DCall.one (x : DCall) : oneCells x.cells = true := rfl
def DCall.m (x : DCall) : DM := ⟨x.op, x.why, x.amount, x.rows, x.is⟩
def DCall.rv (x : DCall) : Value := .slice x.A x.rows.length x.c
def DeskP (w : World) (F : Nat → Prop) (d tD tC : Nat) (ms : List DM) : Prop :=
 ∃ (l : List DCall) (A : Option Addr) (c : Nat) (T : Nat → Prop), l.map DCall.m = ms ∧ Has w d (rowL [.slice A l.length c] tD) ∧ OwnT w 0 tC 11 DCall.cells (.slice A l.length c) l ∧ RowsE w DCall.rv DCall.rows T l ∧
  (∀ i, T i → i ≠ d ∧ F i) ∧ (∀ i, (Value.slice A l.length c).ownBlock = some i → i ≠ d ∧ F i ∧ ¬ T i) ∧ F d ∧ (∀ i, F i → i < w.heap.size) ∧ ms.length ≤ 2000
theorem DeskP.keep {S F : Nat → Prop} {w w' : World} {d tD tC : Nat} {ms : List DM} (h : DeskP w F d tD tC ms) (K : Keeps S w w') (hS : ∀ i, F i → ¬ S i) : DeskP w' F d tD tC ms := by
 obtain ⟨l, A, c, T, h1, h2, h3, h4, h5, h6, h7, h8, h9⟩ := h
 exact ⟨l, A, c, T, h1, h2.keep K (hS d h7), own_keep h3 K (fun i hi => hS i (h6 i hi).2.1), h4.keep K (fun i hi => hS i (h5 i hi).2), h5, h6, h7, fun i hi => Nat.lt_of_lt_of_le (h8 i hi) K.size, h9⟩
theorem DeskP.lt {F : Nat → Prop} {w : World} {d tD tC : Nat} {ms : List DM} (h : DeskP w F d tD tC ms) : ∀ i, F i → i < w.heap.size := by
 obtain ⟨l, A, c, T, h1, h2, h3, h4, h5, h6, h7, h8, h9⟩ := h
 exact h8
theorem DeskP.len {F : Nat → Prop} {w : World} {d tD tC : Nat} {ms : List DM} (h : DeskP w F d tD tC ms) : ms.length ≤ 2000 := by
 obtain ⟨l, A, c, T, h1, h2, h3, h4, h5, h6, h7, h8, h9⟩ := h
 exact h9
def beginM (ms : List DM) (o : Opm) : List DM × Int := if 2000 ≤ ms.length then (ms, -1) else (ms ++ [⟨o, 0, 0, [], false⟩], (ms.length : Int))
def hearM (ms : List DM) (n : Int) (p : ReplyM) : List DM × Bool :=
 match ms[n.toNat]? with
 | some x => if n < 0 ∨ x.is = true then (ms, false) else (ms.set n.toNat ⟨x.op, p.why, p.amount, p.rows, true⟩, true)
 | none => (ms, false)
theorem DeskP.wide {F G : Nat → Prop} {w w' : World} {d tD tC : Nat} {ms : List DM} (h : DeskP w F d tD tC ms) (K : Keeps none_ w w') (hFG : ∀ i, F i → G i) (hG : ∀ i, G i → i < w'.heap.size) : DeskP w' G d tD tC ms := by
 obtain ⟨l, A, c, T, h1, h2, h3, h4, h5, h6, h7, h8, h9⟩ := h
 exact ⟨l, A, c, T, h1, h2.keep K (fun h => h), own_keep h3 K (fun i hi h => h), h4.keep K (fun i hi h => h), fun i hi => ⟨(h5 i hi).1, hFG i (h5 i hi).2⟩, fun i hi => ⟨(h6 i hi).1, hFG i (h6 i hi).2.1, (h6 i hi).2.2⟩, hFG d h7, hG, h9⟩
def askM (ms : List DM) (n : Int) : DM := if n < 0 then ⟨⟨0, [], [], 0, [], 0, 0⟩, 0, 0, [], false⟩ else (ms[n.toNat]?).getD ⟨⟨0, [], [], 0, [], 0, 0⟩, 0, 0, [], false⟩
def openF : Nat → List DCall → List (Nat × Opm)
 | _, [] => []
 | i, x :: l => if x.is then openF (i + 1) l else (i, x.op) :: openF (i + 1) l
def behind : Nat → List (Nat × Opm) → Nat
 | i, [] => i
 | i, [x] => x.1 + 1
 | i, x :: y :: l => behind i (y :: l)
end Go.Q
namespace Go.Q
open Go.RowKit
structure HC where
 c : HCall
 A : Option Addr
 k : Nat
def HC.cells (x : HC) : List Value := [i64 x.c.op.kind, .string (str x.c.op.frm), .string (str x.c.op.to), i64 x.c.op.amount, .string (str x.c.op.key), i64 x.c.op.slot, i64 x.c.op.shard, i64 x.c.bg, i64 x.c.en, .bool x.c.told, i64 x.c.rep.why, i64 x.c.rep.amount, .slice x.A x.c.rep.rows.length x.k]
theorem HC.two (x : HC) : x.cells.length = 13 := rfl
theorem HC.one (x : HC) : oneCells x.cells = true := rfl
def HC.rv (x : HC) : Value := .slice x.A x.c.rep.rows.length x.k
def HC.rows (x : HC) : List RowM := x.c.rep.rows
theorem counts_not {c : HCall} (h : c.told = false) : countsH c = true := by unfold countsH; rw [h]; rfl
theorem counts_told {c : HCall} (h : c.told = true) : countsH c = (c.rep.why != 50) := by
 unfold countsH
 rw [h]
 show (false || decide (c.rep.why ≠ 50)) = _
 rw [Bool.false_or]
 by_cases q : c.rep.why = 50
 ·rw [decide_eq_false (fun z => z q), q]; rfl
 ·rw [decide_eq_true q]; exact (bne_iff_ne.2 q).symm
theorem ahead_not {a b : HCall} (h : a.told = false) : aheadH a b = false := by unfold aheadH; rw [h]; rfl
theorem ahead_told {a b : HCall} (h : a.told = true) : aheadH a b = decide (a.en < b.bg) := by unfold aheadH; rw [h]; rfl
structure HC.In (w : World) (x : HC) : Prop where
 rows : RdR w (.slice x.A x.c.rep.rows.length x.k) x.c.rep.rows
 rlen : x.c.rep.rows.length * 24 ≤ 140737488351232
theorem hcall_ext {a b : HCall} (h0 : a.op = b.op) (h1 : a.bg = b.bg) (h2 : a.en = b.en) (h3 : a.told = b.told) (h4 : a.rep = b.rep) : a = b := by
 cases a; cases b
 cases h0; cases h1; cases h2; cases h3; cases h4; rfl
def iI (x : Int) : List Value := [i64 x]
def iN (n : Nat) : List Value := [i64 ((n : Nat) : Int)]
theorem iN_one (n : Nat) : (iN n).length = 1 := rfl
theorem iN_cells (n : Nat) : oneCells (iN n) = true := rfl
structure StC where
 order : List Nat
 A : Option Addr
 k : Nat
 done : Nat
 left : Int
 b : Nat
 s : LS_
def StC.cells (x : StC) : List Value := [.slice x.A x.order.length x.k, .int .u64 (x.done : Int), i64 x.left, .pointer (some ⟨x.b, 0, none⟩)]
theorem StC.two (x : StC) : x.cells.length = 4 := rfl
theorem StC.one (x : StC) : oneCells x.cells = true := rfl
def StC.m (x : StC) : Sr LS_ := ⟨x.order, x.done, x.left, x.s⟩
end Go.Q
namespace Go.Proofs.YtnbcghbgeiocbaaDoor
open Go.Q Go.RowKit
theorem countsP_calls (w : World) (x : HC)  : Calls Tryd.prog 28 ⟨[(agg (HC.cells x))]⟩ w (fun e w' => e = .returned (.bool (countsH x.c)) ∧ Keeps none_ w w') := by
 have K0 : Keeps none_ w w := Keeps.refl w
 refine q_calls Tryd.func28 (by kernel_rfl) (by kernel_rfl) ?_
 refine qsg ?_
 refine onew (rowL (HC.cells x) 43) (fun b => (ptr b)) 1 (fun b => rfl) (fun b1 w2 hb3 H4 K5 hs6 => ?_)
 have nb1 : w.heap.size ≤ b1 := by have := K0.size; omega
 replace K0 := K0.t0 K5
 clear K5 hs6
 refine odz 1 ?_
 refine qsg ?_
 refine og 1 [(1, ptr b1), (2, .bool false), (3, .pointer (some ⟨b1, 9, none⟩))] 1 ?_
 refine ogo (Value.bool x.c.told) 4 (rld 4 b1 9 H4) rfl ?_
 refine og 2 [(1, ptr b1), (2, .bool false), (6, .bool (!x.c.told))] 4 ?_
 refine Ops.split (!x.c.told) (fun h7 => ?_) (fun h7 => ?_)
 ·rw [h7]
  have p8 := bnot_true h7
  refine ogd 6 [(2, .bool true)] ?_
  refine qtQ ?_
  refine ⟨(Value.bool true), retv_tmp rfl rfl, ?_⟩
  rw [counts_not (bnot_true h7)]
  exact ⟨rfl, K0⟩
 ·rw [h7]
  have p9 := bnot_false h7
  refine og 2 [(2, .bool false), (6, .bool false), (8, .pointer (some ⟨b1, 10, none⟩))] 6 ?_
  refine ogo (i64 x.c.rep.why) 9 (rld 25 b1 10 H4) rfl ?_
  refine ogd 3 [(2, .bool (x.c.rep.why != 50))] ?_
  refine qtQ ?_
  refine ⟨(Value.bool (x.c.rep.why != 50)), retv_tmp rfl rfl, ?_⟩
  rw [counts_told (bnot_false h7)]
  exact ⟨rfl, K0⟩
theorem AheadP_calls (w : World) (x y : HC)  : Calls Tryd.prog 18 ⟨[(agg (HC.cells x)), (agg (HC.cells y))]⟩ w (fun e w' => e = .returned (.bool (aheadH x.c y.c)) ∧ Keeps none_ w w') := by
 have K0 : Keeps none_ w w := Keeps.refl w
 refine q_calls Tryd.func18 (by kernel_rfl) (by kernel_rfl) ?_
 refine qsg ?_
 refine onew (rowL (HC.cells x) 43) (fun b => (ptr b)) 2 (fun b => rfl) (fun b1 w2 hb3 H4 K5 hs6 => ?_)
 have nb1 : w.heap.size ≤ b1 := by have := K0.size; omega
 replace K0 := K0.t0 K5
 clear K5 hs6
 refine onew (rowL (HC.cells y) 43) (fun b => (ptr b)) 3 (fun b => rfl) (fun b7 w8 hb9 H10 K11 hs12 => ?_)
 have lb7 : b1 < b7 := by have := H4.lt; omega
 have nb7 : w.heap.size ≤ b7 := by have := K0.size; omega
 replace K0 := K0.t0 K11
 replace H4 := H4.kn K11
 clear K11 hs12
 refine odz 1 ?_
 refine qsg ?_
 refine og 1 [(2, ptr b1), (3, ptr b7), (4, .bool false), (5, .pointer (some ⟨b1, 9, none⟩))] 1 ?_
 refine ogo (Value.bool x.c.told) 6 (rld 4 b1 9 H4) rfl ?_
 refine og 1 [(2, ptr b1), (3, ptr b7), (4, .bool false), (7, .bool x.c.told)] 3 ?_
 refine Ops.split x.c.told (fun h13 => ?_) (fun h13 => ?_)
 ·rw [h13]
  have p14 : x.c.told = true := h13
  refine og 1 [(3, ptr b7), (4, .bool false), (7, .bool true), (8, .pointer (some ⟨b1, 8, none⟩))] 4 ?_
  refine ogo (i64 x.c.en) 9 (rld 3 b1 8 H4) rfl ?_
  refine og 1 [(4, .bool false), (7, .bool true), (9, i64 x.c.en), (10, .pointer (some ⟨b7, 7, none⟩))] 6 ?_
  refine ogo (i64 y.c.bg) 11 (rld 3 b7 7 H10) rfl ?_
  refine ogd 3 [(4, (Value.bool (decide (x.c.en < y.c.bg))))] ?_
  refine qtQ ?_
  refine ⟨(Value.bool (decide (x.c.en < y.c.bg))), retv_tmp rfl rfl, ?_⟩
  rw [ahead_told h13]
  exact ⟨rfl, K0⟩
 ·rw [h13]
  have p15 : x.c.told = false := h13
  refine ogd 7 [(4, .bool false)] ?_
  refine qtQ ?_
  refine ⟨(Value.bool false), retv_tmp rfl rfl, ?_⟩
  rw [ahead_not h13]
  exact ⟨rfl, K0⟩
end Go.Proofs.YtnbcghbgeiocbaaDoor
namespace Go.Proofs.YtnbcghbgeiocbaaDoor
open Go.Q Go.RowKit
theorem EqualR_calls (w : World) (A : Option Addr) (c : Nat) (la : List RowM) (B : Option Addr) (d : Nat) (lb : List RowM) (hA : RdR w (.slice A la.length c) la) (hB : RdR w (.slice B lb.length d) lb) : Calls Tryd.prog 61 ⟨[(Value.slice A la.length c), (Value.slice B lb.length d)]⟩ w (fun e w' => ∃ t, e = .returned (.bool t) ∧ (t = true ↔ la = lb) ∧ Keeps none_ w w') := by
 have hla := (RdT.len RowM.two (by decide) hA).2
 unfold maxLen at hla
 have K0 : Keeps none_ w w := Keeps.refl w
 refine q_calls Tryd.func61 (by kernel_rfl) (by kernel_rfl) ?_
 refine qsg ?_
 refine odz 1 ?_
 refine qs ?_
 refine qsg ?_
 refine ogd 5 [(0, .slice A la.length c), (1, .slice B lb.length d), (4, .bool false), (10, (Value.bool (((la.length : Nat) : Int) != ((lb.length : Nat) : Int))))] ?_
 refine qcQ 10 (((la.length : Nat) : Int) != ((lb.length : Nat) : Int)) rfl (fun h1 => ?_) (fun h1 => ?_)
 ·rw [h1]
  have p2 := of_bne_t h1
  refine qsg ?_
  refine ogd 1 [(0, .slice A la.length c), (1, .slice B lb.length d), (4, .bool false)] ?_
  refine qtQ ?_
  refine ⟨(Value.bool false), retv_tmp rfl rfl, ?_⟩
  exact ⟨false, rfl, ⟨fun h => (by cases h), fun h => by exfalso; have := congrArg List.length h; omega⟩, K0⟩
 ·rw [h1]
  have p3 := of_bne_f h1
  refine qkQ ?_
  refine qs ?_
  refine qsg ?_
  refine ogd 3 [(0, .slice A la.length c), (1, .slice B lb.length d), (4, .bool false), (12, i64 ↑la.length), (13, i64 0)] ?_
  refine q_block (id := 0) (by kernel_rfl) ?_
  refine q_keep (R := [(0, .slice A la.length c), (1, .slice B lb.length d), (12, i64 ↑la.length), (13, i64 0)]) (by kernel_rfl) ?_
  refine q_loop (fun (i : Nat) L (wx : World) => L = [(0, (Value.slice A la.length c)), (1, (Value.slice B lb.length d)), (12, (i64 ((la.length : Nat) : Int))), (13, (i64 ((i : Nat) : Int)))] ∧ la.take i = lb.take i ∧ i ≤ la.length ∧ Keeps none_ w wx) (fun (i : Nat) => la.length - i) 0 (by kernel_rfl) ⟨rfl, rfl, Nat.zero_le _, K0⟩ ?_
  clear K0
  rintro i _ w4 ⟨rfl, hE, hi, K5⟩
  refine qsg ?_
  refine ogd 1 [(0, .slice A la.length c), (1, .slice B lb.length d), (12, i64 ↑la.length), (13, i64 ↑i), (14, (Value.bool (decide (((i : Nat) : Int) < ((la.length : Nat) : Int)))))] ?_
  refine qs ?_
  refine qcQ 14 (decide (((i : Nat) : Int) < ((la.length : Nat) : Int))) rfl (fun h6 => ?_) (fun h6 => ?_)
  ·rw [h6]
   have p7 := of_decide_eq_true h6
   obtain ⟨rb8, ro9, x, hA10, hx11⟩ := RdT.open (Rd.keep0 (by omega) hA K5) rfl (k := i) (by omega)
   obtain ⟨rb12, ro13, y, hA14, hx15⟩ := RdT.open (Rd.keep0 (by omega) hB K5) rfl (k := i) (by omega)
   have hX := hx11
   have hY := hx15
   refine qkQ ?_
   refine qs ?_
   refine q_block (id := 1) (by kernel_rfl) ?_
   refine qsg ?_
   refine ogd 2 [(0, .slice A la.length c), (1, .slice B lb.length d), (5, i64 ↑i), (12, i64 ↑la.length), (13, i64 ↑i)] ?_
   refine qs ?_
   refine q_draw (fun wz => Keeps none_ w4 wz) 9 (by kernel_rfl) (by kernel_rfl) (by kernel_rfl) (fun w16 K17 _ _ => ⟨K17, ?_⟩)
   replace K5 := K5.tn K17
   refine Dr.strong (S' := (fun wz => Keeps none_ w16 wz)) (Keeps.refl w16) (fun wz hx => K17.trans hx (fun i _ h => h) (fun _ _ h => h)) ?_
   refine dkQ 7 [0, 1] [(0, .slice A la.length c), (1, .slice B lb.length d), (5, i64 ↑i), (12, i64 ↑la.length), (13, i64 ↑i), (16, .slice A la.length c), (17, i64 ↑i)] ?_
   refine dtQ 2 (Value.pointer (some ⟨rb8, ro9 + i * 2, none⟩)) 18 (fun wz hS => Runs.ixSliceE (k := IntKind.i64) (t := 26) (len := la.length) (cap := c) (s := 2) (off' := ro9 + i * 2) (i := ((i : Nat) : Int)) hA10 (by kernel_rfl) (by kernel_rfl) (by omega) (by omega) (by omega)) rfl ?_
   refine dtQ 3 (agg [(Value.string (str x.name)), (i64 x.amount)]) 19 (fun wz hS => Runs.load (t := 98) (a := ⟨rb8, ro9 + i * 2, none⟩) (by kernel_rfl) (RdT.ld (f := RowM.cells) (x := x) RowM.two (Rd.keep0 (by omega) hA (K5.trans hS (fun _ _ h => h) (fun _ _ h => h))) (by kernel_rfl) (by kernel_rfl) hA10 hx11)) rfl ?_
   refine dkQ 3 [4, 5] [(0, .slice A la.length c), (1, .slice B lb.length d), (12, i64 ↑la.length), (13, i64 ↑i), (19, (agg [(Value.string (str x.name)), (i64 x.amount)])), (20, .slice B lb.length d), (21, i64 ↑i)] ?_
   refine dtQ 6 (Value.pointer (some ⟨rb12, ro13 + i * 2, none⟩)) 22 (fun wz hS => Runs.ixSliceE (k := IntKind.i64) (t := 26) (len := lb.length) (cap := d) (s := 2) (off' := ro13 + i * 2) (i := ((i : Nat) : Int)) hA14 (by kernel_rfl) (by kernel_rfl) (by omega) (by omega) (by omega)) rfl ?_
   refine dtQ 7 (agg [(Value.string (str y.name)), (i64 y.amount)]) 23 (fun wz hS => Runs.load (t := 98) (a := ⟨rb12, ro13 + i * 2, none⟩) (by kernel_rfl) (RdT.ld (f := RowM.cells) (x := y) RowM.two (Rd.keep0 (by omega) hB (K5.trans hS (fun _ _ h => h) (fun _ _ h => h))) (by kernel_rfl) (by kernel_rfl) hA14 hx15)) rfl ?_
   refine dtQ 8 (Value.bool (!(aggB [(Value.string (str x.name)), (i64 x.amount)] [(Value.string (str y.name)), (i64 y.amount)]))) 24 (fun wz hS => Runs.aggne (t := 98) (by kernel_rfl) (by kernel_rfl)) rfl ?_
   refine Dr.done (by kernel_rfl) ?_
   refine qcQ 24 (!(aggB [(Value.string (str x.name)), (i64 x.amount)] [(Value.string (str y.name)), (i64 y.amount)])) rfl (fun h18 => ?_) (fun h18 => ?_)
   ·rw [h18]
    have p19 := bnot_true h18
    have hxy := aggB_row_f (bnot_true h18)
    refine qsg ?_
    refine ogd 1 [(0, .slice A la.length c), (1, .slice B lb.length d), (4, .bool false), (12, i64 ↑la.length), (13, i64 ↑i)] ?_
    refine qtQ ?_
    refine ⟨(Value.bool false), retv_tmp rfl rfl, ?_⟩
    exact ⟨false, rfl, ⟨fun h => (by cases h), fun h => absurd h (getElem_ne hX hY hxy)⟩, K5⟩
   ·rw [h18]
    have p20 := bnot_false h18
    have hxy := (aggB_row x y).1 (bnot_false h18)
    refine qkQ ?_
    refine qg ?_
    refine oid 2 (fun z => [(0, .slice A la.length c), (1, .slice B lb.length d), (12, i64 ↑la.length), (13, i64 z)]) i ?_
    exact ⟨i + 1, ⟨rfl, (take_eq_succ hE hX (hxy ▸ hY)), (by omega), K5⟩, (show la.length - (i + 1) < la.length - i from by omega)⟩
  ·rw [h6]
   have p22 := of_decide_eq_false h6
   refine q_exit (id := 0) (by kernel_rfl) ?_
   refine qsg ?_
   refine ogd 1 [(4, .bool true)] ?_
   refine qtQ ?_
   refine ⟨(Value.bool true), retv_tmp rfl rfl, ?_⟩
   exact ⟨true, rfl, ⟨fun _ => take_all_eq hE (by omega) (by omega), fun _ => rfl⟩, K5⟩
theorem sameH_calls (w : World) (A : Option Addr) (c : Nat) (x : ReplyM) (B : Option Addr) (d : Nat) (y : ReplyM) (hA : RdR w (.slice A x.rows.length c) x.rows) (hB : RdR w (.slice B y.rows.length d) y.rows) : Calls Tryd.prog 50 ⟨[(agg [(i64 x.why), (i64 x.amount), (Value.slice A x.rows.length c)]), (agg [(i64 y.why), (i64 y.amount), (Value.slice B y.rows.length d)])]⟩ w (fun e w' => ∃ t, e = .returned (.bool t) ∧ (t = true ↔ x = y) ∧ Keeps none_ w w') := by
 have K0 : Keeps none_ w w := Keeps.refl w
 refine q_calls Tryd.func50 (by kernel_rfl) (by kernel_rfl) ?_
 refine qsg ?_
 refine onew (rowL [(i64 x.why), (i64 x.amount), (Value.slice A x.rows.length c)] 28) (fun b => (ptr b)) 2 (fun b => rfl) (fun b1 w2 hb3 H4 K5 hs6 => ?_)
 have nb1 : w.heap.size ≤ b1 := by have := K0.size; omega
 replace K0 := K0.t0 K5
 clear K5 hs6
 refine onew (rowL [(i64 y.why), (i64 y.amount), (Value.slice B y.rows.length d)] 28) (fun b => (ptr b)) 3 (fun b => rfl) (fun b7 w8 hb9 H10 K11 hs12 => ?_)
 have lb7 : b1 < b7 := by have := H4.lt; omega
 have nb7 : w.heap.size ≤ b7 := by have := K0.size; omega
 replace K0 := K0.t0 K11
 replace H4 := H4.kn K11
 clear K11 hs12
 refine odz 1 ?_
 refine qsg ?_
 refine og 1 [(2, ptr b1), (3, ptr b7), (4, .bool false), (5, ptr b1)] 1 ?_
 refine ogo (i64 x.why) 6 (rld 25 b1 0 H4) rfl ?_
 refine og 1 [(2, ptr b1), (3, ptr b7), (4, .bool false), (6, i64 x.why), (7, ptr b7)] 3 ?_
 refine ogo (i64 y.why) 8 (rld 25 b7 0 H10) rfl ?_
 refine og 2 [(2, ptr b1), (3, ptr b7), (4, .bool false), (10, .bool (x.why == y.why))] 6 ?_
 refine Ops.split (x.why == y.why) (fun h13 => ?_) (fun h13 => ?_)
 ·rw [h13]
  have p14 := of_beq_t h13
  refine og 1 [(2, ptr b1), (3, ptr b7), (4, .bool false), (10, .bool true), (11, .pointer (some ⟨b1, 1, none⟩))] 7 ?_
  refine ogo (i64 x.amount) 12 (rld 2 b1 1 H4) rfl ?_
  refine og 1 [(2, ptr b1), (3, ptr b7), (4, .bool false), (10, .bool true), (12, i64 x.amount), (13, .pointer (some ⟨b7, 1, none⟩))] 9 ?_
  refine ogo (i64 y.amount) 14 (rld 2 b7 1 H10) rfl ?_
  refine og 3 [(2, ptr b1), (3, ptr b7), (4, .bool false), (17, .bool (x.amount == y.amount))] 13 ?_
  refine Ops.split (x.amount == y.amount) (fun h15 => ?_) (fun h15 => ?_)
  ·rw [h15]
   have p16 := of_beq_t h15
   refine og 1 [(3, ptr b7), (4, .bool false), (17, .bool true), (18, .pointer (some ⟨b1, 2, none⟩))] 14 ?_
   refine ogo (Value.slice A x.rows.length c) 19 (rld 26 b1 2 H4) rfl ?_
   refine og 1 [(4, .bool false), (17, .bool true), (19, .slice A x.rows.length c), (20, .pointer (some ⟨b7, 2, none⟩))] 16 ?_
   refine ogo (Value.slice B y.rows.length d) 21 (rld 26 b7 2 H10) rfl ?_
   refine ocQ 22 (EqualR_calls _ A c x.rows B d y.rows (Rd.keep0 (by omega) hA K0) (Rd.keep0 (by omega) hB K0)) ?_
   rintro _ w20 ⟨t17, rfl, ht18, K19⟩
   refine ⟨_, _, rfl, rfl, ?_⟩
   replace K0 := K0.t0 K19
   refine ogd 2 [(4, .bool t17)] ?_
   refine qtQ ?_
   refine ⟨(Value.bool t17), retv_tmp rfl rfl, ?_⟩
   exact ⟨_, rfl, ⟨fun h => by have := ht18.1 h; cases x; cases y; simp only at *; simp only [ReplyM.mk.injEq]; exact ⟨by omega, by omega, this⟩, fun h => ht18.2 (by rw [h])⟩, K0⟩
  ·rw [h15]
   have p21 := of_beq_f h15
   refine ogd 7 [(4, .bool false)] ?_
   refine qtQ ?_
   refine ⟨(Value.bool false), retv_tmp rfl rfl, ?_⟩
   exact ⟨false, rfl, ⟨fun h => (by cases h), fun h => by subst h; exfalso; omega⟩, K0⟩
 ·rw [h13]
  have p22 := of_beq_f h13
  refine ogd 14 [(4, .bool false)] ?_
  refine qtQ ?_
  refine ⟨(Value.bool false), retv_tmp rfl rfl, ?_⟩
  exact ⟨false, rfl, ⟨fun h => (by cases h), fun h => by subst h; exfalso; omega⟩, K0⟩
end Go.Proofs.YtnbcghbgeiocbaaDoor
namespace Go.Q
open Go.ChangeShapes Go.WideShapes Go.ChangeAt Go.RowKit Go.Deep
structure LetP where
 kind : Int
 n : Int
 group : Int
 op : Opm
 rep : ReplyM
 body : List UInt8
structure LetP.Ok (x : LetP) : Prop where
 kind : -9223372036854775808 ≤ x.kind ∧ x.kind ≤ 9223372036854775807
 n : -9223372036854775808 ≤ x.n ∧ x.n ≤ 9223372036854775807
 group : -9223372036854775808 ≤ x.group ∧ x.group ≤ 9223372036854775807
 op : x.op.Ok
 rep : x.rep.Ok
def LetP.cells (x : LetP) (V : Option Addr) (c : Nat) (D : Option Addr) (dc : Nat) : List Value :=
 [i64 x.kind, i64 x.n, i64 x.group, i64 x.op.kind, .string (str x.op.frm), .string (str x.op.to), i64 x.op.amount, .string (str x.op.key), i64 x.op.slot, i64 x.op.shard, i64 x.rep.why, i64 x.rep.amount, .slice V x.rep.rows.length c, .slice D x.body.length dc]
section
variable {H : Type} {enc : TypeId × Value → H} {P : Program} {w : World} {base : Nat} {spare : Nat → Bool} {held : Bool}
def fieldAt? (P : Program) (fs : Array Field) (j : Nat) : Option (Nat × Nat × TypeId) := match fs[j]? with
 | some f => some (f.offset, P.cellsOf f.type, f.type)
 | none => none
theorem trod_field {e : TypeId} {fs : Array Field} {m : Nat} {cs : List Value} {y : DataW H × List MemPlace} (he : P.underlying e = some (.struct fs)) (h : DataW.trod enc P w base spare held m e cs = some y) {j off sz : Nat} {t : TypeId} (hj : fieldAt? P fs j = some (off, sz, t)) :
  ∃ m' z, DataW.trod enc P w base spare held m' t ((cs.drop off).take sz) = some z ∧ ∀ n ∈ z.1.weights P t, n ∈ y.1.weights P e := by
 obtain ⟨xs, m', hm, hy, hlen, hxl, hf⟩ := DataW.trod_struct he h
 unfold fieldAt? at hj
 cases hfj : fs[j]? with
 | none => rw [hfj] at hj; cases hj
 | some f =>
  rw [hfj] at hj
  simp only [Option.some.injEq, Prod.mk.injEq] at hj
  obtain ⟨rfl, rfl, rfl⟩ := hj
  have h2 := hf j f hfj
  have hlt : j < xs.length := by have := (Array.getElem?_eq_some_iff.1 hfj).1; omega
  rw [List.getElem?_eq_getElem hlt] at h2
  refine ⟨_, _, h2, fun n hn => ?_⟩
  subst hy
  simp only [DataW.weights, he]
  exact DataW.weights_mem_each (j := j) (by rw [List.getElem?_map, Array.getElem?_toList, hfj]; rfl) (by rw [List.getElem?_map, List.getElem?_eq_getElem hlt]; rfl) n hn
theorem slice_weight {t e : TypeId} {n sz : Nat} {d : DataW H} (hu : P.underlying t = some (.slice e)) (hb : P.bytesOf e = sz) (hz : ∀ k ∈ d.weights P t, k ≤ reachBytes) (h : n = 0 ∨ ∃ el sp, d = .slice el sp ∧ el.length = n) : n * sz ≤ 140737488351232 := by
 rcases h with rfl | ⟨el, sp, rfl, rfl⟩
 ·simp
 ·have := hz ((el.length + sp.length) * P.bytesOf e) (by simp [DataW.weights, hu])
  rw [hb] at this
  have e : reachBytes = 140737488351232 := by decide
  rw [e, Nat.add_mul] at this
  omega
theorem weight_in {ts : List TypeId} {ds : List (DataW H)} (hz : (DataW.weightsEach P ts ds).all (· ≤ reachBytes) = true) {j : Nat} {t : TypeId} {d : DataW H} (ht : ts[j]? = some t) (hd : ds[j]? = some d) : ∀ k ∈ d.weights P t, k ≤ reachBytes :=
 fun k hk => of_decide_eq_true (List.all_eq_true.1 hz k (DataW.weights_mem_each ht hd k hk))
theorem dec_reply {e r t0 t1 t2 : TypeId} {fs rs : Array Field} {m : Nat} {cs : List Value} {y : DataW H × List MemPlace} (he : P.underlying e = some (.struct fs))
  (k0 : fieldAt? P fs 0 = some (0, 1, t0)) (k1 : fieldAt? P fs 1 = some (1, 1, t1)) (k2 : fieldAt? P fs 2 = some (2, 1, t2)) (u0 : P.underlying t0 = some (.int .i64)) (u1 : P.underlying t1 = some (.int .i64)) (u2 : P.underlying t2 = some (.slice r))
  (hr : P.underlying r = some (.struct rs)) (hrone : oneCellFields P rs = true) (hrC : P.cellsOf r = rs.size) (hr2 : rs.size = 2) (hrb : P.bytesOf r = 24)
  (j0 : fieldOf? P rs 0 = some .string) (j1 : fieldOf? P rs 1 = some (.int .i64)) (hl : cs.length = 3) (hz : ∀ k ∈ y.1.weights P e, k ≤ reachBytes) (h : DataW.trod enc P w base spare held m e cs = some y) :
  ∃ (p : ReplyM) (A : Option Addr) (c : Nat), p.Ok ∧ cs = [i64 p.why, i64 p.amount, .slice A p.rows.length c] ∧ RdR w (.slice A p.rows.length c) p.rows ∧ p.rows.length * 24 ≤ 140737488351232 := by
 match cs, hl with
 | [c0, c1, c2], _ =>
  obtain ⟨m0, z0, s0, _⟩ := trod_field he h k0
  obtain ⟨m1, z1, s1, _⟩ := trod_field he h k1
  obtain ⟨m2, z2, s2, w2⟩ := trod_field he h k2
  obtain ⟨n0, e0, _, r0⟩ := DataW.trod_int u0 s0
  obtain ⟨n1, e1, _, r1⟩ := DataW.trod_int u1 s1
  have hs2 := slice_trod u2 (v := c2) s2
  obtain ⟨l, hR, hg, hd, A, c, rfl⟩ := open_models (d := z2.1) (ps := z2.2) RowM.cells RowM.Ok u2 (by rw [hrC, hr2]) (by decide) hs2 s2 fun m cs y hl h => dec_row hr hrone hrC hr2 j0 j1 hl h
  simp only [List.drop_succ_cons, List.drop_zero, List.take_succ_cons, List.take_zero, List.cons.injEq, and_true] at e0 e1
  subst e0; subst e1
  exact ⟨⟨n0, n1, l⟩, A, c, ⟨wf_i64 r0, wf_i64 r1, hg⟩, rfl, hR, slice_weight u2 hrb (fun k hk => hz k (w2 k hk)) hd⟩
end
def LetP.Fits (x : LetP) : Prop :=
 (x.kind = 2 → x.op.frm.length ≤ 65536 ∧ x.op.to.length ≤ 65536 ∧ x.op.key.length ≤ 65536) ∧ (x.kind = 3 → x.rep.rows.length ≤ 600 ∧ ∀ r ∈ x.rep.rows, r.name.length ≤ 65536) ∧ (x.kind ≠ 2 → x.kind ≠ 3 → x.body.length ≤ 65536)
instance (x : LetP) : Decidable x.Fits := by unfold LetP.Fits; infer_instance
def letv (x : LetP) : List UInt8 :=
 iv x.kind ++ (if x.kind = 2 then iv x.n ++ opv x.op else if x.kind = 3 then iv x.n ++ rpv x.rep else if x.kind = 5 then iv x.n ++ (iv x.group ++ tv x.body) else if x.kind = 4 then iv x.n ++ tv x.body else tv x.body)
def packB (x : LetP) : List UInt8 × Int :=
 if x.kind < 1 ∨ 5 < x.kind then ([], 1) else if ¬ x.Fits then ([], 3) else if 1048576 < (letv x).length then ([], 3) else (letv x, 0)
def groupI (k : Int) : Int := if k = 6 ∨ k = 7 then 0 else -1
def LetP.just (x : LetP) : LetP :=
 ⟨x.kind, if x.kind = 1 then 0 else x.n, if x.kind = 5 then x.group else 0, if x.kind = 2 then x.op else ⟨0, [], [], 0, [], 0, 0⟩, if x.kind = 3 then x.rep else ⟨0, 0, []⟩, if x.kind = 2 ∨ x.kind = 3 then [] else x.body⟩
end Go.Q
namespace Go.Q
open Go.ChangeShapes Go.WideShapes Go.ChangeAt Go.RowKit Go.Deep
section
variable {H : Type} {enc : TypeId × Value → H} {P : Program} {w : World} {base : Nat} {spare : Nat → Bool} {held : Bool}
theorem weightsAll_mem {e : TypeId} : ∀ {l : List (DataW H)} {d : DataW H}, d ∈ l → ∀ {n : Nat}, n ∈ d.weights P e → n ∈ DataW.weightsAll P e l
 | [], d, h, _, _ => by cases h
 | x :: l, d, h, n, hn => by
  simp only [DataW.weightsAll, List.mem_append]
  rcases List.mem_cons.1 h with rfl | h
  ·exact .inl hn
  ·exact .inr (weightsAll_mem h hn)
theorem open_rows_w {t e : TypeId} {sz : Nat} {v : Value} {d : DataW H} {ps : List MemPlace} (R : List Value → DataW H → Prop) (ht : P.underlying t = some (.slice e)) (hC : P.cellsOf e = sz) (hsz : 0 < sz)
  {fuel : Nat} (h : DataW.trod enc P w base spare held fuel t [v] = some (d, ps))
  (dec : ∀ (m : Nat) (cs : List Value) (y : DataW H × List MemPlace), cs.length = sz → DataW.trod enc P w base spare held m e cs = some y → R cs y.1) :
  ∃ css : List (List Value), Rd w sz v css.flatten ∧ (∀ cs ∈ css, ∃ z, R cs z ∧ ∀ n ∈ z.weights P e, n ∈ d.weights P t) ∧ (css.length = 0 ∨ ∃ k ∈ d.weights P t, css.length * P.bytesOf e ≤ k) ∧ ∃ A c, v = .slice A css.length c := by
 have hv := slice_trod ht h
 rcases open_slice ht h with ⟨hcs, hx⟩ | ⟨a, len, cap', m, k, D, Pl, hcs, hb, hl, hm, hmm, hxx, hi⟩
 ·simp only [List.cons.injEq, and_true] at hcs
  subst hcs
  exact ⟨[], Rd.nil w sz, by simp, .inl rfl, none, 0, rfl⟩
 ·have hd : d = .slice ((List.range len).map D) ((List.range (m - len)).map fun j => D (len + j)) := by
   simp only [Prod.mk.injEq] at hxx; exact hxx.1
  have hlm : len ≤ m := by rw [hmm]; split <;> omega
  -- each element's cells are read as one of the data
  obtain ⟨css, hr, hc, hdd, A, c, hA⟩ := open_rows (fun cs => ∃ z, R cs z) ht hC hsz hv h fun m cs y hl htr => ⟨y.1, dec m cs y hl htr⟩
  -- the same rows, told with their places
  have hn : css.length = len := by
   simp only [List.cons.injEq, and_true] at hcs
   rw [hA] at hcs
   injection hcs with _ h2 _
  have hat : ∀ i, i < len → ∃ cs z, css[i]? = some cs ∧ R cs z ∧ ∀ n ∈ z.weights P e, n ∈ d.weights P t := by
   intro i hin
   obtain ⟨cs', hc', htr⟩ := hi i (by omega)
   rw [hC] at hc'
   obtain ⟨_, hlen, hcell⟩ := World.cells?_some hc'
   have hci : i < css.length := by omega
   refine ⟨css[i], D i, List.getElem?_eq_getElem hci, ?_, ?_⟩
   ·have hcl := (hc css[i] (List.getElem_mem hci)).1
    have heq : css[i] = cs' := by
     apply List.ext_getElem?
     intro j
     rcases Nat.lt_or_ge j sz with hj | hj
     ·have h1 : css[i][j]? = some (css[i][j]'(by omega)) := List.getElem?_eq_getElem (by omega)
      have h2 : cs'[j]? = some (cs'[j]'(by omega)) := List.getElem?_eq_getElem (by omega)
      have hfl : (css.flatten)[i * sz + j]? = css[i][j]? := by
       have e1 : css.flatten = css.flatMap id := by simp [List.flatMap]
       have hall : ∀ l : List (List Value), (∀ x ∈ l, x.length = sz) → ∀ (k : Nat) (x : List Value), l[k]? = some x → ∀ q, q < sz → l.flatten[k * sz + q]? = x[q]? := by
        intro l
        induction l with
        | nil => intro _ k x hx; simp at hx
        | cons y l ih =>
         intro hy k x hx q hq
         have hyl := hy y (by simp)
         cases k with
         | zero =>
          simp only [List.getElem?_cons_zero, Option.some.injEq] at hx
          subst hx
          rw [List.flatten_cons, Nat.zero_mul, Nat.zero_add, List.getElem?_append_left (by omega)]
         | succ k =>
          simp only [List.getElem?_cons_succ] at hx
          rw [List.flatten_cons, List.getElem?_append_right (by rw [hyl, Nat.add_mul]; omega), hyl, show (k + 1) * sz + q - sz = k * sz + q from by rw [Nat.add_mul]; omega]
          exact ih (fun z hz => hy z (by simp [hz])) k x hx q hq
       exact hall css (fun x hx => (hc x hx).1) i _ (List.getElem?_eq_getElem hci) j hj
      obtain ⟨bk, off, hAA⟩ := Rd.addr (hA ▸ hr : Rd w sz (.slice A css.length c) css.flatten) (by omega)
      have hw1 := Rd.cell (hA ▸ hr : Rd w sz (.slice A css.length c) css.flatten) hAA (hfl.trans h1)
      have hw2 := hcell j hj
      have ha : a = ⟨bk, off, none⟩ := by
       simp only [List.cons.injEq, and_true] at hcs
       rw [hA] at hcs
       injection hcs with h1 _ _
       rw [hAA] at h1
       exact (Option.some.inj h1).symm
      rw [ha, add_plain, add_plain, Nat.add_assoc, hw1, h2] at hw2
      rw [h1, h2]
      exact hw2
     ·rw [List.getElem?_eq_none (by omega), List.getElem?_eq_none (by omega)]
    rw [heq]
    exact dec _ cs' _ hlen htr
   ·intro n hn'
    rw [hd]
    simp only [DataW.weights, ht]
    exact List.mem_cons.2 (.inr (List.mem_append.2 (.inl (weightsAll_mem (List.mem_map.2 ⟨i, List.mem_range.2 hin, rfl⟩) hn'))))
  refine ⟨css, hr, fun cs hcs => ?_, ?_, A, c, hA⟩
  ·obtain ⟨i, hi1, hi2⟩ := List.getElem_of_mem hcs
   obtain ⟨cs2, z, h1, h2, h3⟩ := hat i (by omega)
   rw [List.getElem?_eq_getElem hi1, hi2] at h1
   have := Option.some.inj h1
   subst this
   exact ⟨z, h2, h3⟩
  ·refine .inr ⟨_, by rw [hd]; simp only [DataW.weights, ht]; exact List.mem_cons_self .., ?_⟩
   rw [hn]
   exact Nat.mul_le_mul_right _ (by simp)
end
end Go.Q
namespace Go.Q
open Go.ChangeShapes Go.WideShapes Go.ChangeAt Go.RowKit Go.Deep
structure ActM where
 kind : Int
 n : Int
 op : Opm
 rep : ReplyM
 V : Option Addr
 c : Nat
def ActM.cells (x : ActM) : List Value := [i64 x.kind, i64 x.n, i64 x.op.kind, .string (str x.op.frm), .string (str x.op.to), i64 x.op.amount, .string (str x.op.key), i64 x.op.slot, i64 x.op.shard, i64 x.rep.why, i64 x.rep.amount, .slice x.V x.rep.rows.length x.c]
theorem ActM.two (x : ActM) : x.cells.length = 12 := rfl
theorem ActM.one (x : ActM) : oneCells x.cells = true := rfl
structure ActM.In (w : World) (x : ActM) : Prop where
 kind : -9223372036854775808 ≤ x.kind ∧ x.kind ≤ 9223372036854775807
 n : -9223372036854775808 ≤ x.n ∧ x.n ≤ 9223372036854775807
 rows : RdR w (.slice x.V x.rep.rows.length x.c) x.rep.rows
 rlen : x.rep.rows.length * 24 ≤ 140737488351232
section
variable {H : Type} {enc : TypeId × Value → H} {P : Program} {w : World} {base : Nat} {spare : Nat → Bool} {held : Bool}
theorem open_acts {s e i0 i1 to tr r t0 t1 t2 : TypeId} {fs os ps rs : Array Field} {v : Value} {d : DataW H} {pl : List MemPlace} (hs : P.underlying s = some (.slice e)) (he : P.underlying e = some (.struct fs)) (hC : P.cellsOf e = 12)
  (k0 : fieldAt? P fs 0 = some (0, 1, i0)) (k1 : fieldAt? P fs 1 = some (1, 1, i1)) (k2 : fieldAt? P fs 2 = some (2, 7, to)) (k3 : fieldAt? P fs 3 = some (9, 3, tr))
  (u0 : P.underlying i0 = some (.int .i64)) (u1 : P.underlying i1 = some (.int .i64))
  (ho : P.underlying to = some (.struct os)) (oone : oneCellFields P os = true) (oC : P.cellsOf to = os.size) (o7 : os.size = 7)
  (o0 : fieldOf? P os 0 = some (.int .i64)) (o1 : fieldOf? P os 1 = some .string) (o2 : fieldOf? P os 2 = some .string) (o3 : fieldOf? P os 3 = some (.int .i64)) (o4 : fieldOf? P os 4 = some .string) (o5 : fieldOf? P os 5 = some (.int .i64)) (o6 : fieldOf? P os 6 = some (.int .i64))
  (hp : P.underlying tr = some (.struct ps)) (p0 : fieldAt? P ps 0 = some (0, 1, t0)) (p1 : fieldAt? P ps 1 = some (1, 1, t1)) (p2 : fieldAt? P ps 2 = some (2, 1, t2)) (v0 : P.underlying t0 = some (.int .i64)) (v1 : P.underlying t1 = some (.int .i64)) (v2 : P.underlying t2 = some (.slice r))
  (hr : P.underlying r = some (.struct rs)) (hrone : oneCellFields P rs = true) (hrC : P.cellsOf r = rs.size) (hr2 : rs.size = 2) (hrb : P.bytesOf r = 24)
  (j0 : fieldOf? P rs 0 = some .string) (j1 : fieldOf? P rs 1 = some (.int .i64))
  (hv : Value.okWide P w .any 0 s v) (hz : ∀ k ∈ d.weights P s, k ≤ reachBytes) (h : DataW.Trod enc P w base spare held s v d pl) :
  ∃ (l : List ActM) (A : Option Addr) (c : Nat), v = .slice A l.length c ∧ RdT w 12 ActM.cells (.slice A l.length c) l ∧ ∀ x ∈ l, x.In w := by
 obtain ⟨fuel, h⟩ := trod_fuel h (slice_form hs hv)
 obtain ⟨css, hR, hc, _, A, c, hA⟩ := open_rows_w (sz := 12) (fun cs z => (∀ k ∈ z.weights P e, k ≤ reachBytes) → ∃ x : ActM, x.In w ∧ cs = x.cells) hs hC (by decide) h fun m cs y hl htr hz => by
  match cs, hl with
  | [c0, c1, c2, c3, c4, c5, c6, c7, c8, c9, c10, c11], _ =>
   obtain ⟨m0, z0, s0, _⟩ := trod_field he htr k0
   obtain ⟨m1, z1, s1, _⟩ := trod_field he htr k1
   obtain ⟨m3, z3, s3, _⟩ := trod_field he htr k2
   obtain ⟨m4, z4, s4, w4⟩ := trod_field he htr k3
   obtain ⟨n0, e0, _, w0⟩ := DataW.trod_int u0 s0
   obtain ⟨n1, e1, _, w1⟩ := DataW.trod_int u1 s1
   obtain ⟨o, hok, eo⟩ := dec_op ho oone oC o7 o0 o1 o2 o3 o4 o5 o6 (by rw [o7]; rfl) s3
   obtain ⟨p, A, c, hpk, ep, hpR, hpz⟩ := dec_reply hp p0 p1 p2 v0 v1 v2 hr hrone hrC hr2 hrb j0 j1 rfl (fun k hk => hz k (w4 k hk)) s4
   simp only [List.drop_succ_cons, List.drop_zero, List.take_succ_cons, List.take_zero, List.cons.injEq, and_true] at e0 e1 eo ep
   have eo2 : [c2, c3, c4, c5, c6, c7, c8] = o.cells := eo
   have ep2 : [c9, c10, c11] = [i64 p.why, i64 p.amount, .slice A p.rows.length c] := by simpa using ep
   unfold Opm.cells at eo2
   simp only [List.cons.injEq, and_true] at eo2 ep2
   obtain ⟨rfl, rfl, rfl, rfl, rfl, rfl, rfl⟩ := eo2
   obtain ⟨rfl, rfl, rfl⟩ := ep2
   subst e0; subst e1
   exact ⟨⟨n0, n1, o, p, A, c⟩, ⟨wf_i64 w0, wf_i64 w1, hpR, hpz⟩, rfl⟩
 obtain ⟨l, hb, hl2, hg⟩ := flat_models (f := ActM.cells) (Good := fun x => x.In w) (css := css) fun cs hcs => by
  obtain ⟨z, h1, h2⟩ := hc cs hcs
  exact h1 fun k hk => hz k (h2 k hk)
 rw [← hl2] at hA
 subst hA
 exact ⟨l, A, c, rfl, by unfold RdT; rw [← hb]; exact hR, hg⟩
end
theorem Rd.blk_lt {w : World} {sz n c : Nat} {A : Option Addr} {xs : List Value} (hsz : 0 < sz) (h : Rd w sz (.slice A n c) xs) (h0 : xs ≠ []) : ∀ i, (Value.slice A n c).ownBlock = some i → i < w.heap.size := by
 obtain ⟨A', n', c', he, hl, hc, hm, hx⟩ := h
 injection he with e1 e2 e3
 subst e1; subst e2; subst e3
 have hn : 0 < n := by
  rcases Nat.eq_zero_or_pos n with q | q
  ·exfalso; rw [q, Nat.zero_mul] at hl; exact h0 (List.eq_nil_of_length_eq_zero hl)
  ·exact q
 obtain ⟨b, off, rfl, hcell⟩ := hx hn
 intro i hi
 obtain rfl : b = i := by simpa [Value.ownBlock] using hi
 cases xs with
 | nil => exact absurd rfl h0
 | cons u xs =>
  have h1 := hcell 0 u rfl
  rcases Nat.lt_or_ge b w.heap.size with q | q
  ·exact q
  ·exfalso
   simp [World.cell?, Array.getElem?_eq_none q] at h1
def TwoP (w : World) (F : Nat → Prop) (d a b r a2 b2 : Nat) (ms mr : List DM) : Prop :=
 ∃ FP FR : Nat → Prop, DeskP w FP d a b ms ∧ DeskP w FR r a2 b2 mr ∧ (∀ i, FP i → FR i → False) ∧ (∀ i, FP i → F i) ∧ (∀ i, FR i → F i) ∧ ∀ i, F i → i < w.heap.size
section
variable {w w' : World} {F FP FR : Nat → Prop} {d a b r a2 b2 : Nat} {ms ms' mr mr' : List DM}
theorem TwoP.keep {S : Nat → Prop} (h : TwoP w F d a b r a2 b2 ms mr) (K : Keeps S w w') (hS : ∀ i, F i → ¬ S i) : TwoP w' F d a b r a2 b2 ms mr := by
 obtain ⟨FP, FR, h1, h2, h3, h4, h5, h6⟩ := h
 exact ⟨FP, FR, h1.keep K (fun i hi => hS i (h4 i hi)), h2.keep K (fun i hi => hS i (h5 i hi)), h3, h4, h5, fun i hi => Nat.lt_of_lt_of_le (h6 i hi) K.size⟩
theorem TwoP.lt (h : TwoP w F d a b r a2 b2 ms mr) : ∀ i, F i → i < w.heap.size := by
 obtain ⟨FP, FR, h1, h2, h3, h4, h5, h6⟩ := h
 exact h6
theorem DeskP.new (H : Has w d (rowL [.slice none 0 0] a)) : DeskP w (fun i => i = d) d a b [] :=
 ⟨[], none, 0, none_, rfl, H, OwnT.nil _ _ _ _ _, RowsE.nil _ _ _, fun i hi => hi.elim, fun i hi => (by cases hi), rfl, fun i hi => by have h : i = d := hi; have := H.lt; omega, Nat.zero_le _⟩
theorem TwoP.new (H : Has w d (rowL [.slice none 0 0] a)) (H2 : Has w r (rowL [.slice none 0 0] a2)) (hn : d ≠ r) : TwoP w (fun i => i = d ∨ i = r) d a b r a2 b2 [] [] :=
 ⟨fun i => i = d, fun i => i = r, DeskP.new H, DeskP.new H2, fun i h1 h2 => hn (h1.symm.trans h2), fun i h => .inl h, fun i h => .inr h, fun i h => by have := H.lt; have := H2.lt; rcases h with h | h <;> omega⟩
theorem TwoP.left (h2 : DeskP w FR r a2 b2 mr) (hd : ∀ i, FP i → FR i → False) (hP : ∀ i, FP i → F i) (hR : ∀ i, FR i → F i) (hF : ∀ i, F i → i < w.heap.size) (K : Keeps FP w w') (hD : DeskP w' (fun i => (FP i ∨ w.heap.size ≤ i) ∧ i < w'.heap.size) d a b ms') :
  ∃ F', Keeps F w w' ∧ TwoP w' F' d a b r a2 b2 ms' mr ∧ ∀ i, F' i → F i ∨ w.heap.size ≤ i :=
 ⟨fun i => (F i ∨ w.heap.size ≤ i) ∧ i < w'.heap.size, K.mono (fun i _ h => hP i h), ⟨_, FR, hD, h2.keep K (fun i hi hs => hd i hs hi), fun i h1 h3 => h1.1.elim (fun h => hd i h h3) (fun h => by have := hF i (hR i h3); omega), fun i h => ⟨h.1.imp (hP i) id, h.2⟩, fun i h => ⟨.inl (hR i h), Nat.lt_of_lt_of_le (hF i (hR i h)) K.size⟩, fun i h => h.2⟩, fun i h => h.1⟩
theorem TwoP.right (h1 : DeskP w FP d a b ms) (hd : ∀ i, FP i → FR i → False) (hP : ∀ i, FP i → F i) (hR : ∀ i, FR i → F i) (hF : ∀ i, F i → i < w.heap.size) (K : Keeps FR w w') (hD : DeskP w' (fun i => (FR i ∨ w.heap.size ≤ i) ∧ i < w'.heap.size) r a2 b2 mr') :
  ∃ F', Keeps F w w' ∧ TwoP w' F' d a b r a2 b2 ms mr' ∧ ∀ i, F' i → F i ∨ w.heap.size ≤ i :=
 ⟨fun i => (F i ∨ w.heap.size ≤ i) ∧ i < w'.heap.size, K.mono (fun i _ h => hR i h), ⟨FP, _, h1.keep K (fun i hi hs => hd i hi hs), hD, fun i h3 h1 => h1.1.elim (fun h => hd i h3 h) (fun h => by have := hF i (hP i h3); omega), fun i h => ⟨.inl (hP i h), Nat.lt_of_lt_of_le (hF i (hP i h)) K.size⟩, fun i h => ⟨h.1.imp (hR i) id, h.2⟩, fun i h => h.2⟩, fun i h => h.1⟩
end
def MsOk (ms : List DM) : Prop := ∀ m ∈ ms, m.rows.length * 24 ≤ 140737488351232
theorem MsOk.begin {ms : List DM} (h : MsOk ms) (o : Opm) : MsOk (beginM ms o).1 := by
 unfold beginM
 split
 ·exact h
 ·intro m hm
  rcases List.mem_append.1 hm with q | q
  ·exact h m q
  ·rw [List.mem_singleton] at q; subst q; show 0 * 24 ≤ _; omega
theorem RdR.blk_lt {w : World} {n c : Nat} {A : Option Addr} {rs : List RowM} (h : RdR w (.slice A n c) rs) (h0 : rs ≠ []) : ∀ i, (Value.slice A n c).ownBlock = some i → i < w.heap.size :=
 Rd.blk_lt (by decide) h (fun q => h0 (by cases rs with | nil => rfl | cons x l => simp [RowM.cells] at q))
end Go.Q
namespace Go.Proofs.YtnbcghbgeiocbaaDoor
open Go.Q Go.RowKit
theorem tyH : ElemTy Tryd.prog 33 43 13 144 := elemTy (by kernel_rfl)
end Go.Proofs.YtnbcghbgeiocbaaDoor
namespace Go.Proofs.YtnbcghbgeiocbaaDoor
open Go.Q Go.RowKit
theorem taken_calls (w : World) (x : HC)  : Calls Tryd.prog 16 ⟨[(agg (HC.cells x))]⟩ w (fun e w' => e = .returned (agg x.cells) ∧ Keeps none_ w w') := by
 have K0 : Keeps none_ w w := Keeps.refl w
 refine q_calls Tryd.func16 (by kernel_rfl) (by kernel_rfl) ?_
 refine qsg ?_
 refine onew (rowL (HC.cells x) 43) (fun b => (ptr b)) 1 (fun b => rfl) (fun b1 w2 hb3 H4 K5 hs6 => ?_)
 have nb1 : w.heap.size ≤ b1 := by have := K0.size; omega
 replace K0 := K0.t0 K5
 clear K5 hs6
 refine onew (rowL [(i64 0), (Value.string ByteArray.empty), (Value.string ByteArray.empty), (i64 0), (Value.string ByteArray.empty), (i64 0), (i64 0), (i64 0), (i64 0), (Value.bool false), (i64 0), (i64 0), (Value.slice none 0 0)] 30) (fun b => (ptr b)) 2 (fun b => rfl) (fun b7 w8 hb9 H10 K11 hs12 => ?_)
 have lb7 : b1 < b7 := by have := H4.lt; omega
 have nb7 : w.heap.size ≤ b7 := by have := K0.size; omega
 replace K0 := K0.t0 K11
 replace H4 := H4.kn K11
 clear K11 hs12
 refine od ?_
 refine qsg ?_
 refine og 1 [(1, ptr b1), (2, ptr b7), (3, ptr b1)] 1 ?_
 refine ogo (agg (Opm.cells x.c.op)) 4 (rld 24 b1 0 H4) rfl ?_
 refine og 1 [(1, ptr b1), (2, ptr b7), (4, (agg (Opm.cells x.c.op))), (5, .pointer (some ⟨b1, 7, none⟩))] 3 ?_
 refine ogo (i64 x.c.bg) 6 (rld 3 b1 7 H4) rfl ?_
 refine og 1 [(1, ptr b1), (2, ptr b7), (4, (agg (Opm.cells x.c.op))), (6, i64 x.c.bg), (7, .pointer (some ⟨b1, 8, none⟩))] 5 ?_
 refine ogo (i64 x.c.en) 8 (rld 3 b1 8 H4) rfl ?_
 refine og 1 [(1, ptr b1), (2, ptr b7), (4, (agg (Opm.cells x.c.op))), (6, i64 x.c.bg), (8, i64 x.c.en), (9, .pointer (some ⟨b1, 9, none⟩))] 7 ?_
 refine ogo (Value.bool x.c.told) 10 (rld 4 b1 9 H4) rfl ?_
 refine og 1 [(2, ptr b7), (4, (agg (Opm.cells x.c.op))), (6, i64 x.c.bg), (8, i64 x.c.en), (10, .bool x.c.told), (11, .pointer (some ⟨b1, 10, none⟩))] 9 ?_
 refine ogo (agg [(i64 x.c.rep.why), (i64 x.c.rep.amount), (Value.slice x.A x.c.rep.rows.length x.k)]) 12 (rld 28 b1 10 H4) rfl ?_
 refine og 1 [(2, ptr b7), (13, (agg (HC.cells x)))] 11 ?_
 refine oput 30 b7 (HC.cells x) H10 rfl (fun w13 H14 K15 => ?_)
 replace K0 := K0.t1 K15 fun _ => by omega
 refine od ?_
 refine qtQ ?_
 refine ⟨(agg (HC.cells x)), retv_cell rfl rfl (H14.loads (by kernel_rfl)), ?_⟩
 exact ⟨rfl, K0⟩
theorem SameC_calls (w : World) (x y : HC) (hA : RdR w (.slice x.A x.c.rep.rows.length x.k) x.c.rep.rows) (hB : RdR w (.slice y.A y.c.rep.rows.length y.k) y.c.rep.rows) : Calls Tryd.prog 15 ⟨[(agg (HC.cells x)), (agg (HC.cells y))]⟩ w (fun e w' => ∃ t, e = .returned (.bool t) ∧ (t = true ↔ x.c = y.c) ∧ Keeps none_ w w') := by
 have K0 : Keeps none_ w w := Keeps.refl w
 refine q_calls Tryd.func15 (by kernel_rfl) (by kernel_rfl) ?_
 refine qsg ?_
 refine onew (rowL (HC.cells x) 30) (fun b => (ptr b)) 2 (fun b => rfl) (fun b1 w2 hb3 H4 K5 hs6 => ?_)
 have nb1 : w.heap.size ≤ b1 := by have := K0.size; omega
 replace K0 := K0.t0 K5
 clear K5 hs6
 refine onew (rowL (HC.cells y) 30) (fun b => (ptr b)) 3 (fun b => rfl) (fun b7 w8 hb9 H10 K11 hs12 => ?_)
 have lb7 : b1 < b7 := by have := H4.lt; omega
 have nb7 : w.heap.size ≤ b7 := by have := K0.size; omega
 replace K0 := K0.t0 K11
 replace H4 := H4.kn K11
 clear K11 hs12
 refine odz 1 ?_
 refine qsg ?_
 refine og 1 [(2, ptr b1), (3, ptr b7), (4, .bool false), (5, ptr b1)] 1 ?_
 refine ogo (agg (Opm.cells x.c.op)) 6 (rld 24 b1 0 H4) rfl ?_
 refine og 1 [(2, ptr b1), (3, ptr b7), (4, .bool false), (6, (agg (Opm.cells x.c.op))), (7, ptr b7)] 3 ?_
 refine ogo (agg (Opm.cells y.c.op)) 8 (rld 24 b7 0 H10) rfl ?_
 refine ogo (Value.bool (aggB [(i64 x.c.op.kind), (Value.string (str x.c.op.frm)), (Value.string (str x.c.op.to)), (i64 x.c.op.amount), (Value.string (str x.c.op.key)), (i64 x.c.op.slot), (i64 x.c.op.shard)] [(i64 y.c.op.kind), (Value.string (str y.c.op.frm)), (Value.string (str y.c.op.to)), (i64 y.c.op.amount), (Value.string (str y.c.op.key)), (i64 y.c.op.slot), (i64 y.c.op.shard)])) 9 (Runs.aggeq (t := 24) (by kernel_rfl) (by kernel_rfl)) rfl ?_
 refine og 1 [(2, ptr b1), (3, ptr b7), (4, .bool false), (10, (Value.bool (aggB [(i64 x.c.op.kind), (Value.string (str x.c.op.frm)), (Value.string (str x.c.op.to)), (i64 x.c.op.amount), (Value.string (str x.c.op.key)), (i64 x.c.op.slot), (i64 x.c.op.shard)] [(i64 y.c.op.kind), (Value.string (str y.c.op.frm)), (Value.string (str y.c.op.to)), (i64 y.c.op.amount), (Value.string (str y.c.op.key)), (i64 y.c.op.slot), (i64 y.c.op.shard)])))] 6 ?_
 refine Ops.split (aggB [(i64 x.c.op.kind), (Value.string (str x.c.op.frm)), (Value.string (str x.c.op.to)), (i64 x.c.op.amount), (Value.string (str x.c.op.key)), (i64 x.c.op.slot), (i64 x.c.op.shard)] [(i64 y.c.op.kind), (Value.string (str y.c.op.frm)), (Value.string (str y.c.op.to)), (i64 y.c.op.amount), (Value.string (str y.c.op.key)), (i64 y.c.op.slot), (i64 y.c.op.shard)]) (fun h13 => ?_) (fun h13 => ?_)
 ·rw [h13]
  have p14 : (aggB [(i64 x.c.op.kind), (Value.string (str x.c.op.frm)), (Value.string (str x.c.op.to)), (i64 x.c.op.amount), (Value.string (str x.c.op.key)), (i64 x.c.op.slot), (i64 x.c.op.shard)] [(i64 y.c.op.kind), (Value.string (str y.c.op.frm)), (Value.string (str y.c.op.to)), (i64 y.c.op.amount), (Value.string (str y.c.op.key)), (i64 y.c.op.slot), (i64 y.c.op.shard)]) = true := h13
  refine og 1 [(2, ptr b1), (3, ptr b7), (4, .bool false), (10, .bool true), (11, .pointer (some ⟨b1, 7, none⟩))] 7 ?_
  refine ogo (i64 x.c.bg) 12 (rld 3 b1 7 H4) rfl ?_
  refine og 1 [(2, ptr b1), (3, ptr b7), (4, .bool false), (10, .bool true), (12, i64 x.c.bg), (13, .pointer (some ⟨b7, 7, none⟩))] 9 ?_
  refine ogo (i64 y.c.bg) 14 (rld 3 b7 7 H10) rfl ?_
  refine og 3 [(2, ptr b1), (3, ptr b7), (4, .bool false), (17, .bool (x.c.bg == y.c.bg))] 13 ?_
  refine Ops.split (x.c.bg == y.c.bg) (fun h15 => ?_) (fun h15 => ?_)
  ·rw [h15]
   have p16 := of_beq_t h15
   refine og 1 [(2, ptr b1), (3, ptr b7), (4, .bool false), (17, .bool true), (18, .pointer (some ⟨b1, 8, none⟩))] 14 ?_
   refine ogo (i64 x.c.en) 19 (rld 3 b1 8 H4) rfl ?_
   refine og 1 [(2, ptr b1), (3, ptr b7), (4, .bool false), (17, .bool true), (19, i64 x.c.en), (20, .pointer (some ⟨b7, 8, none⟩))] 16 ?_
   refine ogo (i64 y.c.en) 21 (rld 3 b7 8 H10) rfl ?_
   refine og 3 [(2, ptr b1), (3, ptr b7), (4, .bool false), (24, .bool (x.c.en == y.c.en))] 20 ?_
   refine Ops.split (x.c.en == y.c.en) (fun h17 => ?_) (fun h17 => ?_)
   ·rw [h17]
    have p18 := of_beq_t h17
    refine og 1 [(2, ptr b1), (3, ptr b7), (4, .bool false), (24, .bool true), (25, .pointer (some ⟨b1, 9, none⟩))] 21 ?_
    refine ogo (Value.bool x.c.told) 26 (rld 4 b1 9 H4) rfl ?_
    refine og 1 [(2, ptr b1), (3, ptr b7), (4, .bool false), (24, .bool true), (26, .bool x.c.told), (27, .pointer (some ⟨b7, 9, none⟩))] 23 ?_
    refine ogo (Value.bool y.c.told) 28 (rld 4 b7 9 H10) rfl ?_
    refine Ops.split x.c.told (fun h19 => ?_) (fun h19 => ?_)
    ·rw [h19]
     have p20 : x.c.told = true := h19
     refine Ops.split y.c.told (fun h21 => ?_) (fun h21 => ?_)
     ·rw [h21]
      have p22 : y.c.told = true := h21
      refine og 4 [(3, ptr b7), (4, .bool false), (31, .bool true), (32, .pointer (some ⟨b1, 10, none⟩))] 28 ?_
      refine ogo (agg [(i64 x.c.rep.why), (i64 x.c.rep.amount), (Value.slice x.A x.c.rep.rows.length x.k)]) 33 (rld 28 b1 10 H4) rfl ?_
      refine og 1 [(4, .bool false), (31, .bool true), (33, (agg [(i64 x.c.rep.why), (i64 x.c.rep.amount), (Value.slice x.A x.c.rep.rows.length x.k)])), (34, .pointer (some ⟨b7, 10, none⟩))] 30 ?_
      refine ogo (agg [(i64 y.c.rep.why), (i64 y.c.rep.amount), (Value.slice y.A y.c.rep.rows.length y.k)]) 35 (rld 28 b7 10 H10) rfl ?_
      refine ocQ 36 (SameReply_calls _ x.A x.k x.c.rep y.A y.k y.c.rep (Rd.keep0 (by omega) hA K0) (Rd.keep0 (by omega) hB K0)) ?_
      rintro _ w26 ⟨t23, rfl, ht24, K25⟩
      refine ⟨_, _, rfl, rfl, ?_⟩
      replace K0 := K0.t0 K25
      refine ogd 2 [(4, .bool t23)] ?_
      refine qtQ ?_
      refine ⟨(Value.bool t23), retv_tmp rfl rfl, ?_⟩
      have h0 := (opEq_iff x.c.op y.c.op).1 h13
      have h3 : x.c.told = y.c.told := (h19.trans h21.symm)
      exact ⟨_, rfl, ⟨fun h => hcall_ext h0 (by omega) (by omega) h3 (ht24.1 h), fun h => ht24.2 (congrArg HCall.rep h)⟩, K0⟩
     ·rw [h21]
      have p27 : y.c.told = false := h21
      refine ogd 10 [(4, .bool false)] ?_
      refine qtQ ?_
      refine ⟨(Value.bool false), retv_tmp rfl rfl, ?_⟩
      exact ⟨false, rfl, ⟨fun h => (by cases h), fun h => by exfalso; have e0 := congrArg HCall.op h; have e1 := congrArg HCall.bg h; have e2 := congrArg HCall.en h; have e3 := congrArg HCall.told h; rw [h19, h21] at e3; cases e3⟩, K0⟩
    ·rw [h19]
     have p28 : x.c.told = false := h19
     refine Ops.split y.c.told (fun h29 => ?_) (fun h29 => ?_)
     ·rw [h29]
      have p30 : y.c.told = true := h29
      refine ogd 10 [(4, .bool false)] ?_
      refine qtQ ?_
      refine ⟨(Value.bool false), retv_tmp rfl rfl, ?_⟩
      exact ⟨false, rfl, ⟨fun h => (by cases h), fun h => by exfalso; have e0 := congrArg HCall.op h; have e1 := congrArg HCall.bg h; have e2 := congrArg HCall.en h; have e3 := congrArg HCall.told h; rw [h19, h29] at e3; cases e3⟩, K0⟩
     ·rw [h29]
      have p31 : y.c.told = false := h29
      refine og 4 [(3, ptr b7), (4, .bool false), (31, .bool true), (32, .pointer (some ⟨b1, 10, none⟩))] 28 ?_
      refine ogo (agg [(i64 x.c.rep.why), (i64 x.c.rep.amount), (Value.slice x.A x.c.rep.rows.length x.k)]) 33 (rld 28 b1 10 H4) rfl ?_
      refine og 1 [(4, .bool false), (31, .bool true), (33, (agg [(i64 x.c.rep.why), (i64 x.c.rep.amount), (Value.slice x.A x.c.rep.rows.length x.k)])), (34, .pointer (some ⟨b7, 10, none⟩))] 30 ?_
      refine ogo (agg [(i64 y.c.rep.why), (i64 y.c.rep.amount), (Value.slice y.A y.c.rep.rows.length y.k)]) 35 (rld 28 b7 10 H10) rfl ?_
      refine ocQ 36 (SameReply_calls _ x.A x.k x.c.rep y.A y.k y.c.rep (Rd.keep0 (by omega) hA K0) (Rd.keep0 (by omega) hB K0)) ?_
      rintro _ w35 ⟨t32, rfl, ht33, K34⟩
      refine ⟨_, _, rfl, rfl, ?_⟩
      replace K0 := K0.t0 K34
      refine ogd 2 [(4, .bool t32)] ?_
      refine qtQ ?_
      refine ⟨(Value.bool t32), retv_tmp rfl rfl, ?_⟩
      have h0 := (opEq_iff x.c.op y.c.op).1 h13
      have h3 : x.c.told = y.c.told := (h19.trans h29.symm)
      exact ⟨_, rfl, ⟨fun h => hcall_ext h0 (by omega) (by omega) h3 (ht33.1 h), fun h => ht33.2 (congrArg HCall.rep h)⟩, K0⟩
   ·rw [h17]
    have p36 := of_beq_f h17
    refine ogd 14 [(4, .bool false)] ?_
    refine qtQ ?_
    refine ⟨(Value.bool false), retv_tmp rfl rfl, ?_⟩
    exact ⟨false, rfl, ⟨fun h => (by cases h), fun h => by exfalso; have e0 := congrArg HCall.op h; have e1 := congrArg HCall.bg h; have e2 := congrArg HCall.en h; have e3 := congrArg HCall.told h; omega⟩, K0⟩
  ·rw [h15]
   have p37 := of_beq_f h15
   refine ogd 21 [(4, .bool false)] ?_
   refine qtQ ?_
   refine ⟨(Value.bool false), retv_tmp rfl rfl, ?_⟩
   exact ⟨false, rfl, ⟨fun h => (by cases h), fun h => by exfalso; have e0 := congrArg HCall.op h; have e1 := congrArg HCall.bg h; have e2 := congrArg HCall.en h; have e3 := congrArg HCall.told h; omega⟩, K0⟩
 ·rw [h13]
  have p38 : (aggB [(i64 x.c.op.kind), (Value.string (str x.c.op.frm)), (Value.string (str x.c.op.to)), (i64 x.c.op.amount), (Value.string (str x.c.op.key)), (i64 x.c.op.slot), (i64 x.c.op.shard)] [(i64 y.c.op.kind), (Value.string (str y.c.op.frm)), (Value.string (str y.c.op.to)), (i64 y.c.op.amount), (Value.string (str y.c.op.key)), (i64 y.c.op.slot), (i64 y.c.op.shard)]) = false := h13
  refine ogd 28 [(4, .bool false)] ?_
  refine qtQ ?_
  refine ⟨(Value.bool false), retv_tmp rfl rfl, ?_⟩
  have h9 := h13
  exact ⟨false, rfl, ⟨fun h => (by cases h), fun h => by exfalso; have e0 := congrArg HCall.op h; have e1 := congrArg HCall.bg h; have e2 := congrArg HCall.en h; have e3 := congrArg HCall.told h; rw [e0] at h9; simp [aggB, cellB] at h9⟩, K0⟩
end Go.Proofs.YtnbcghbgeiocbaaDoor
namespace Go.Q
open Go.RowKit
def le4 (a b c d : Nat) : Nat := (((0 ||| a * 1) ||| b * 256) ||| c * 65536) ||| d * 16777216
theorem or_add {k A x : Nat} (h : A < 2 ^ k) : A ||| x * 2 ^ k = A + x * 2 ^ k := by
 have := Nat.two_pow_add_eq_or_of_lt h x
 rw [Nat.or_comm, Nat.mul_comm x, ← this, Nat.add_comm]
theorem le4_eq {a b c d : Nat} (ha : a < 256) (hb : b < 256) (hc : c < 256) (hd : d < 256) : le4 a b c d = a + b * 256 + c * 65536 + d * 16777216 := by
 unfold le4
 have h1 : (0 ||| a * 1) = a := by simp
 have h2 : a ||| b * 256 = a + b * 256 := or_add (k := 8) (by omega)
 have h3 : (a + b * 256) ||| c * 65536 = a + b * 256 + c * 65536 := or_add (k := 16) (by omega)
 have h4 : (a + b * 256 + c * 65536) ||| d * 16777216 = a + b * 256 + c * 65536 + d * 16777216 := or_add (k := 24) (by omega)
 rw [h1, h2, h3, h4]
def byteN (bs : List UInt8) (k : Nat) : Nat := (bs.getD k 0).toNat
def cutB (bs : List UInt8) : List UInt8 × Nat × Int :=
 if (scanB bs).2.2 ≠ 0 then ([], 0, (scanB bs).2.2)
 else if 65536 < (scanB bs).1 then ([], 0, 3)
 else if bs.length < (scanB bs).2.1 + 4 + (scanB bs).1 then ([], 0, 10)
 else if le4 (byteN bs (scanB bs).2.1) (byteN bs ((scanB bs).2.1 + 1)) (byteN bs ((scanB bs).2.1 + 2)) (byteN bs ((scanB bs).2.1 + 3)) ≠ crcMore 0 ((bs.drop ((scanB bs).2.1 + 4)).take (scanB bs).1) then ([], (scanB bs).2.1 + 4 + (scanB bs).1, 12)
 else ((bs.drop ((scanB bs).2.1 + 4)).take (scanB bs).1, (scanB bs).2.1 + 4 + (scanB bs).1, 0)
def unframeB (bs : List UInt8) : List UInt8 × Int :=
 if 0 < (cutB bs).2.1 ∧ (cutB bs).2.1 < bs.length then ([], 11)
 else if (cutB bs).2.2 ≠ 0 then ([], (cutB bs).2.2)
 else ((cutB bs).1, 0)
theorem frame_scan (p rest : List UInt8) (hp : p.length ≤ 65536) : scanB (frameB p ++ rest) = (p.length, (uv p.length).length, 0) := by
 unfold frameB
 rw [List.append_assoc]
 exact scanB_uv _ (by omega)
theorem frame_len (p : List UInt8) : (frameB p).length = (uv p.length).length + 4 + p.length := by
 unfold frameB fourB
 simp only [List.length_append, List.length_cons, List.length_nil]
 omega
theorem frame_cut {p rest : List UInt8} (hp : p.length ≤ 65536) : cutB (frameB p ++ rest) = (p, (uv p.length).length + 4 + p.length, 0) := by
 have hs := frame_scan p rest hp
 have hl := frame_len p
 have hd : (frameB p ++ rest).drop ((uv p.length).length + 4) = p ++ rest := by
  unfold frameB fourB
  simp only [List.append_assoc]
  rw [← List.drop_drop, List.drop_left]
  rfl
 have hb : ∀ j, j < 4 → byteN (frameB p ++ rest) ((uv p.length).length + j) = byteN (fourB (crcMore 0 p)) j := by
  intro j hj
  unfold byteN frameB
  rw [List.getD_eq_getElem?_getD, List.getD_eq_getElem?_getD, List.append_assoc, List.getElem?_append_right (by omega), Nat.add_sub_cancel_left, List.append_assoc, List.getElem?_append_left (by unfold fourB; simpa using hj)]
 have hc := crcMore_lt p (s := 0) (by omega)
 unfold cutB
 rw [hs, if_neg (by simp), if_neg (by simp only; omega), if_neg (by simp only [List.length_append]; omega)]
 simp only [hd, List.take_left]
 have h0 := hb 0 (by omega)
 rw [Nat.add_zero] at h0
 rw [h0, hb 1 (by omega), hb 2 (by omega), hb 3 (by omega)]
 have hle : le4 (byteN (fourB (crcMore 0 p)) 0) (byteN (fourB (crcMore 0 p)) 1) (byteN (fourB (crcMore 0 p)) 2) (byteN (fourB (crcMore 0 p)) 3) = crcMore 0 p := by
  have b0 : byteN (fourB (crcMore 0 p)) 0 = crcMore 0 p % 256 := by unfold byteN fourB; simp
  have b1 : byteN (fourB (crcMore 0 p)) 1 = crcMore 0 p / 256 % 256 := by unfold byteN fourB; simp
  have b2 : byteN (fourB (crcMore 0 p)) 2 = crcMore 0 p / 65536 % 256 := by unfold byteN fourB; simp; omega
  have b3 : byteN (fourB (crcMore 0 p)) 3 = crcMore 0 p / 16777216 % 256 := by unfold byteN fourB; simp; omega
  rw [b0, b1, b2, b3, le4_eq (by omega) (by omega) (by omega) (by omega)]
  omega
 rw [hle, if_neg (by simp)]
theorem unframe_short {p : List UInt8} {k : Nat} (hp : p.length ≤ 65536) (hk : k < (frameB p).length) : unframeB ((frameB p).take k) = ([], 10) := by
 have hl := frame_len p
 have hc : cutB ((frameB p).take k) = ([], 0, 10) := by
  rcases Nat.lt_or_ge k (uv p.length).length with h | h
  ·have e : (frameB p).take k = (uv p.length).take k := by
    unfold frameB
    rw [List.take_append_of_le_length (by omega)]
   have hs := scanA_short p.length k 0 0 h (.inl rfl) (by rw [show p7 0 = 1 from rfl]; omega) (by omega)
   unfold cutB
   rw [e]
   have : (scanB ((uv p.length).take k)).2.2 = 10 := by show (scanA ((uv p.length).take k) 0 0).2.2 = 10; rw [hs]
   rw [if_pos (by omega), this]
  ·have e : (frameB p).take k = uv p.length ++ ((fourB (crcMore 0 p) ++ p).take (k - (uv p.length).length)) := by
    unfold frameB
    rw [List.take_append, List.take_of_length_le h]
   have hs := scanB_uv (m := p.length) ((fourB (crcMore 0 p) ++ p).take (k - (uv p.length).length)) (by omega)
   have hlen : ((frameB p).take k).length = k := by rw [List.length_take]; omega
   unfold cutB
   rw [hlen, e, hs, if_neg (by simp), if_neg (by simp only; omega), if_pos (by simp only; omega)]
 unfold unframeB
 rw [hc, if_neg (by simp), if_pos (by simp)]
end Go.Q
namespace Go.Q
open Go.RowKit
def framesN : Nat → List UInt8 → List (List UInt8)
 | 0, _ => []
 | N + 1, bs => if bs.length = 0 ∨ (cutB bs).2.2 ≠ 0 then [] else (cutB bs).1 :: framesN N (bs.drop (cutB bs).2.1)
def framesB (bs : List UInt8) : List (List UInt8) := framesN bs.length bs
theorem cut_pos {bs : List UInt8} (h : (cutB bs).2.2 = 0) : 4 ≤ (cutB bs).2.1 ∧ (cutB bs).2.1 ≤ bs.length := by
 unfold cutB at h ⊢
 by_cases h1 : (scanB bs).2.2 ≠ 0
 ·rw [if_pos h1] at h; exact absurd h h1
 ·rw [if_neg h1] at h ⊢
  by_cases h2 : 65536 < (scanB bs).1
  ·rw [if_pos h2] at h; cases h
  ·rw [if_neg h2] at h ⊢
   by_cases h3 : bs.length < (scanB bs).2.1 + 4 + (scanB bs).1
   ·rw [if_pos h3] at h; cases h
   ·rw [if_neg h3] at h ⊢
    split at h
    ·cases h
    ·rename_i h4
     rw [if_neg h4]
     simp only
     omega
theorem framesN_more : ∀ (N M : Nat) (bs : List UInt8), bs.length ≤ N → bs.length ≤ M → framesN N bs = framesN M bs
 | 0, 0, bs, _, _ => rfl
 | 0, M + 1, bs, h, _ => by unfold framesN; rw [if_pos (.inl (by omega))]
 | N + 1, 0, bs, _, h => by unfold framesN; rw [if_pos (.inl (by omega))]
 | N + 1, M + 1, bs, h1, h2 => by
  unfold framesN
  split
  ·rfl
  ·rename_i hc
   have hp := cut_pos (bs := bs) (Classical.byContradiction fun q => hc (.inr q))
   rw [framesN_more N M _ (by rw [List.length_drop]; omega) (by rw [List.length_drop]; omega)]
theorem frames_nil {bs : List UInt8} (h : bs.length = 0 ∨ (cutB bs).2.2 ≠ 0) : framesB bs = [] := by
 unfold framesB
 cases bs.length with
 | zero => rfl
 | succ N => unfold framesN; rw [if_pos h]
theorem frames_cons {bs : List UInt8} (h : bs.length ≠ 0) (h2 : (cutB bs).2.2 = 0) : framesB bs = (cutB bs).1 :: framesB (bs.drop (cutB bs).2.1) := by
 have hp := cut_pos h2
 unfold framesB
 cases hl : bs.length with
 | zero => exact absurd hl h
 | succ N =>
  rw [framesN, if_neg (by rw [hl]; simp [h2])]
  rw [framesN_more N (bs.drop (cutB bs).2.1).length _ (by rw [List.length_drop]; omega) (Nat.le_refl _)]
theorem cut_short {p : List UInt8} {k : Nat} (hp : p.length ≤ 65536) (hk : k < (frameB p).length) : (cutB ((frameB p).take k)).2.2 ≠ 0 := by
 intro h
 have hu := unframe_short hp hk
 unfold unframeB at hu
 split at hu
 ·have := congrArg Prod.snd hu; simp at this
 ·rw [if_neg (by rw [h]; simp)] at hu
  have := congrArg Prod.snd hu; simp at this
def fitN : List (List UInt8) → Nat → Nat
 | [], _ => 0
 | p :: l, cut => if (frameB p).length ≤ cut then fitN l (cut - (frameB p).length) + 1 else 0
theorem frames_take : ∀ (l : List (List UInt8)) (cut : Nat), (∀ p ∈ l, p.length ≤ 65536) → framesB ((l.flatMap frameB).take cut) = l.take (fitN l cut)
 | [], cut, h => by rw [frames_nil (.inl (by simp))]; rfl
 | p :: l, cut, h => by
  have hp := h p (by simp)
  have hl := frame_len p
  rw [List.flatMap_cons]
  unfold fitN
  by_cases hc : (frameB p).length ≤ cut
  ·rw [if_pos hc, List.take_append, List.take_of_length_le hc]
   have hf := frame_cut (rest := (l.flatMap frameB).take (cut - (frameB p).length)) hp
   have hn : (frameB p ++ (l.flatMap frameB).take (cut - (frameB p).length)).length ≠ 0 := by rw [List.length_append]; omega
   rw [frames_cons hn (by rw [hf]), hf]
   simp only
   rw [← hl, List.drop_left, frames_take l _ (fun q hq => h q (by simp [hq])), List.take_succ_cons]
  ·rw [if_neg hc, List.take_append_of_le_length (by omega), frames_nil (.inr (cut_short hp (by omega)))]
   rfl
end Go.Q
namespace Go.Q
open Go.ChangeShapes Go.WideShapes Go.ChangeAt Go.RowKit Go.Deep
structure PartP where
 A : Option Addr
 c : Nat
 data : List UInt8
def PartP.cells (x : PartP) : List Value := [.slice x.A x.data.length x.c]
theorem PartP.two (x : PartP) : x.cells.length = 1 := rfl
theorem PartP.one (x : PartP) : oneCells x.cells = true := rfl
abbrev RdP (w : World) (v : Value) (l : List PartP) : Prop := RdT w 1 PartP.cells v l
def PartsIn (w : World) (l : List PartP) : Prop := ∀ x ∈ l, RdB w (.slice x.A x.data.length x.c) x.data
theorem PartsIn.keep {w w' : World} {l : List PartP} (h : PartsIn w l) (K : Keeps none_ w w') : PartsIn w' l := fun x hx => (h x hx).keep0 (by omega) K
def PartsOwn (e : Nat) (w : World) (base : Nat) (l : List PartP) : Prop := ∀ x ∈ l, OwnB w base e (.slice x.A x.data.length x.c) x.data
theorem PartsOwn.ins {e base : Nat} {w : World} {l : List PartP} (h : PartsOwn e w base l) : PartsIn w l := fun x hx => OwnB.rd (h x hx)
theorem PartsOwn.nil (e : Nat) (w : World) (base : Nat) : PartsOwn e w base [] := fun x hx => by cases hx
theorem PartsOwn.keep {e base : Nat} {w w' : World} {l : List PartP} (h : PartsOwn e w base l) (K : Keeps none_ w w') : PartsOwn e w' base l := fun x hx => own_keep0 (h x hx) K
theorem PartsOwn.add {e base : Nat} {w : World} {l : List PartP} {x : PartP} (h : PartsOwn e w base l) (hx : OwnB w base e (.slice x.A x.data.length x.c) x.data) : PartsOwn e w base (l ++ [x]) := fun y hy => by
 rcases List.mem_append.1 hy with hy | hy
 ·exact h y hy
 ·rw [List.mem_singleton] at hy; subst hy; exact hx
theorem own_types {w : World} {b1 b2 e1 e2 s1 s2 n1 n2 : Nat} {v1 v2 : Value} {xs1 xs2 : List Value} (h1 : w.ownsRow b1 e1 s1 v1 n1 xs1) (h2 : w.ownsRow b2 e2 s2 v2 n2 xs2) (he : e1 ≠ e2) : ∀ i, v1.ownBlock = some i → v2.ownBlock = some i → False := by
 intro i hi1 hi2
 obtain ⟨_, h1⟩ := h1
 obtain ⟨_, h2⟩ := h2
 rcases h1 with ⟨rfl, _⟩ | ⟨g1, _, _, rfl, _, g1h, _⟩
 ·cases hi1
 ·rcases h2 with ⟨rfl, _⟩ | ⟨g2, _, _, rfl, _, g2h, _⟩
  ·cases hi2
  ·obtain rfl : g1 = i := by simpa [Value.ownBlock] using hi1
   obtain rfl : g2 = g1 := by simpa [Value.ownBlock] using hi2
   rw [g1h] at g2h
   simp only [Option.some.injEq, Obj.cells.injEq] at g2h
   exact he g2h.2.1
theorem PartsOwn.apart {e base b2 e2 s2 n2 : Nat} {w : World} {l : List PartP} {v : Value} {xs : List Value} (h : PartsOwn e w base l) (h2 : w.ownsRow b2 e2 s2 v n2 xs) (he : e ≠ e2) :
  ∀ x ∈ l, ∀ i, (Value.slice x.A x.data.length x.c).ownBlock = some i → v.ownBlock = some i → False := fun x hx => own_types (h x hx) h2 he
def icell (n : Int) : List Value := [i64 n]
theorem RdT.ldu {α : Type} {f : α → List Value} {P : Program} {t : TypeId} {w : World} {n c k b off : Nat} {A : Option Addr} {l : List α} {x : α} {u : Value} (hf : ∀ x, (f x).length = 1) (h : RdT w 1 f (.slice A n c) l) (ht : isAgg? P t = some false) (hA : A = some ⟨b, off, none⟩) (hx : l[k]? = some x) (hu : (f x)[0]? = some u) :
  Loads P w t ⟨b, off + k, none⟩ u := by
 have := RdT.ldf (o := 0) hf h ht hA hx hu
 rwa [Nat.mul_one, Nat.add_zero] at this
section
variable {H : Type} {enc : TypeId × Value → H} {P : Program} {w : World} {base : Nat} {spare : Nat → Bool} {held : Bool}
end
def allB (l : List PartP) (i : Nat) : List UInt8 := ((l.map PartP.data).take i).flatMap frameB
def endsI (l : List PartP) (i : Nat) : List Int := (List.range i).map fun j => (((allB l (j + 1)).length : Nat) : Int)
theorem fit_le : ∀ (l : List (List UInt8)) (cut : Nat), fitN l cut ≤ l.length
 | [], _ => Nat.le_refl _
 | p :: l, cut => by
  unfold fitN
  split
  ·have := fit_le l (cut - (frameB p).length); rw [List.length_cons]; omega
  ·exact Nat.zero_le _
theorem fit_end : ∀ (l : List (List UInt8)) (cut k : Nat), k < fitN l cut → ((l.take (k + 1)).flatMap frameB).length ≤ cut
 | [], _, k, h => by cases h
 | p :: l, cut, k, h => by
  unfold fitN at h
  split at h
  ·rename_i hc
   rw [List.take_succ_cons, List.flatMap_cons, List.length_append]
   cases k with
   | zero => rw [List.take_zero]; simpa using hc
   | succ k => have := fit_end l (cut - (frameB p).length) k (by omega); omega
  ·cases h
theorem fit_stop : ∀ (l : List (List UInt8)) (cut : Nat), fitN l cut < l.length → cut < ((l.take (fitN l cut + 1)).flatMap frameB).length
 | [], _, h => by cases h
 | p :: l, cut, h => by
  unfold fitN at h ⊢
  split
  ·rename_i hc
   rw [if_pos hc, List.length_cons] at h
   have := fit_stop l (cut - (frameB p).length) (by omega)
   rw [List.take_succ_cons, List.flatMap_cons, List.length_append]
   omega
  ·rename_i hc
   rw [List.take_succ_cons, List.flatMap_cons, List.length_append]
   omega
theorem told {l : List PartP} {i k : Nat} (hi : i ≤ l.length) (hs : ∀ x ∈ l.take i, x.data.length ≤ 65536) :
  (framesB ((allB l i).take k)).length ≤ i ∧ (∀ j, j < (framesB ((allB l i).take k)).length → (allB l (j + 1)).length ≤ k ∧ ∀ x, l[j]? = some x → (framesB ((allB l i).take k)).getD j [] = x.data) ∧
   ((framesB ((allB l i).take k)).length < i → k < (allB l ((framesB ((allB l i).take k)).length + 1)).length) := by
 have ht : framesB ((allB l i).take k) = ((l.map PartP.data).take i).take (fitN ((l.map PartP.data).take i) k) := frames_take _ _ fun p hp => by
  rw [← List.map_take] at hp
  obtain ⟨x, hx, rfl⟩ := List.mem_map.1 hp
  exact hs x hx
 have hl : ((l.map PartP.data).take i).length = i := by rw [List.length_take, List.length_map]; omega
 have hf := fit_le ((l.map PartP.data).take i) k
 have hN : (framesB ((allB l i).take k)).length = fitN ((l.map PartP.data).take i) k := by rw [ht, List.length_take]; omega
 have htt : ∀ j, j < i → ((l.map PartP.data).take i).take (j + 1) = (l.map PartP.data).take (j + 1) := fun j hj => by rw [List.take_take]; congr 1; omega
 refine ⟨by omega, fun j hj => ⟨?_, fun x hx => ?_⟩, fun h => ?_⟩
 ·have := fit_end ((l.map PartP.data).take i) k j (by omega)
  rw [htt j (by omega)] at this
  exact this
 ·rw [List.getD_eq_getElem?_getD, ht, List.getElem?_take_of_lt (by omega), List.getElem?_take_of_lt (by omega), List.getElem?_map, hx]
  rfl
 ·have := fit_stop ((l.map PartP.data).take i) k (by omega)
  rw [← hN, htt _ h] at this
  exact this
end Go.Q
namespace Go.Proofs.YtnbcghbgeiocbaaDoor
open Go.Q Go.RowKit
theorem sameN_calls (w : World) (A : Option Addr) (c : Nat) (la : List Nat) (B : Option Addr) (d : Nat) (lb : List Nat) (hA : RdT w 1 iN (.slice A la.length c) la) (hB : RdT w 1 iN (.slice B lb.length d) lb) : Calls Tryd.prog 17 ⟨[(Value.slice A la.length c), (Value.slice B lb.length d)]⟩ w (fun e w' => ∃ t, e = .returned (.bool t) ∧ (t = true ↔ la = lb) ∧ Keeps none_ w w') := by
 have hla := (RdT.len iN_one (by decide) hA).2
 unfold maxLen at hla
 have K0 : Keeps none_ w w := Keeps.refl w
 refine q_calls Tryd.func17 (by kernel_rfl) (by kernel_rfl) ?_
 refine qsg ?_
 refine odz 1 ?_
 refine qs ?_
 refine qsg ?_
 refine ogd 5 [(0, .slice A la.length c), (1, .slice B lb.length d), (4, .bool false), (10, (Value.bool (((la.length : Nat) : Int) != ((lb.length : Nat) : Int))))] ?_
 refine qcQ 10 (((la.length : Nat) : Int) != ((lb.length : Nat) : Int)) rfl (fun h1 => ?_) (fun h1 => ?_)
 ·rw [h1]
  have p2 := of_bne_t h1
  refine qsg ?_
  refine ogd 1 [(0, .slice A la.length c), (1, .slice B lb.length d), (4, .bool false)] ?_
  refine qtQ ?_
  refine ⟨(Value.bool false), retv_tmp rfl rfl, ?_⟩
  exact ⟨false, rfl, ⟨fun h => (by cases h), fun h => by exfalso; have := congrArg List.length h; omega⟩, K0⟩
 ·rw [h1]
  have p3 := of_bne_f h1
  refine qkQ ?_
  refine qs ?_
  refine qsg ?_
  refine ogd 1 [(0, .slice A la.length c), (1, .slice B lb.length d), (4, .bool false), (5, i64 0)] ?_
  refine q_block (id := 0) (by kernel_rfl) ?_
  refine q_keep (R := [(0, .slice A la.length c), (1, .slice B lb.length d), (5, i64 0)]) (by kernel_rfl) ?_
  refine q_loop (fun (i : Nat) L (wx : World) => L = [(0, (Value.slice A la.length c)), (1, (Value.slice B lb.length d)), (5, (i64 ((i : Nat) : Int)))] ∧ la.take i = lb.take i ∧ i ≤ la.length ∧ Keeps none_ w wx) (fun (i : Nat) => la.length - i) 0 (by kernel_rfl) ⟨rfl, rfl, Nat.zero_le _, K0⟩ ?_
  clear K0
  rintro i _ w4 ⟨rfl, hE, hi, K5⟩
  refine qs ?_
  refine qsg ?_
  refine ogd 4 [(0, .slice A la.length c), (1, .slice B lb.length d), (5, i64 ↑i), (14, (Value.bool (decide (((i : Nat) : Int) < ((la.length : Nat) : Int)))))] ?_
  refine qcQ 14 (decide (((i : Nat) : Int) < ((la.length : Nat) : Int))) rfl (fun h6 => ?_) (fun h6 => ?_)
  ·rw [h6]
   have p7 := of_decide_eq_true h6
   obtain ⟨rb8, ro9, x, hA10, hx11⟩ := RdT.open (Rd.keep0 (by omega) hA K5) rfl (k := i) (by omega)
   obtain ⟨rb12, ro13, y, hA14, hx15⟩ := RdT.open (Rd.keep0 (by omega) hB K5) rfl (k := i) (by omega)
   have hX := hx11
   have hY := hx15
   refine qkQ ?_
   refine qs ?_
   refine q_block (id := 1) (by kernel_rfl) ?_
   refine qs ?_
   refine q_draw (fun wz => Keeps none_ w4 wz) 9 (by kernel_rfl) (by kernel_rfl) (by kernel_rfl) (fun w16 K17 _ _ => ⟨K17, ?_⟩)
   replace K5 := K5.tn K17
   refine Dr.strong (S' := (fun wz => Keeps none_ w16 wz)) (Keeps.refl w16) (fun wz hx => K17.trans hx (fun i _ h => h) (fun _ _ h => h)) ?_
   refine dkQ 7 [0, 1] [(0, .slice A la.length c), (1, .slice B lb.length d), (5, i64 ↑i), (17, .slice A la.length c), (18, i64 ↑i)] ?_
   refine dtQ 2 (Value.pointer (some ⟨rb8, ro9 + i, none⟩)) 19 (fun wz hS => Runs.ixSliceE (k := IntKind.i64) (t := 35) (len := la.length) (cap := c) (s := 1) (off' := ro9 + i) (i := ((i : Nat) : Int)) hA10 (by kernel_rfl) (by kernel_rfl) (by omega) (by omega) (by omega)) rfl ?_
   refine dtQ 3 (i64 ((x : Nat) : Int)) 20 (fun wz hS => Runs.load (t := 3) (a := ⟨rb8, ro9 + i, none⟩) (by kernel_rfl) (RdT.ldu (f := iN) (x := x) iN_one (Rd.keep0 (by omega) hA (K5.trans hS (fun _ _ h => h) (fun _ _ h => h))) (by kernel_rfl) hA10 hx11 rfl)) rfl ?_
   refine dkQ 3 [4, 5] [(0, .slice A la.length c), (1, .slice B lb.length d), (5, i64 ↑i), (20, i64 ↑x), (21, .slice B lb.length d), (22, i64 ↑i)] ?_
   refine dtQ 6 (Value.pointer (some ⟨rb12, ro13 + i, none⟩)) 23 (fun wz hS => Runs.ixSliceE (k := IntKind.i64) (t := 35) (len := lb.length) (cap := d) (s := 1) (off' := ro13 + i) (i := ((i : Nat) : Int)) hA14 (by kernel_rfl) (by kernel_rfl) (by omega) (by omega) (by omega)) rfl ?_
   refine dtQ 7 (i64 ((y : Nat) : Int)) 24 (fun wz hS => Runs.load (t := 3) (a := ⟨rb12, ro13 + i, none⟩) (by kernel_rfl) (RdT.ldu (f := iN) (x := y) iN_one (Rd.keep0 (by omega) hB (K5.trans hS (fun _ _ h => h) (fun _ _ h => h))) (by kernel_rfl) hA14 hx15 rfl)) rfl ?_
   refine dkQ 0 [8] [(0, .slice A la.length c), (1, .slice B lb.length d), (5, i64 ↑i), (25, (Value.bool (((x : Nat) : Int) != ((y : Nat) : Int))))] ?_
   refine Dr.done (by kernel_rfl) ?_
   refine qcQ 25 (((x : Nat) : Int) != ((y : Nat) : Int)) rfl (fun h18 => ?_) (fun h18 => ?_)
   ·rw [h18]
    have p19 := of_bne_t h18
    have hxy : x ≠ y := by omega
    refine qsg ?_
    refine ogd 1 [(0, .slice A la.length c), (1, .slice B lb.length d), (4, .bool false), (5, i64 ↑i)] ?_
    refine qtQ ?_
    refine ⟨(Value.bool false), retv_tmp rfl rfl, ?_⟩
    exact ⟨false, rfl, ⟨fun h => (by cases h), fun h => absurd h (getElem_ne hX hY hxy)⟩, K5⟩
   ·rw [h18]
    have p20 := of_bne_f h18
    have hxy : x = y := by omega
    refine qkQ ?_
    refine qg ?_
    refine oid 3 (fun z => [(0, .slice A la.length c), (1, .slice B lb.length d), (5, i64 z)]) i ?_
    exact ⟨i + 1, ⟨rfl, (take_eq_succ hE hX (hxy ▸ hY)), (by omega), K5⟩, (show la.length - (i + 1) < la.length - i from by omega)⟩
  ·rw [h6]
   have p22 := of_decide_eq_false h6
   refine q_exit (id := 0) (by kernel_rfl) ?_
   refine qsg ?_
   refine ogd 1 [(4, .bool true)] ?_
   refine qtQ ?_
   refine ⟨(Value.bool true), retv_tmp rfl rfl, ?_⟩
   exact ⟨true, rfl, ⟨fun _ => take_all_eq hE (by omega) (by omega), fun _ => rfl⟩, K5⟩
end Go.Proofs.YtnbcghbgeiocbaaDoor
namespace Go.Q
open Go.RowKit
def tryR (l : List HCall) : Nat → List Bool → Int → LS_ → List Nat → Option (List Nat)
 | 0, done, left, s, order => if left = 0 then some order else none
 | k + 1, done, left, s, order => if left = 0 then some order else (List.range l.length).findSome? fun i => match l[i]? with
  | none => none
  | some c => if done.getD i false || !countsH c then none
   else if (List.range l.length).any (fun j => match l[j]? with | some d => !done.getD j false && decide (j ≠ i) && countsH d && aheadH d c | none => false) then none
   else match stepH c s with
    | none => none
    | some s' => tryR l k ((List.range l.length).map fun j => done.getD j false || decide (j = i)) (if c.told then left - 1 else left) s' (order ++ [i])
theorem zip_mem {α : Type} {l : List α} {p : α × Nat} (h : p ∈ l.zipIdx) : l[p.2]? = some p.1 := by
 obtain ⟨i, hi⟩ := List.getElem?_of_mem h
 rw [List.getElem?_zipIdx] at hi
 obtain ⟨a, ha, rfl⟩ := Option.map_eq_some_iff.1 hi
 simpa using ha
theorem looked_mem {l : List HCall} {c : HCall × Nat} (h : c ∈ lookedH l) : l[c.2]? = some c.1 ∧ countsH c.1 = true := by
 obtain ⟨h1, h2⟩ := List.mem_filter.1 h
 exact ⟨zip_mem h1, h2⟩
def DoneC (l : List HCall) (done : List Bool) (d : Nat) : Prop := ∀ j c, (lookedH l)[j]? = some c → done.getD c.2 false = d.testBit j
def orderR (l : List HCall) : List Nat × Bool × Int :=
 if 8 < l.countP countsH then ([], false, 3)
 else if l.any (fun c => countsH c && (c.told && decide (c.en < c.bg))) then ([], false, 1)
 else match tryR l l.length (List.replicate l.length false) ((l.countP fun c => countsH c && c.told : Nat) : Int) ([], []) [] with | some o => (o, true, 0) | none => ([], false, 0)
theorem stack_law {l : List HCall} (hl : ∀ c ∈ l, -9223372036854775808 ≤ c.op.amount ∧ c.op.amount ≤ 9223372036854775807) {same : LS_ → LS_ → Bool} (hs : ∀ a b, same a b = true → sameL a b) :
  ∃ c, c ≤ bdS (lookedH l).length ((lookedH l).length - (probH (lookedH l)).pc 0) + 1 ∧ (probH (lookedH l)).run same c [startH (lookedH l)] [] = some (match (probH (lookedH l)).sv (startH (lookedH l)) with | some o => (o, true) | none => ([], false)) :=
 Prob.run_start (probH_like fun c hc => hl c.1 (List.mem_of_getElem? (looked_mem hc).1)) hs (startH_V _)
end Go.Q
namespace Go.Q
open Go.RowKit
inductive Lin : List HCall → LS_ → Prop
 | done {U : List HCall} {s : LS_} : (∀ c ∈ U, c.told = false) → Lin U s
 | step {U A B : List HCall} {c : HCall} {s s' : LS_} : U = A ++ c :: B → (∀ d ∈ A ++ B, aheadH d c = false) → stepH c s = some s' → Lin (A ++ B) s' → Lin U s
theorem perm_split {α : Type} {A B A' B' : List α} {c : α} (h : (A ++ c :: B).Perm (A' ++ c :: B')) : (A ++ B).Perm (A' ++ B') :=
 ((List.perm_middle.symm.trans h).trans List.perm_middle).cons_inv
theorem Lin.perm {U V : List HCall} {s : LS_} (h : Lin U s) (hp : U.Perm V) : Lin V s := by
 induction h generalizing V with
 | done h => exact .done fun c hc => h c (hp.mem_iff.2 hc)
 | @step U A B c s s' e ha hs hl ih =>
  subst e
  obtain ⟨A', B', rfl⟩ := List.append_of_mem (hp.mem_iff.1 (List.mem_append_right _ (List.mem_cons_self ..)))
  have hq := perm_split hp
  exact .step rfl (fun d hd => ha d (hq.mem_iff.2 hd)) hs (ih hq)
theorem Lin.map {f : HCall → HCall} (ht : ∀ c, (f c).told = c.told) (hs : ∀ c s, stepH (f c) s = stepH c s) {U : List HCall} {s : LS_} (h : Lin U s) (hU : ∀ c ∈ U, ∀ d ∈ U, aheadH d c = false → aheadH (f d) (f c) = false) : Lin (U.map f) s := by
 induction h with
 | done h => exact .done fun c hc => by obtain ⟨x, hx, rfl⟩ := List.mem_map.1 hc; rw [ht]; exact h x hx
 | @step U A B c s s' e ha hst hl ih =>
  subst e
  have hin : ∀ d ∈ A ++ B, d ∈ A ++ c :: B := fun d hd => by
   rcases List.mem_append.1 hd with h | h
   ·exact List.mem_append_left _ h
   ·exact List.mem_append_right _ (List.mem_cons_of_mem _ h)
  refine .step (A := A.map f) (B := B.map f) (c := f c) (by rw [List.map_append, List.map_cons]) (fun d hd => ?_) (by rw [hs]; exact hst) (by rw [← List.map_append]; exact ih fun c hc d hd => hU c (hin c hc) d (hin d hd))
  rw [← List.map_append] at hd
  obtain ⟨x, hx, rfl⟩ := List.mem_map.1 hd
  exact hU c (List.mem_append_right _ (List.mem_cons_self ..)) x (hin x hx) (ha x hx)
def undH (X : List (HCall × Nat)) (d : Nat) : List HCall := (X.zipIdx.filter fun p => !d.testBit p.2).map fun p => p.1.1
def linH (l : List HCall) : Prop := Lin (l.filter countsH) ([], [])
def goodH (l : List HCall) : Prop := ¬ 8 < (l.filter countsH).length ∧ (l.filter countsH).any (fun c => c.told && decide (c.en < c.bg)) = false
def scaleH (k : Int) (c : HCall) : HCall := ⟨c.op, c.bg * k, c.en * k, c.told, c.rep⟩
end Go.Q
namespace Go.Q
open Go.ChangeShapes Go.WideShapes Go.ChangeAt Go.RowKit Go.Deep Go.Op
section
variable {H : Type} {enc : TypeId × Value → H} {P : Program} {w : World} {base : Nat} {spare : Nat → Bool} {held : Bool}
def HC.Rng (x : HC) : Prop := (-9223372036854775808 ≤ x.c.op.amount ∧ x.c.op.amount ≤ 9223372036854775807) ∧ (-9223372036854775808 ≤ x.c.bg ∧ x.c.bg ≤ 9223372036854775807) ∧ (-9223372036854775808 ≤ x.c.en ∧ x.c.en ≤ 9223372036854775807)
end
section
def rotI (t : Int) (n : Nat) : Nat := (t.tmod ((n : Nat) : Int) + ((n : Nat) : Int)).toNat % n
def rotL (t : Int) (l : List HC) : List HC := l.drop (rotI t l.length) ++ l.take (rotI t l.length)
theorem map_all {P : HCall → Prop} {o q : List HC} (h : o.map HC.c = q.map HC.c) (hq : ∀ x ∈ q, P x.c) : ∀ x ∈ o, P x.c := by
 intro x hx
 have : x.c ∈ q.map HC.c := by rw [← h]; exact List.mem_map_of_mem hx
 obtain ⟨y, hy, e⟩ := List.mem_map.1 this
 rw [← e]; exact hq y hy
theorem HC.In.keep {w w' : World} {x : HC} (h : x.In w) (K : Keeps none_ w w') : x.In w' := ⟨Rd.keep0 (by decide) h.rows K, h.rlen⟩
end
end Go.Q
namespace Go.Q
open Go.RowKit
def oneStep (x : LS_ × List HCall) (o : Opm) : LS_ × List HCall := ((doS x.1.1 x.1.2 o, doK x.1.1 x.1.2 o), x.2 ++ [⟨o, ((2 * x.2.length : Nat) : Int), ((2 * x.2.length + 1 : Nat) : Int), true, doR x.1.1 x.1.2 o⟩])
def oneA (l : List Opm) : LS_ × List HCall := l.foldl oneStep (([], []), [])
def SeqL : List HCall → LS_ → LS_ → Prop
 | [], s, s' => s = s'
 | c :: l, s, s' => ∃ s1, stepH c s = some s1 ∧ SeqL l s1 s'
theorem SeqL.snoc : ∀ {l : List HCall} {s s' : LS_} {c : HCall} {s2 : LS_}, SeqL l s s' → stepH c s' = some s2 → SeqL (l ++ [c]) s s2
 | [], _, _, c, s2, h, hc => by cases h; exact ⟨s2, hc, rfl⟩
 | x :: l, s, s', c, s2, ⟨s1, h1, h2⟩, hc => ⟨s1, h1, h2.snoc hc⟩
theorem wrongE_50 (o : Opm) : wrongE o ≠ 50 := by
 unfold wrongE
 repeat' split
 all_goals decide
theorem actE_50 (S : List RowM) (o : Opm) : actE S o ≠ 50 := by
 unfold actE
 repeat' split
 all_goals decide
theorem doR_50 {S : List RowM} {K : List KeptM} (hK : ∀ k ∈ K, k.why ≠ 50) (o : Opm) : (doR S K o).why ≠ 50 := by
 unfold doR
 split
 ·exact wrongE_50 o
 ·split
  ·show (0 : Int) ≠ 50; decide
  ·split
   ·show (0 : Int) ≠ 50; decide
   ·split
    ·split
     ·show (40 : Int) ≠ 50; decide
     ·show (0 : Int) ≠ 50; decide
    ·split
     ·rename_i k hk
      split
      ·show (45 : Int) ≠ 50; decide
      ·exact hK k (findK_some hk).1
     ·exact actE_50 S (plainE o)
theorem doK_50 {S : List RowM} {K : List KeptM} (hK : ∀ k ∈ K, k.why ≠ 50) (o : Opm) : ∀ k ∈ doK S K o, k.why ≠ 50 := by
 intro k hk
 unfold doK at hk
 split at hk
 ·rcases List.mem_append.1 hk with hk | hk
  ·exact hK k hk
  ·rw [List.mem_singleton.1 hk]; exact actE_50 S (plainE o)
 ·exact hK k hk
theorem stepH_self (c : HCall) (s : LS_) (h : c.rep = doR s.1 s.2 c.op) : stepH c s = some (doS s.1 s.2 c.op, doK s.1 s.2 c.op) := by
 unfold stepH
 rw [if_neg (by rw [h]; simp)]
structure OneH (s : LS_) (h : List HCall) : Prop where
 seq : SeqL h ([], []) s
 at_ : ∀ i c, h[i]? = some c → c.bg = ((2 * i : Nat) : Int) ∧ c.en = ((2 * i + 1 : Nat) : Int) ∧ c.told = true ∧ c.rep.why ≠ 50
 why : ∀ k ∈ s.2, k.why ≠ 50
theorem OneH.step {s : LS_} {h : List HCall} (H : OneH s h) (o : Opm) : OneH (oneStep (s, h) o).1 (oneStep (s, h) o).2 where
 seq := H.seq.snoc (stepH_self _ _ rfl)
 at_ i c hc := by
  have hc : (h ++ [(⟨o, ((2 * h.length : Nat) : Int), ((2 * h.length + 1 : Nat) : Int), true, doR s.1 s.2 o⟩ : HCall)])[i]? = some c := hc
  rw [List.getElem?_append] at hc
  split at hc
  ·exact H.at_ i c hc
  ·rename_i hi
   have hi2 : i - h.length = 0 := by
    have := (List.getElem?_eq_some_iff.1 hc).1
    simp only [List.length_cons, List.length_nil] at this; omega
   rw [hi2] at hc
   simp only [List.getElem?_cons_zero, Option.some.injEq] at hc
   subst hc
   have hi3 : i = h.length := by omega
   subst hi3
   exact ⟨rfl, rfl, rfl, doR_50 H.why o⟩
 why := doK_50 H.why o
def Wide (a b : HCall) : Prop := b.op = a.op ∧ b.told = a.told ∧ b.rep = a.rep ∧ b.bg ≤ a.bg ∧ a.en ≤ b.en
theorem Wide.refl (a : HCall) : Wide a a := ⟨rfl, rfl, rfl, Int.le_refl _, Int.le_refl _⟩
theorem Wide.step {a b : HCall} (h : Wide a b) (s : LS_) : stepH b s = stepH a s := by unfold stepH; rw [h.1, h.2.1, h.2.2.1]
theorem Wide.ahead {a b c d : HCall} (h : Wide a b) (k : Wide c d) (q : aheadH a c = false) : aheadH b d = false := by
 unfold aheadH at q ⊢
 rw [h.2.1]
 cases ht : a.told with
 | false => rfl
 | true =>
  rw [ht] at q
  have := of_decide_eq_false (show decide (a.en < c.bg) = false from q)
  show decide (b.en < d.bg) = false
  have h1 := h.2.2.2.2; have h2 := k.2.2.2.1
  exact decide_eq_false (by omega)
def WideL (a b : List HCall) : Prop := a.length = b.length ∧ ∀ (i : Nat) (x y : HCall), a[i]? = some x → b[i]? = some y → Wide x y
theorem WideL.refl (a : List HCall) : WideL a a := ⟨rfl, fun i x y h k => by rw [h] at k; cases k; exact Wide.refl x⟩
theorem WideL.set {a b : List HCall} (h : WideL a b) {i : Nat} {x z : HCall} (hx : a[i]? = some x) (hz : Wide x z) : WideL a (b.set i z) := by
 refine ⟨by rw [List.length_set]; exact h.1, fun j u v hu hv => ?_⟩
 rw [List.getElem?_set] at hv
 split at hv
 ·rename_i hij
  subst hij
  split at hv
  ·cases hv; rw [hx] at hu; cases hu; exact hz
  ·cases hv
 ·exact h.2 j u v hu hv
theorem WideL.cons {x y : HCall} {a b : List HCall} (h : WideL (x :: a) (y :: b)) : Wide x y ∧ WideL a b := ⟨h.2 0 x y rfl rfl, by have := h.1; simp only [List.length_cons] at this; omega, fun i u v hu hv => h.2 (i + 1) u v hu hv⟩
theorem OneH.pair {s : LS_} {h : List HCall} (H : OneH s h) : h.Pairwise (fun a b => aheadH b a = false) := by
 rw [List.pairwise_iff_getElem]
 intro i j hi hj hij
 have h1 := H.at_ i h[i] (List.getElem?_eq_getElem hi)
 have h2 := H.at_ j h[j] (List.getElem?_eq_getElem hj)
 unfold aheadH
 rw [h2.2.1, h1.1, decide_eq_false (by omega), Bool.and_false]
theorem OneH.wide {s : LS_} {h b : List HCall} (H : OneH s h) (hw : WideL h b) : ∀ c ∈ b, countsH c = true ∧ c.bg ≤ c.en := by
 intro c hc
 obtain ⟨i, hi⟩ := List.mem_iff_getElem?.1 hc
 have hl := (List.getElem?_eq_some_iff.1 hi).1
 have e := hw.1
 have hx := List.getElem?_eq_getElem (show i < h.length by omega)
 have w := hw.2 i _ c hx hi
 have h1 := H.at_ i _ hx
 refine ⟨?_, ?_⟩
 ·rw [counts_told (by rw [w.2.1]; exact h1.2.2.1), w.2.2.1]
  exact bne_iff_ne.2 h1.2.2.2
 ·have h3 := w.2.2.2.1; have h4 := w.2.2.2.2; have h5 := h1.1; have h6 := h1.2.1
  omega
theorem Lin.more {U : List HCall} {s : LS_} (h : Lin U s) {x : HCall} (hx : x.told = false) : Lin (U ++ [x]) s := by
 induction h with
 | done h => exact .done fun c hc => by rcases List.mem_append.1 hc with hc | hc; exact h c hc; rw [List.mem_singleton.1 hc]; exact hx
 | @step U A B c s s' e ha hst hl ih =>
  subst e
  refine .step (A := A) (B := B ++ [x]) (c := c) (by rw [List.append_assoc, List.cons_append]) (fun d hd => ?_) hst (by rw [← List.append_assoc]; exact ih)
  rw [← List.append_assoc] at hd
  rcases List.mem_append.1 hd with hd | hd
  ·exact ha d hd
  ·rw [List.mem_singleton.1 hd]; exact ahead_not hx
theorem of_map {P : HCall → Prop} {o : List HC} {m : List HCall} (h : o.map HC.c = m) (hm : ∀ c ∈ m, P c) : ∀ x ∈ o, P x.c := fun x hx => hm _ (by rw [← h]; exact List.mem_map_of_mem hx)
end Go.Q
namespace Go.Q
open Go.RowKit
def RecP (w : World) (F : Nat → Prop) (d tD tC : Nat) (ms : List HCall) (now : Nat) : Prop :=
 ∃ (l : List HC) (A : Option Addr) (c : Nat) (T : Nat → Prop), l.map HC.c = ms ∧ Has w d (rowL [.slice A l.length c, i64 ((now : Nat) : Int)] tD) ∧ OwnT w 0 tC 13 HC.cells (.slice A l.length c) l ∧ RowsE w HC.rv HC.rows T l ∧
  (∀ i, T i → i ≠ d ∧ F i) ∧ (∀ i, (Value.slice A l.length c).ownBlock = some i → i ≠ d ∧ F i ∧ ¬ T i) ∧ F d ∧ (∀ i, F i → i < w.heap.size) ∧ ms.length ≤ 2000
section
variable {S F G T : Nat → Prop} {w w' : World} {d tD tC now : Nat} {ms : List HCall} {l : List HC} {A : Option Addr} {c k : Nat} {x y : HC}
theorem RecP.keep (h : RecP w F d tD tC ms now) (K : Keeps S w w') (hS : ∀ i, F i → ¬ S i) : RecP w' F d tD tC ms now := by
 obtain ⟨l, A, c, T, h1, h2, h3, h4, h5, h6, h7, h8, h9⟩ := h
 exact ⟨l, A, c, T, h1, h2.keep K (hS d h7), own_keep h3 K (fun i hi => hS i (h6 i hi).2.1), h4.keep K (fun i hi => hS i (h5 i hi).2), h5, h6, h7, fun i hi => Nat.lt_of_lt_of_le (h8 i hi) K.size, h9⟩
theorem RecP.lt (h : RecP w F d tD tC ms now) : ∀ i, F i → i < w.heap.size := by
 obtain ⟨l, A, c, T, h1, h2, h3, h4, h5, h6, h7, h8, h9⟩ := h
 exact h8
theorem RecP.len (h : RecP w F d tD tC ms now) : ms.length ≤ 2000 := by
 obtain ⟨l, A, c, T, h1, h2, h3, h4, h5, h6, h7, h8, h9⟩ := h
 exact h9
theorem RecP.wide (h : RecP w F d tD tC ms now) (K : Keeps none_ w w') (hFG : ∀ i, F i → G i) (hG : ∀ i, G i → i < w'.heap.size) : RecP w' G d tD tC ms now := by
 obtain ⟨l, A, c, T, h1, h2, h3, h4, h5, h6, h7, h8, h9⟩ := h
 exact ⟨l, A, c, T, h1, h2.keep K (fun h => h), own_keep h3 K (fun i hi h => h), h4.keep K (fun i hi h => h), fun i hi => ⟨(h5 i hi).1, hFG i (h5 i hi).2⟩, fun i hi => ⟨(h6 i hi).1, hFG i (h6 i hi).2.1, (h6 i hi).2.2⟩, hFG d h7, hG, h9⟩
theorem RecP.new (H : Has w d (rowL [.slice none 0 0, i64 0] tD)) : RecP w (fun i => i = d) d tD tC [] 0 :=
 ⟨[], none, 0, none_, rfl, H, OwnT.nil _ _ _ _ _, RowsE.nil _ _ _, fun i hi => hi.elim, fun i hi => (by cases hi), rfl, fun i hi => by have h : i = d := hi; have := H.lt; omega, Nat.zero_le _⟩
def begH (ms : List HCall) (now : Nat) (o : Opm) : List HCall × Nat × Int := if 2000 ≤ ms.length then (ms, now, -1) else (ms ++ [⟨o, ((now + 1 : Nat) : Int), 0, false, ⟨0, 0, []⟩⟩], now + 1, (ms.length : Int))
def tldH (ms : List HCall) (now : Nat) (n : Int) (p : ReplyM) : List HCall × Nat × Bool :=
 match ms[n.toNat]? with
 | some x => if n < 0 ∨ x.told = true then (ms, now, false) else (ms.set n.toNat ⟨x.op, x.bg, ((now + 1 : Nat) : Int), true, p⟩, now + 1, true)
 | none => (ms, now, false)
theorem begH_no {o : Opm} (h : 2000 ≤ ms.length) : begH ms now o = (ms, now, -1) := by unfold begH; rw [if_pos h]
theorem begH_yes {o : Opm} (h : ¬ 2000 ≤ ms.length) : begH ms now o = (ms ++ [⟨o, ((now + 1 : Nat) : Int), 0, false, ⟨0, 0, []⟩⟩], now + 1, (ms.length : Int)) := by unfold begH; rw [if_neg h]
theorem tldH_out {n : Int} {p : ReplyM} (hn : n < 0 ∨ (ms.length : Int) ≤ n) : tldH ms now n p = (ms, now, false) := by
 unfold tldH
 cases h : ms[n.toNat]? with
 | none => rfl
 | some x =>
  have := (List.getElem?_eq_some_iff.1 h).1
  dsimp only
  rw [if_pos (.inl (by omega))]
theorem tldH_is {p : ReplyM} (hx : l[k]? = some x) (hs : x.c.told = true) : tldH (l.map HC.c) now (k : Int) p = (l.map HC.c, now, false) := by
 unfold tldH
 rw [Int.toNat_natCast, List.getElem?_map, hx]
 show (if _ then _ else _) = _
 rw [if_pos (.inr hs)]
theorem tldH_in {why amount : Int} {rs : List RowM} {A : Option Addr} {c : Nat} (hx : l[k]? = some x) (hs : x.c.told = false) : tldH (l.map HC.c) now (k : Int) ⟨why, amount, rs⟩ = ((l.set k ⟨⟨x.c.op, x.c.bg, ((now + 1 : Nat) : Int), true, ⟨why, amount, rs⟩⟩, A, c⟩).map HC.c, now + 1, true) := by
 unfold tldH
 rw [Int.toNat_natCast, List.getElem?_map, hx]
 show (if _ then _ else _) = _
 rw [if_neg (fun h => by rcases h with h | h; (omega); (rw [hs] at h; cases h)), List.map_set]
theorem recP_set {gB : Nat} {tm : Nat} (hA : A = some ⟨gB, 0, none⟩) (hx : l[k]? = some x) (Hd : Has w' d (rowL [.slice A l.length c, i64 ((tm : Nat) : Int)] tD)) (hO : OwnT w' 0 tC 13 HC.cells (.slice A l.length c) (l.set k y)) (hR : RowsE w' HC.rv HC.rows T l) (hy : RdR w' (HC.rv y) (HC.rows y)) (hF9 : ∀ i, (HC.rv y).ownBlock = some i → w.heap.size ≤ i ∧ i < w'.heap.size) (hsz : w.heap.size ≤ w'.heap.size)
  (hT7 : ∀ i, T i → i ≠ d ∧ F i) (hV7 : ∀ i, (Value.slice A l.length c).ownBlock = some i → i ≠ d ∧ F i ∧ ¬ T i) (hFd : F d) (hFl : ∀ i, F i → i < w.heap.size) (h20 : l.length ≤ 2000) : RecP w' (fun i => (F i ∨ w.heap.size ≤ i) ∧ i < w'.heap.size) d tD tC ((l.set k y).map HC.c) tm := by
 refine ⟨l.set k y, A, c, fun i => T i ∨ (HC.rows y ≠ [] ∧ (HC.rv y).ownBlock = some i), rfl, by rw [List.length_set]; exact Hd, by rw [List.length_set]; exact hO, RowsE.set hR hy (fun _ i hi => (hF9 i hi).2), fun i hi => ?_, fun i hi => ?_, ⟨.inl hFd, Nat.lt_of_lt_of_le (hFl d hFd) hsz⟩, fun i hi => hi.2, by rw [List.length_map, List.length_set]; exact h20⟩
 ·rcases hi with hi | ⟨_, hi⟩
  ·exact ⟨(hT7 i hi).1, .inl (hT7 i hi).2, Nat.lt_of_lt_of_le (hFl i (hT7 i hi).2) hsz⟩
  ·have h1 := hF9 i hi
   have h2 := hFl d hFd
   exact ⟨by omega, .inr h1.1, h1.2⟩
 ·rw [List.length_set] at hi
  have h1 := hV7 i hi
  have h2 := hFl i h1.2.1
  refine ⟨h1.1, ⟨.inl h1.2.1, by omega⟩, fun h => ?_⟩
  rcases h with h | ⟨_, h⟩
  ·exact h1.2.2 h
  ·have := (hF9 i h).1
   omega
theorem set_same {α : Type} {m : List α} {i : Nat} {a : α} (h : m[i]? = some a) : m.set i a = m := by
 apply List.ext_getElem?
 intro j
 rw [List.getElem?_set]
 split
 ·rename_i e
  subst e
  split
  ·exact h.symm
  ·rename_i q; exact (List.getElem?_eq_none (by omega)).symm
 ·rfl
end
end Go.Q
namespace Go.Proofs.YtnbcghbgeiocbaaDoor
open Go.Q Go.RowKit
theorem RecNew_calls (w : World)   : Calls Tryd.prog 23 ⟨[]⟩ w (fun e w' => ∃ d, e = .returned (ptr d) ∧ Keeps none_ w w' ∧ Has w' d (rowL [.slice none 0 0, i64 0] 103) ∧ w.heap.size ≤ d) := by
 have K0 : Keeps none_ w w := Keeps.refl w
 refine q_calls Tryd.func23 (by kernel_rfl) (by kernel_rfl) ?_
 refine qsg ?_
 refine odz 1 ?_
 refine qsg ?_
 refine og 1 [(0, .pointer none), (1, (agg [(Value.slice none 0 0), (i64 0)]))] 1 ?_
 refine onew (rowL [(Value.slice none 0 0), (i64 0)] 103) (fun b => (ptr b)) 2 (fun b => rfl) (fun b1 w2 hb3 H4 K5 hs6 => ?_)
 have nb1 : w.heap.size ≤ b1 := by have := K0.size; omega
 replace K0 := K0.t0 K5
 clear K5 hs6
 refine ogd 1 [(0, ptr b1)] ?_
 refine qtQ ?_
 refine ⟨(ptr b1), retv_tmp rfl rfl, ?_⟩
 exact ⟨_, rfl, K0, H4, nb1⟩
set_option maxHeartbeats 1000000 in
theorem RecBegin_calls (w : World) (F : Nat → Prop) (d : Nat) (l : List HC) (A : Option Addr) (c : Nat) (T : Nat → Prop) (now : Nat) (o : Opm) (Hd : Has w d (rowL [(Value.slice A l.length c), i64 ((now : Nat) : Int)] 103)) (hO : OwnT w 0 43 13 HC.cells ((Value.slice A l.length c)) l) (hR : RowsE w HC.rv HC.rows T l) (hT7 : ∀ i, T i → i ≠ d ∧ F i) (hV7 : ∀ i, ((Value.slice A l.length c)).ownBlock = some i → i ≠ d ∧ F i ∧ ¬ T i) (hFd : F d) (hFl : ∀ i, F i → i < w.heap.size) (h20 : l.length ≤ 2000) (hnw : now ≤ 1000000) : Calls Tryd.prog 25 ⟨[(ptr d), (agg (Opm.cells o))]⟩ w (fun e w' => e = .returned (i64 (begH (l.map HC.c) now o).2.2) ∧ Keeps F w w' ∧ RecP w' (fun i => (F i ∨ w.heap.size ≤ i) ∧ i < w'.heap.size) d 103 43 (begH (l.map HC.c) now o).1 (begH (l.map HC.c) now o).2.1) := by
 have Hdl := Hd.lt
 have hTd : ∀ i, T i → i ≠ d := fun i hi => (hT7 i hi).1
 have hVd : ∀ i, Ow (.slice A l.length c) i → i ≠ d := fun i hi => (hV7 i hi).1
 have hVT : ∀ i, Ow (.slice A l.length c) i → T i → False := fun i hi h => (hV7 i hi).2.2 h
 have hcap := RdT.len HC.two (by decide) (OwnT.rd hO)
 have K0 : Keeps (fun i => i = d ∨ Ow (.slice A l.length c) i) w w := (Keeps.refl w).mono (fun _ _ h => h.elim)
 refine q_calls Tryd.func25 (by kernel_rfl) (by kernel_rfl) ?_
 refine qsg ?_
 refine onew (rowL (Opm.cells o) 24) (fun b => (ptr b)) 3 (fun b => rfl) (fun b1 w2 hb3 H4 K5 hs6 => ?_)
 have lb1d : d < b1 := by have := Hd.lt; omega
 have nb1 : w.heap.size ≤ b1 := by have := K0.size; omega
 have ob7 : ∀ i, Ow (.slice A l.length c) i → i < b1 := fun i hi => by have := (World.ownsRow.lt hO i hi).2; omega
 replace K0 := K0.tn K5
 replace Hd := Hd.kn K5
 replace hO := own_keep0 hO K5
 replace hR := RowsE.keep hR K5 (fun _ _ h => h)
 clear K5 hs6
 refine odz 1 ?_
 refine qs ?_
 refine qsg ?_
 refine og 6 [(0, ptr d), (3, ptr b1), (4, i64 0), (7, .bool false), (10, ptr d)] 6 ?_
 refine ogo (Value.slice A l.length c) 11 (rld 33 d 0 Hd) rfl ?_
 refine ogd 3 [(0, ptr d), (3, ptr b1), (4, i64 0), (14, (Value.bool (decide (((l.length : Nat) : Int) ≥ 2000))))] ?_
 refine qcQ 14 (decide (((l.length : Nat) : Int) ≥ 2000)) rfl (fun h9 => ?_) (fun h9 => ?_)
 ·rw [h9]
  have p10 := of_decide_eq_true h9
  refine qsg ?_
  refine ogd 1 [(0, ptr d), (3, ptr b1), (4, (i64 (-1)))] ?_
  refine qtQ ?_
  refine ⟨(i64 (-1)), retv_tmp rfl rfl, ?_⟩
  rw [begH_no (ms := l.map HC.c) (now := now) (o := o) (by rw [List.length_map]; omega)]
  exact ⟨rfl, (K0.mono (fun i _ h => by rcases h with h | h; (rw [h]; exact hFd); (exact (hV7 i h).2.1))), l, A, c, T, rfl, Hd, hO, hR, fun i hi => ⟨hTd i hi, .inl (hT7 i hi).2, RowsE.lt hR i hi⟩, fun i hi => ⟨hVd i hi, ⟨.inl (hV7 i hi).2.1, (World.ownsRow.lt hO i hi).2⟩, fun h => hVT i hi h⟩, ⟨.inl hFd, Hd.lt⟩, fun i hi => hi.2, by rw [List.length_map]; exact h20⟩
 ·rw [h9]
  have p11 := of_decide_eq_false h9
  refine qkQ ?_
  refine qsg ?_
  refine og 3 [(0, ptr d), (3, ptr b1), (4, i64 0), (15, ptr d), (17, .pointer (some ⟨d, 1, none⟩))] 3 ?_
  refine ogo (i64 ((now : Nat) : Int)) 18 (rld 3 d 1 Hd) rfl ?_
  refine og 1 [(0, ptr d), (3, ptr b1), (4, i64 0), (15, ptr d), (19, (i64 (IntKind.i64.wrap (((now : Nat) : Int) + 1))))] 5 ?_
  rw [show IntKind.i64.wrap (((now : Nat) : Int) + 1) = ((now + 1 : Nat) : Int) from by rw [wrap_i64 (by omega) (by omega)]; omega]
  refine og 2 [(0, ptr d), (3, ptr b1), (4, i64 0), (19, i64 ↑(now + 1)), (21, .pointer (some ⟨d, 1, none⟩))] 7 ?_
  refine Ops.put (t := 3) (b := d) (off := 1) (v := (i64 ((now + 1 : Nat) : Int))) (ys := [(Value.slice A l.length c), (i64 ((now + 1 : Nat) : Int))]) (by kernel_rfl) (by kernel_rfl) Hd (by kernel_rfl) (d := none) (by kernel_rfl) rfl (fun w13 H14 K15 => ?_)
  clear Hd
  replace K0 := K0.t1 K15 fun _ => .inl rfl
  replace H4 := H4.k1 K15 (by omega)
  replace hO := own_keep hO K15 (fun i hi => by have := hVd i hi; omega)
  replace hR := RowsE.keep hR K15 (fun i hi hs => by have hs : i = d := hs; have := hTd i hi; omega)
  refine od ?_
  refine qs ?_
  refine q_drawS 16 (by kernel_rfl) (by kernel_rfl) (by kernel_rfl) (fun w16 K17 _ _ => ?_)
  replace K0 := K0.tn K17
  replace H14 := H14.kn K17
  replace H4 := H4.kn K17
  replace hO := own_keep0 hO K17
  replace hR := RowsE.keep hR K17 (fun _ _ h => h)
  have Kb18 : Keeps (fun i => i = d ∨ Ow (.slice A l.length c) i) w16 w16 := (Keeps.refl w16).mono (fun _ _ h => h.elim)
  refine ⟨fun wz => Keeps (fun i => i = d ∨ Ow (.slice A l.length c) i) w16 wz, [(15, fun wz => Loads Tryd.prog wz 33 ⟨d, 0, none⟩ (Value.slice A l.length c)), (15, fun wz => Loads Tryd.prog wz 3 ⟨d, 1, none⟩ (i64 ((now + 1 : Nat) : Int)))], (SH.cons (SH.cons (SH.nil Kb18) (.inr (H14.loads (by kernel_rfl)))) (.inr (H14.loads (by kernel_rfl)))), ?_⟩
  refine skQ 12 [0, 1, 2, 3] [(0, ptr d), (3, ptr b1), (4, i64 0), (22, ptr d), (25, ptr d)] ?_
  refine DrS.takeH (s := 15) (.head _) (i := 4) (v := (Value.slice A l.length c)) (by kernel_rfl) (by kernel_rfl) (by kernel_rfl) (fun wz hB hp => Runs.load (t := 33) (a := ⟨d, 0, none⟩) (by kernel_rfl) hp) (d := (some 26)) (by kernel_rfl) rfl ?_
  refine stQ 5 (agg (Opm.cells o)) 27 (fun wz hS => rld 24 b1 0 (H4.keep hS (by intro h; change b1 = d ∨ Ow (.slice A l.length c) b1 at h; rcases h with h | h; (omega); (have := ob7 b1 h; omega)))) rfl ?_
  refine skQ 7 [6, 7, 8] [(0, ptr d), (4, i64 0), (22, ptr d), (26, .slice A l.length c), (27, (agg (Opm.cells o))), (30, .pointer (some ⟨d, 1, none⟩))] ?_
  refine DrS.takeH (s := 15) (.tail _ (.head _)) (i := 9) (v := (i64 ((now + 1 : Nat) : Int))) (by kernel_rfl) (by kernel_rfl) (by kernel_rfl) (fun wz hB hp => Runs.load (t := 3) (a := ⟨d, 1, none⟩) (by kernel_rfl) hp) (d := (some 31)) (by kernel_rfl) rfl ?_
  refine skQ 5 [10] [(0, ptr d), (4, i64 0), (22, ptr d), (26, .slice A l.length c), (32, (agg [(i64 o.kind), (Value.string (str o.frm)), (Value.string (str o.to)), (i64 o.amount), (Value.string (str o.key)), (i64 o.slot), (i64 o.shard), (i64 ((now + 1 : Nat) : Int)), (i64 0), (Value.bool false), (i64 0), (i64 0), (Value.slice none 0 0)]))] ?_
  refine soQ 11 ?_
  refine Dr1.new (o := rowL [(i64 o.kind), (Value.string (str o.frm)), (Value.string (str o.to)), (i64 o.amount), (Value.string (str o.key)), (i64 o.slot), (i64 o.shard), (i64 ((now + 1 : Nat) : Int)), (i64 0), (Value.bool false), (i64 0), (i64 0), (Value.slice none 0 0)] 43) (V := fun b => (Value.slice (some ⟨b, 0, none⟩) 1 1)) (by kernel_rfl) (d := (some 33)) (by kernel_rfl) (fun b => rfl) (fun b19 w20 hb21 H22 K23 hs24 => ?_)
  have lb19d : d < b19 := by have := H14.lt; omega
  have lb19b1 : b1 < b19 := by have := H4.lt; omega
  have nb19 : w.heap.size ≤ b19 := by have := K0.size; omega
  have xb19 : w16.heap.size ≤ b19 := by have := Kb18.size; omega
  replace K0 := K0.tn K23
  replace H14 := H14.kn K23
  replace hO := own_keep0 hO K23
  replace hR := RowsE.keep hR K23 (fun _ _ h => h)
  have Kb27 := Kb18.tn K23
  refine ⟨(SH.cons (SH.cons (SH.nil Kb27) (.inr (H14.loads (by kernel_rfl)))) (.inr (H14.loads (by kernel_rfl)))), ?_⟩
  clear K23 hs24
  refine soQ 12 ?_
  obtain ⟨v28, w29, hr30, hO31, hK32, hg33⟩ := OwnT.app (ty := 33) HC.two HC.one tyH hO (show RdT _ 13 HC.cells _ [(⟨⟨o, ((now + 1 : Nat) : Int), 0, false, ⟨0, 0, []⟩⟩, none, 0⟩ : HC)] from Rd.lit H22 (n := 1) rfl (by decide)) (by simp only [List.length_cons, List.length_nil]; omega) (by simp only [List.length_cons, List.length_nil]; omega) (Nat.zero_le _)
  obtain ⟨A35, c36, rfl⟩ := RdT.form HC.two (by decide) (OwnT.rd hO31)
  have ob37 : ∀ i, ((Value.slice A35 ((l ++ [(⟨⟨o, ((now + 1 : Nat) : Int), 0, false, ⟨0, 0, []⟩⟩, none, 0⟩ : HC)]).length) c36)).ownBlock = some i → i ≠ d := fun i hi => by rcases hg33 i hi with h | h; (have := hVd i h; omega); (have := H14.lt; omega)
  have oo40 : ∀ i, ((Value.slice A35 ((l ++ [(⟨⟨o, ((now + 1 : Nat) : Int), 0, false, ⟨0, 0, []⟩⟩, none, 0⟩ : HC)]).length) c36)).ownBlock = some i → T i → False := fun i hs hi => by rcases hg33 i hs with h | h; (exact hVT i h hi); (have := RowsE.lt hR i hi; omega)
  have K34 := hK32
  have hzz := K0.size
  replace K0 := K0.trans K34 (U := (fun i => i = d ∨ Ow (.slice A l.length c) i)) (fun i h1 h2 => h2) (fun i h1 h2 => by have h2 : Ow (.slice A l.length c) i := h2; exact .inr (h2))
  replace H14 := H14.keep K34 (by intro h; change Ow (.slice A l.length c) d at h; have := hVd d h; omega)
  clear hO
  replace hR := RowsE.keep hR K34 (fun i hi hs => by have hs : Ow (.slice A l.length c) i := hs; exact hVT i hs hi)
  have Kb41 := Kb27.trans K34 (U := (fun i => i = d ∨ Ow (.slice A l.length c) i)) (fun _ _ h => h) (fun i h1 h2 => by have h2 : Ow (.slice A l.length c) i := h2; exact .inr (h2))
  refine Dr1.go (v := (Value.slice A35 ((l ++ [(⟨⟨o, ((now + 1 : Nat) : Int), 0, false, ⟨0, 0, []⟩⟩, none, 0⟩ : HC)]).length) c36)) (by kernel_rfl) (Runs.append (ts := #[33, 33]) (ty := 33) (vs := [(Value.slice A l.length c), (Value.slice (some ⟨b19, 0, none⟩) 1 1)]) (by kernel_rfl) hr30) (d := (some 34)) (by kernel_rfl) rfl (SH.cons (SH.cons (SH.nil Kb41) (.inr (H14.loads (by kernel_rfl)))) (.inr (H14.loads (by kernel_rfl)))) ?_
  have hOF42 : ∀ i, ((Value.slice A35 ((l ++ [(⟨⟨o, ((now + 1 : Nat) : Int), 0, false, ⟨0, 0, []⟩⟩, none, 0⟩ : HC)]).length) c36)).ownBlock = some i → F i ∨ w.heap.size ≤ i := fun i hi => (hg33 i hi).elim (fun h => .inl (hV7 i h).2.1) (fun h => .inr (Nat.le_trans hzz h))
  have hln43 : (l ++ [(⟨⟨o, ((now + 1 : Nat) : Int), 0, false, ⟨0, 0, []⟩⟩, none, 0⟩ : HC)]).length = l.length + 1 := by rw [List.length_append]; rfl
  clear K34 hr30 hK32 hg33
  refine skQ 1 [13, 14] [(0, ptr d), (4, i64 0), (34, (Value.slice A35 ((l ++ [(⟨⟨o, ((now + 1 : Nat) : Int), 0, false, ⟨0, 0, []⟩⟩, none, 0⟩ : HC)]).length) c36)), (36, ptr d)] ?_
  refine soQ 15 ?_
  refine Dr1.put (t := 33) (b := d) (off := 0) (v := (Value.slice A35 ((l ++ [(⟨⟨o, ((now + 1 : Nat) : Int), 0, false, ⟨0, 0, []⟩⟩, none, 0⟩ : HC)]).length) c36)) (ys := [(Value.slice A35 ((l ++ [(⟨⟨o, ((now + 1 : Nat) : Int), 0, false, ⟨0, 0, []⟩⟩, none, 0⟩ : HC)]).length) c36), (i64 ((now + 1 : Nat) : Int))]) (by kernel_rfl) (by kernel_rfl) H14 (by kernel_rfl) (d := none) (by kernel_rfl) rfl (fun w44 H45 K46 => ?_)
  replace K0 := K0.t1 K46 fun _ => .inl rfl
  replace hR := RowsE.keep hR K46 (fun i hi hs => by have hs : i = d := hs; have := hTd i hi; omega)
  replace hO31 := own_keep hO31 K46 (fun i hi => by have := ob37 i hi; omega)
  have Kb47 := Kb41.t1 K46 fun _ => .inl rfl
  refine ⟨(SH.cons (SH.cons (SH.nil Kb47) (.inl (by kernel_rfl))) (.inl (by kernel_rfl))), ?_⟩
  refine DrS.done (by kernel_rfl) ?_
  refine qsg ?_
  refine og 3 [(4, i64 0), (39, ptr d)] 3 ?_
  refine ogo (Value.slice A35 ((l ++ [(⟨⟨o, ((now + 1 : Nat) : Int), 0, false, ⟨0, 0, []⟩⟩, none, 0⟩ : HC)]).length) c36) 40 (rld 33 d 0 H45) rfl ?_
  refine og 2 [(4, i64 0), (42, (i64 (IntKind.i64.wrap ((((l ++ [(⟨⟨o, ((now + 1 : Nat) : Int), 0, false, ⟨0, 0, []⟩⟩, none, 0⟩ : HC)]).length : Nat) : Int) - 1))))] 6 ?_
  have e48 : IntKind.i64.wrap ((((l ++ [(⟨⟨o, ((now + 1 : Nat) : Int), 0, false, ⟨0, 0, []⟩⟩, none, 0⟩ : HC)]).length : Nat) : Int) - 1) = ((l.length : Nat) : Int) := by rw [wrap_i64 (by omega) (by omega)]; omega
  rw [e48]
  refine ogd 1 [(4, i64 ↑l.length)] ?_
  refine qtQ ?_
  refine ⟨(i64 ((l.length : Nat) : Int)), retv_tmp rfl rfl, ?_⟩
  have e : begH (l.map HC.c) now o = ((l ++ [(⟨⟨o, ((now + 1 : Nat) : Int), 0, false, ⟨0, 0, []⟩⟩, none, 0⟩ : HC)]).map HC.c, now + 1, (l.length : Int)) := by rw [begH_yes (by rw [List.length_map]; omega), List.length_map, List.map_append]; rfl
  rw [e]
  exact ⟨rfl, (K0.mono (fun i _ h => by rcases h with h | h; (rw [h]; exact hFd); (exact (hV7 i h).2.1))), (l ++ [(⟨⟨o, ((now + 1 : Nat) : Int), 0, false, ⟨0, 0, []⟩⟩, none, 0⟩ : HC)]), A35, c36, T, rfl, H45, hO31, RowsE.add hR (Rd.nil _ _) rfl, fun i hi => ⟨hTd i hi, .inl (hT7 i hi).2, RowsE.lt hR i hi⟩, fun i hi => ⟨ob37 i hi, ⟨hOF42 i hi, (World.ownsRow.lt hO31 i hi).2⟩, fun h => oo40 i hi h⟩, ⟨.inl hFd, H45.lt⟩, fun i hi => hi.2, by rw [List.length_map, List.length_append, List.length_singleton]; omega⟩
theorem RecBegin_nil (w : World) (o : Opm)  : Calls Tryd.prog 25 ⟨[(Value.pointer none), (agg (Opm.cells o))]⟩ w (fun e w' => e = .returned (i64 (-1)) ∧ Keeps none_ w w') := by
 have K0 : Keeps none_ w w := Keeps.refl w
 refine q_calls Tryd.func25 (by kernel_rfl) (by kernel_rfl) ?_
 refine qsg ?_
 refine onew (rowL (Opm.cells o) 24) (fun b => (ptr b)) 3 (fun b => rfl) (fun b1 w2 hb3 H4 K5 hs6 => ?_)
 have nb1 : w.heap.size ≤ b1 := by have := K0.size; omega
 replace K0 := K0.t0 K5
 clear K5 hs6
 refine odz 1 ?_
 refine qs ?_
 refine qsg ?_
 refine ogd 10 [(0, .pointer none), (3, ptr b1), (4, i64 0), (14, .bool true)] ?_
 refine q_then (o := .tmp 14) (by kernel_rfl) rfl ?_
 refine qsg ?_
 refine ogd 1 [(0, .pointer none), (3, ptr b1), (4, (i64 (-1)))] ?_
 refine qtQ ?_
 refine ⟨(i64 (-1)), retv_tmp rfl rfl, ?_⟩
 exact ⟨rfl, K0⟩
end Go.Proofs.YtnbcghbgeiocbaaDoor
namespace Go.Proofs.YtnbcghbgeiocbaaDoor
open Go.Q Go.RowKit
theorem CloneR_nil (w : World) (n c : Nat)  : Calls Tryd.prog 42 ⟨[(Value.slice none n c)]⟩ w (fun e w' => e = .returned (.slice none 0 0) ∧ Keeps none_ w w') := by
 have K0 : Keeps none_ w w := Keeps.refl w
 refine q_calls Tryd.func42 (by kernel_rfl) (by kernel_rfl) ?_
 refine qsg ?_
 refine odz 1 ?_
 refine qs ?_
 refine qsg ?_
 refine ogd 2 [(0, .slice none n c), (2, .slice none 0 0), (4, .bool true)] ?_
 refine q_then (o := .tmp 4) (by kernel_rfl) rfl ?_
 refine qsg ?_
 refine ogd 1 [(0, .slice none n c), (2, .slice none 0 0)] ?_
 refine qtQ ?_
 refine ⟨(Value.slice none 0 0), retv_tmp rfl rfl, ?_⟩
 exact ⟨rfl, K0⟩
theorem CloneR_some (w : World) (a : Addr) (c : Nat) (l : List RowM) (hv : RdT w 2 RowM.cells (.slice (some a) l.length c) l) (hl : l.length * 24 ≤ 140737488351232) : Calls Tryd.prog 42 ⟨[(Value.slice (some a) l.length c)]⟩ w (fun e w' => ∃ v', e = .returned v' ∧ Keeps none_ w w' ∧ OwnT w' w.heap.size 98 2 RowM.cells v' ([] ++ l)) := by
 have K0 : Keeps none_ w w := Keeps.refl w
 refine q_calls Tryd.func42 (by kernel_rfl) (by kernel_rfl) ?_
 refine qsg ?_
 refine odz 1 ?_
 refine qs ?_
 refine qsg ?_
 refine ogd 2 [(0, .slice (some a) l.length c), (2, .slice none 0 0), (4, .bool false)] ?_
 refine q_else (o := .tmp 4) (by kernel_rfl) rfl ?_
 refine qkQ ?_
 refine qsg ?_
 refine onew (rowL [] 98) (fun b => (Value.slice (some ⟨b, 0, none⟩) 0 0)) 5 (fun b => rfl) (fun b1 w2 hb3 H4 K5 hs6 => ?_)
 have nb1 : w.heap.size ≤ b1 := by have := K0.size; omega
 replace K0 := K0.t0 K5
 clear K5 hs6
 refine og 1 [(2, .slice none 0 0), (5, .slice (some ⟨b1, 0, none⟩) 0 0), (6, .slice (some a) l.length c)] 2 ?_
 have hE7 : OwnT w2 w.heap.size 98 2 RowM.cells (Value.slice (some ⟨b1, 0, none⟩) 0 0) [] := own_empty2 H4 nb1
 obtain ⟨v8, w9, hr10, hO11, hK12, hg13⟩ := OwnT.app (ty := 26) RowM.two RowM.one tyR hE7 (Rd.keep0 (by omega) hv K0) (by first | omega | (simp only [List.length_nil]; omega)) (by first | omega | (simp only [List.length_nil]; omega)) K0.size
 obtain ⟨A15, c16, rfl⟩ := RdT.form RowM.two (by decide) (OwnT.rd hO11)
 have K14 := hK12
 refine ogo (Value.slice A15 (([] ++ l).length) c16) 7 (Runs.append (ts := #[26, 26]) (ty := 26) (vs := [(Value.slice (some ⟨b1, 0, none⟩) 0 0), (Value.slice (some a) l.length c)]) (by kernel_rfl) hr10) rfl ?_
 replace K0 := K0.trans K14 (U := none_) (fun i h1 h2 => h2) (fun i h1 h2 => by have h2 : Ow (.slice (some ⟨b1, 0, none⟩) 0 0) i := h2; exfalso; have := (World.ownsRow.lt hE7 i h2).1; omega)
 clear hE7
 clear K14 hr10 hK12 hg13
 refine ogd 1 [(2, (Value.slice A15 (([] ++ l).length) c16))] ?_
 refine qtQ ?_
 refine ⟨(Value.slice A15 (([] ++ l).length) c16), retv_tmp rfl rfl, ?_⟩
 exact ⟨_, rfl, K0, hO11⟩
theorem CloneR_calls (w : World) (A : Option Addr) (c : Nat) (l : List RowM) (hv : RdT w 2 RowM.cells (.slice A l.length c) l) (hl : l.length * 24 ≤ 140737488351232) : Calls Tryd.prog 42 ⟨[.slice A l.length c]⟩ w (fun e w' => ∃ A' c', e = .returned (.slice A' l.length c') ∧ Keeps none_ w w' ∧ OwnT w' w.heap.size 98 2 RowM.cells (.slice A' l.length c') l) := by
 cases A with
 | none =>
  refine (CloneR_nil w l.length c).mono ?_
  rintro e w' ⟨he, hk⟩
  have h0 : l = [] := by have h1 := Rd.none_nil2 hv; cases l with | nil => rfl | cons x l => simp [RowM.cells] at h1
  subst h0
  exact ⟨none, 0, he, hk, OwnT.nil _ _ _ _ _⟩
 | some a =>
  refine (CloneR_some w a c l hv hl).mono ?_
  rintro e w' ⟨v', he, hk, hO⟩
  rw [List.nil_append] at hO
  obtain ⟨A', c', rfl⟩ := RdT.form RowM.two (by decide) (OwnT.rd hO)
  exact ⟨A', c', he, hk, hO⟩
theorem RecTold_out (w : World) (F : Nat → Prop) (d : Nat) (l : List HC) (A : Option Addr) (c : Nat) (T : Nat → Prop) (now : Nat) (n : Int) (why amount : Int) (V : Option Addr) (rc : Nat) (rs : List RowM) (Hd : Has w d (rowL [(Value.slice A l.length c), i64 ((now : Nat) : Int)] 103)) (hO : OwnT w 0 43 13 HC.cells ((Value.slice A l.length c)) l) (hR : RowsE w HC.rv HC.rows T l) (hT7 : ∀ i, T i → i ≠ d ∧ F i) (hV7 : ∀ i, ((Value.slice A l.length c)).ownBlock = some i → i ≠ d ∧ F i ∧ ¬ T i) (hFd : F d) (hFl : ∀ i, F i → i < w.heap.size) (h20 : l.length ≤ 2000) (hV : RdR w (.slice V rs.length rc) rs) (hVF : rs ≠ [] → ∀ i, (Value.slice V rs.length rc).ownBlock = some i → ¬ F i) (hz : rs.length * 24 ≤ 140737488351232) (hnw : now ≤ 1000000) (hn : n < 0 ∨ (l.length : Int) ≤ n) : Calls Tryd.prog 24 ⟨[(ptr d), (i64 n), (agg [(i64 why), (i64 amount), (Value.slice V rs.length rc)])]⟩ w (fun e w' => e = .returned (.bool (tldH (l.map HC.c) now n ⟨why, amount, rs⟩).2.2) ∧ Keeps F w w' ∧ RecP w' (fun i => (F i ∨ w.heap.size ≤ i) ∧ i < w'.heap.size) d 103 43 (tldH (l.map HC.c) now n ⟨why, amount, rs⟩).1 (tldH (l.map HC.c) now n ⟨why, amount, rs⟩).2.1) := by
 have Hdl := Hd.lt
 have hcap := RdT.len HC.two (by decide) (OwnT.rd hO)
 have hDP : RecP w F d 103 43 (l.map HC.c) now := ⟨l, A, c, T, rfl, Hd, hO, hR, hT7, hV7, hFd, hFl, by rw [List.length_map]; exact h20⟩
 have K0 : Keeps none_ w w := (Keeps.refl w).mono (fun _ _ h => h.elim)
 refine q_calls Tryd.func24 (by kernel_rfl) (by kernel_rfl) ?_
 refine qsg ?_
 refine onew (rowL [(i64 why), (i64 amount), (Value.slice V rs.length rc)] 28) (fun b => (ptr b)) 5 (fun b => rfl) (fun b1 w2 hb3 H4 K5 hs6 => ?_)
 have lb1d : d < b1 := by have := Hd.lt; omega
 have nb1 : w.heap.size ≤ b1 := by have := K0.size; omega
 replace K0 := K0.t0 K5
 replace Hd := Hd.kn K5
 replace hV := RdR.keepE hV hVF K5 (fun i hi => by exact (show none_ i from hi).elim)
 clear K5 hs6
 refine odz 1 ?_
 refine qs ?_
 refine qsg ?_
 refine og 7 [(0, ptr d), (1, i64 n), (5, ptr b1), (6, .bool false), (14, (Value.bool (decide (n < 0))))] 7 ?_
 refine Ops.split (decide (n < 0)) (fun h9 => ?_) (fun h9 => ?_)
 ·rw [h9]
  have p10 := of_decide_eq_true h9
  refine ogd 18 [(0, ptr d), (1, i64 n), (5, ptr b1), (6, .bool false), (32, .bool true)] ?_
  refine q_then (o := .tmp 32) (by kernel_rfl) rfl ?_
  refine qsg ?_
  refine ogd 1 [(0, ptr d), (1, i64 n), (5, ptr b1), (6, .bool false)] ?_
  refine qtQ ?_
  refine ⟨(Value.bool false), retv_tmp rfl rfl, ?_⟩
  rw [tldH_out (ms := l.map HC.c) (now := now) (n := n) (p := ⟨why, amount, rs⟩) (by rw [List.length_map]; exact hn)]
  exact ⟨rfl, K0.mono (fun _ _ h => h.elim), hDP.wide K0 (fun i hi => ⟨.inl hi, Nat.lt_of_lt_of_le (hFl i hi) K0.size⟩) (fun i hi => hi.2)⟩
 ·rw [h9]
  have p11 := of_decide_eq_false h9
  refine og 4 [(0, ptr d), (1, i64 n), (5, ptr b1), (6, .bool false), (14, .bool false), (15, i64 n), (18, ptr d)] 11 ?_
  refine ogo (Value.slice A l.length c) 19 (rld 33 d 0 Hd) rfl ?_
  refine og 4 [(0, ptr d), (1, i64 n), (5, ptr b1), (6, .bool false), (23, (Value.bool (decide (n ≥ ((l.length : Nat) : Int)))))] 16 ?_
  have h12 : (decide (n ≥ ((l.length : Nat) : Int))) = true := decide_eq_true (by omega)
  rw [h12]
  refine ogd 9 [(0, ptr d), (1, i64 n), (5, ptr b1), (6, .bool false), (32, .bool true)] ?_
  refine q_then (o := .tmp 32) (by kernel_rfl) rfl ?_
  refine qsg ?_
  refine ogd 1 [(0, ptr d), (1, i64 n), (5, ptr b1), (6, .bool false)] ?_
  refine qtQ ?_
  refine ⟨(Value.bool false), retv_tmp rfl rfl, ?_⟩
  rw [tldH_out (ms := l.map HC.c) (now := now) (n := n) (p := ⟨why, amount, rs⟩) (by rw [List.length_map]; exact hn)]
  exact ⟨rfl, K0.mono (fun _ _ h => h.elim), hDP.wide K0 (fun i hi => ⟨.inl hi, Nat.lt_of_lt_of_le (hFl i hi) K0.size⟩) (fun i hi => hi.2)⟩
set_option maxHeartbeats 1000000 in
theorem RecTold_is (w : World) (F : Nat → Prop) (d : Nat) (l : List HC) (A : Option Addr) (c : Nat) (T : Nat → Prop) (now : Nat) (k : Nat) (x : HC) (why amount : Int) (V : Option Addr) (rc : Nat) (rs : List RowM) (Hd : Has w d (rowL [(Value.slice A l.length c), i64 ((now : Nat) : Int)] 103)) (hO : OwnT w 0 43 13 HC.cells ((Value.slice A l.length c)) l) (hR : RowsE w HC.rv HC.rows T l) (hT7 : ∀ i, T i → i ≠ d ∧ F i) (hV7 : ∀ i, ((Value.slice A l.length c)).ownBlock = some i → i ≠ d ∧ F i ∧ ¬ T i) (hFd : F d) (hFl : ∀ i, F i → i < w.heap.size) (h20 : l.length ≤ 2000) (hV : RdR w (.slice V rs.length rc) rs) (hVF : rs ≠ [] → ∀ i, (Value.slice V rs.length rc).ownBlock = some i → ¬ F i) (hz : rs.length * 24 ≤ 140737488351232) (hnw : now ≤ 1000000) (hx : l[k]? = some x) (hs : x.c.told = true) : Calls Tryd.prog 24 ⟨[(ptr d), (i64 ((k : Nat) : Int)), (agg [(i64 why), (i64 amount), (Value.slice V rs.length rc)])]⟩ w (fun e w' => e = .returned (.bool (tldH (l.map HC.c) now (k : Int) ⟨why, amount, rs⟩).2.2) ∧ Keeps F w w' ∧ RecP w' (fun i => (F i ∨ w.heap.size ≤ i) ∧ i < w'.heap.size) d 103 43 (tldH (l.map HC.c) now (k : Int) ⟨why, amount, rs⟩).1 (tldH (l.map HC.c) now (k : Int) ⟨why, amount, rs⟩).2.1) := by
 have Hdl := Hd.lt
 have hVd : ∀ i, Ow (.slice A l.length c) i → i ≠ d := fun i hi => (hV7 i hi).1
 have hcap := RdT.len HC.two (by decide) (OwnT.rd hO)
 have hDP : RecP w F d 103 43 (l.map HC.c) now := ⟨l, A, c, T, rfl, Hd, hO, hR, hT7, hV7, hFd, hFl, by rw [List.length_map]; exact h20⟩
 obtain ⟨gB, pre, suf, hA, _, hp, HX0, hput⟩ := OwnT.mid HC.two (by decide) hx hO
 have hk := (List.getElem?_eq_some_iff.1 hx).1
 have hgd : gB ≠ d := hVd gB (by rw [hA]; rfl)
 have hgF : F gB := (hV7 gB (by rw [hA]; rfl)).2.1
 have hgT : ¬ T gB := (hV7 gB (by rw [hA]; rfl)).2.2
 have HX : Has w gB (rowL (pre ++ [(i64 x.c.op.kind), (Value.string (str x.c.op.frm)), (Value.string (str x.c.op.to)), (i64 x.c.op.amount), (Value.string (str x.c.op.key)), (i64 x.c.op.slot), (i64 x.c.op.shard), (i64 x.c.bg), (i64 x.c.en), (Value.bool true), (i64 x.c.rep.why), (i64 x.c.rep.amount), (Value.slice x.A x.c.rep.rows.length x.k)] ++ suf) 43) := by
  have e : x.cells = [(i64 x.c.op.kind), (Value.string (str x.c.op.frm)), (Value.string (str x.c.op.to)), (i64 x.c.op.amount), (Value.string (str x.c.op.key)), (i64 x.c.op.slot), (i64 x.c.op.shard), (i64 x.c.bg), (i64 x.c.en), (Value.bool true), (i64 x.c.rep.why), (i64 x.c.rep.amount), (Value.slice x.A x.c.rep.rows.length x.k)] := by unfold HC.cells; rw [hs]
  exact e ▸ HX0
 have HXl := HX.lt
 clear HX0
 have K0 : Keeps none_ w w := Keeps.refl w
 refine q_calls Tryd.func24 (by kernel_rfl) (by kernel_rfl) ?_
 refine qsg ?_
 refine onew (rowL [(i64 why), (i64 amount), (Value.slice V rs.length rc)] 28) (fun b => (ptr b)) 5 (fun b => rfl) (fun b1 w2 hb3 H4 K5 hs6 => ?_)
 have lb1d : d < b1 := by have := Hd.lt; omega
 have lb1gB : gB < b1 := by have := HX.lt; omega
 have nb1 : w.heap.size ≤ b1 := by have := K0.size; omega
 replace K0 := K0.t0 K5
 replace Hd := Hd.kn K5
 replace HX := HX.kn K5
 replace hV := RdR.keepE hV hVF K5 (fun i hi => by exact (show none_ i from hi).elim)
 clear K5 hs6
 refine odz 1 ?_
 refine qs ?_
 refine qsg ?_
 refine og 7 [(0, ptr d), (1, i64 ↑k), (5, ptr b1), (6, .bool false), (14, (Value.bool (decide (((k : Nat) : Int) < 0))))] 7 ?_
 have h8 : (decide (((k : Nat) : Int) < 0)) = false := decide_eq_false (by omega)
 rw [h8]
 refine og 4 [(0, ptr d), (1, i64 ↑k), (5, ptr b1), (6, .bool false), (14, .bool false), (15, i64 ↑k), (18, ptr d)] 11 ?_
 refine ogo (Value.slice A l.length c) 19 (rld 33 d 0 Hd) rfl ?_
 refine og 4 [(0, ptr d), (1, i64 ↑k), (5, ptr b1), (6, .bool false), (23, (Value.bool (decide (((k : Nat) : Int) ≥ ((l.length : Nat) : Int)))))] 16 ?_
 have h9 : (decide (((k : Nat) : Int) ≥ ((l.length : Nat) : Int))) = false := decide_eq_false (by omega)
 rw [h9]
 refine og 3 [(0, ptr d), (1, i64 ↑k), (5, ptr b1), (6, .bool false), (23, .bool false), (26, ptr d)] 19 ?_
 refine ogo (Value.slice A l.length c) 27 (rld 33 d 0 Hd) rfl ?_
 refine og 1 [(0, ptr d), (1, i64 ↑k), (5, ptr b1), (6, .bool false), (23, .bool false), (27, .slice A l.length c), (28, i64 ↑k)] 21 ?_
 refine Ops.go (by kernel_rfl) (Runs.ixSliceE (k := IntKind.i64) (t := 33) (len := l.length) (cap := c) (s := 13) (off' := k * 13) (i := ((k : Nat) : Int)) hA (by kernel_rfl) (by kernel_rfl) (by omega) (by omega) (by omega)) (d := (some 29)) (by kernel_rfl) rfl ?_
 refine og 1 [(0, ptr d), (1, i64 ↑k), (5, ptr b1), (6, .bool false), (23, .bool false), (30, .pointer (some ⟨gB, k * 13 + 9, none⟩))] 23 ?_
 refine ogo (Value.bool true) 31 (Runs.load (t := 4) (a := ⟨gB, k * 13 + 9, none⟩) (by kernel_rfl) (HX.loads (loadC1 (by kernel_rfl) (mid1 (k := 9) (by have := hp; omega) (by kernel_rfl))))) rfl ?_
 refine ogd 1 [(0, ptr d), (1, i64 ↑k), (5, ptr b1), (6, .bool false), (32, .bool true)] ?_
 refine q_then (o := .tmp 32) (by kernel_rfl) rfl ?_
 refine qsg ?_
 refine ogd 1 [(0, ptr d), (1, i64 ↑k), (5, ptr b1), (6, .bool false)] ?_
 refine qtQ ?_
 refine ⟨(Value.bool false), retv_tmp rfl rfl, ?_⟩
 rw [tldH_is (now := now) (p := ⟨why, amount, rs⟩) hx hs]
 exact ⟨rfl, K0.mono (fun _ _ h => h.elim), hDP.wide K0 (fun i hi => ⟨.inl hi, Nat.lt_of_lt_of_le (hFl i hi) K0.size⟩) (fun i hi => hi.2)⟩
set_option maxHeartbeats 1000000 in
theorem RecTold_in (w : World) (F : Nat → Prop) (d : Nat) (l : List HC) (A : Option Addr) (c : Nat) (T : Nat → Prop) (now : Nat) (k : Nat) (x : HC) (why amount : Int) (V : Option Addr) (rc : Nat) (rs : List RowM) (Hd : Has w d (rowL [(Value.slice A l.length c), i64 ((now : Nat) : Int)] 103)) (hO : OwnT w 0 43 13 HC.cells ((Value.slice A l.length c)) l) (hR : RowsE w HC.rv HC.rows T l) (hT7 : ∀ i, T i → i ≠ d ∧ F i) (hV7 : ∀ i, ((Value.slice A l.length c)).ownBlock = some i → i ≠ d ∧ F i ∧ ¬ T i) (hFd : F d) (hFl : ∀ i, F i → i < w.heap.size) (h20 : l.length ≤ 2000) (hV : RdR w (.slice V rs.length rc) rs) (hVF : rs ≠ [] → ∀ i, (Value.slice V rs.length rc).ownBlock = some i → ¬ F i) (hz : rs.length * 24 ≤ 140737488351232) (hnw : now ≤ 1000000) (hx : l[k]? = some x) (hs : x.c.told = false) : Calls Tryd.prog 24 ⟨[(ptr d), (i64 ((k : Nat) : Int)), (agg [(i64 why), (i64 amount), (Value.slice V rs.length rc)])]⟩ w (fun e w' => e = .returned (.bool (tldH (l.map HC.c) now (k : Int) ⟨why, amount, rs⟩).2.2) ∧ Keeps F w w' ∧ RecP w' (fun i => (F i ∨ w.heap.size ≤ i) ∧ i < w'.heap.size) d 103 43 (tldH (l.map HC.c) now (k : Int) ⟨why, amount, rs⟩).1 (tldH (l.map HC.c) now (k : Int) ⟨why, amount, rs⟩).2.1) := by
 have Hdl := Hd.lt
 have hTd : ∀ i, T i → i ≠ d := fun i hi => (hT7 i hi).1
 have hVd : ∀ i, Ow (.slice A l.length c) i → i ≠ d := fun i hi => (hV7 i hi).1
 have hcap := RdT.len HC.two (by decide) (OwnT.rd hO)
 have hDP : RecP w F d 103 43 (l.map HC.c) now := ⟨l, A, c, T, rfl, Hd, hO, hR, hT7, hV7, hFd, hFl, by rw [List.length_map]; exact h20⟩
 obtain ⟨gB, pre, suf, hA, _, hp, HX0, hput⟩ := OwnT.mid HC.two (by decide) hx hO
 have hk := (List.getElem?_eq_some_iff.1 hx).1
 have hgd : gB ≠ d := hVd gB (by rw [hA]; rfl)
 have hgF : F gB := (hV7 gB (by rw [hA]; rfl)).2.1
 have hgT : ¬ T gB := (hV7 gB (by rw [hA]; rfl)).2.2
 have hTg : ∀ i, T i → i ≠ gB := fun i hi q => hgT (q ▸ hi)
 have HX : Has w gB (rowL (pre ++ [(i64 x.c.op.kind), (Value.string (str x.c.op.frm)), (Value.string (str x.c.op.to)), (i64 x.c.op.amount), (Value.string (str x.c.op.key)), (i64 x.c.op.slot), (i64 x.c.op.shard), (i64 x.c.bg), (i64 x.c.en), (Value.bool false), (i64 x.c.rep.why), (i64 x.c.rep.amount), (Value.slice x.A x.c.rep.rows.length x.k)] ++ suf) 43) := by
  have e : x.cells = [(i64 x.c.op.kind), (Value.string (str x.c.op.frm)), (Value.string (str x.c.op.to)), (i64 x.c.op.amount), (Value.string (str x.c.op.key)), (i64 x.c.op.slot), (i64 x.c.op.shard), (i64 x.c.bg), (i64 x.c.en), (Value.bool false), (i64 x.c.rep.why), (i64 x.c.rep.amount), (Value.slice x.A x.c.rep.rows.length x.k)] := by unfold HC.cells; rw [hs]
  exact e ▸ HX0
 have HXl := HX.lt
 clear HX0
 have K0 : Keeps (fun i => i = d ∨ i = gB) w w := (Keeps.refl w).mono (fun _ _ h => h.elim)
 refine q_calls Tryd.func24 (by kernel_rfl) (by kernel_rfl) ?_
 refine qsg ?_
 refine onew (rowL [(i64 why), (i64 amount), (Value.slice V rs.length rc)] 28) (fun b => (ptr b)) 5 (fun b => rfl) (fun b1 w2 hb3 H4 K5 hs6 => ?_)
 have lb1d : d < b1 := by have := Hd.lt; omega
 have lb1gB : gB < b1 := by have := HX.lt; omega
 have nb1 : w.heap.size ≤ b1 := by have := K0.size; omega
 replace K0 := K0.tn K5
 replace Hd := Hd.kn K5
 replace HX := HX.kn K5
 replace hR := RowsE.keep hR K5 (fun _ _ h => h)
 replace hV := RdR.keepE hV hVF K5 (fun i hi => by exact (show none_ i from hi).elim)
 clear K5 hs6
 refine odz 1 ?_
 refine qs ?_
 refine qsg ?_
 refine og 7 [(0, ptr d), (1, i64 ↑k), (5, ptr b1), (6, .bool false), (14, (Value.bool (decide (((k : Nat) : Int) < 0))))] 7 ?_
 have h8 : (decide (((k : Nat) : Int) < 0)) = false := decide_eq_false (by omega)
 rw [h8]
 refine og 4 [(0, ptr d), (1, i64 ↑k), (5, ptr b1), (6, .bool false), (14, .bool false), (15, i64 ↑k), (18, ptr d)] 11 ?_
 refine ogo (Value.slice A l.length c) 19 (rld 33 d 0 Hd) rfl ?_
 refine og 4 [(0, ptr d), (1, i64 ↑k), (5, ptr b1), (6, .bool false), (23, (Value.bool (decide (((k : Nat) : Int) ≥ ((l.length : Nat) : Int)))))] 16 ?_
 have h9 : (decide (((k : Nat) : Int) ≥ ((l.length : Nat) : Int))) = false := decide_eq_false (by omega)
 rw [h9]
 refine og 3 [(0, ptr d), (1, i64 ↑k), (5, ptr b1), (6, .bool false), (23, .bool false), (26, ptr d)] 19 ?_
 refine ogo (Value.slice A l.length c) 27 (rld 33 d 0 Hd) rfl ?_
 refine og 1 [(0, ptr d), (1, i64 ↑k), (5, ptr b1), (6, .bool false), (23, .bool false), (27, .slice A l.length c), (28, i64 ↑k)] 21 ?_
 refine Ops.go (by kernel_rfl) (Runs.ixSliceE (k := IntKind.i64) (t := 33) (len := l.length) (cap := c) (s := 13) (off' := k * 13) (i := ((k : Nat) : Int)) hA (by kernel_rfl) (by kernel_rfl) (by omega) (by omega) (by omega)) (d := (some 29)) (by kernel_rfl) rfl ?_
 refine og 1 [(0, ptr d), (1, i64 ↑k), (5, ptr b1), (6, .bool false), (23, .bool false), (30, .pointer (some ⟨gB, k * 13 + 9, none⟩))] 23 ?_
 refine ogo (Value.bool false) 31 (Runs.load (t := 4) (a := ⟨gB, k * 13 + 9, none⟩) (by kernel_rfl) (HX.loads (loadC1 (by kernel_rfl) (mid1 (k := 9) (by have := hp; omega) (by kernel_rfl))))) rfl ?_
 refine ogd 1 [(0, ptr d), (1, i64 ↑k), (5, ptr b1), (6, .bool false), (32, .bool false)] ?_
 refine q_else (o := .tmp 32) (by kernel_rfl) rfl ?_
 refine qkQ ?_
 refine qsg ?_
 refine og 3 [(0, ptr d), (1, i64 ↑k), (5, ptr b1), (6, .bool false), (33, ptr d), (35, .pointer (some ⟨d, 1, none⟩))] 3 ?_
 refine ogo (i64 ((now : Nat) : Int)) 36 (rld 3 d 1 Hd) rfl ?_
 refine og 1 [(0, ptr d), (1, i64 ↑k), (5, ptr b1), (6, .bool false), (33, ptr d), (37, (i64 (IntKind.i64.wrap (((now : Nat) : Int) + 1))))] 5 ?_
 rw [show IntKind.i64.wrap (((now : Nat) : Int) + 1) = ((now + 1 : Nat) : Int) from by rw [wrap_i64 (by omega) (by omega)]; omega]
 refine og 2 [(0, ptr d), (1, i64 ↑k), (5, ptr b1), (6, .bool false), (37, i64 ↑(now + 1)), (39, .pointer (some ⟨d, 1, none⟩))] 7 ?_
 refine Ops.put (t := 3) (b := d) (off := 1) (v := (i64 ((now + 1 : Nat) : Int))) (ys := [(Value.slice A l.length c), (i64 ((now + 1 : Nat) : Int))]) (by kernel_rfl) (by kernel_rfl) Hd (by kernel_rfl) (d := none) (by kernel_rfl) rfl (fun w11 H12 K13 => ?_)
 clear Hd
 replace K0 := K0.t1 K13 fun _ => by show d = d ∨ d = gB; omega
 replace HX := HX.k1 K13 (by omega)
 replace H4 := H4.k1 K13 (by omega)
 replace hR := RowsE.keep hR K13 (fun i hi hs => by have hs : i = d := hs; have := hTd i hi; omega)
 replace hV := RdR.keepE hV hVF K13 (fun i hi => by rw [show i = d from hi]; exact hFd)
 refine od ?_
 refine qsg ?_
 refine og 3 [(0, ptr d), (1, i64 ↑k), (5, ptr b1), (6, .bool false), (42, ptr d)] 3 ?_
 refine ogo (Value.slice A l.length c) 43 (rld 33 d 0 H12) rfl ?_
 refine og 1 [(0, ptr d), (5, ptr b1), (6, .bool false), (43, .slice A l.length c), (44, i64 ↑k)] 5 ?_
 refine Ops.go (by kernel_rfl) (Runs.ixSliceE (k := IntKind.i64) (t := 33) (len := l.length) (cap := c) (s := 13) (off' := k * 13) (i := ((k : Nat) : Int)) hA (by kernel_rfl) (by kernel_rfl) (by omega) (by omega) (by omega)) (d := (some 45)) (by kernel_rfl) rfl ?_
 refine ogd 1 [(0, ptr d), (5, ptr b1), (6, .bool false), (7, .pointer (some ⟨gB, k * 13, none⟩))] ?_
 refine qs ?_
 refine q_drawS 17 (by kernel_rfl) (by kernel_rfl) (by kernel_rfl) (fun w14 K15 _ _ => ?_)
 replace K0 := K0.tn K15
 replace H12 := H12.kn K15
 replace HX := HX.kn K15
 replace H4 := H4.kn K15
 replace hR := RowsE.keep hR K15 (fun _ _ h => h)
 replace hV := RdR.keepE hV hVF K15 (fun i hi => by exact (show none_ i from hi).elim)
 have Kb16 : Keeps (fun i => i = gB) w14 w14 := (Keeps.refl w14).mono (fun _ _ h => h.elim)
 refine ⟨fun wz => Keeps (fun i => i = gB) w14 wz, [], (SH.nil Kb16), ?_⟩
 refine skQ 11 [0, 1, 2, 3, 4, 5] [(5, ptr b1), (6, .bool false), (7, .pointer (some ⟨gB, k * 13, none⟩)), (46, .pointer (some ⟨gB, k * 13, none⟩)), (47, .pointer (some ⟨gB, k * 13, none⟩)), (48, .pointer (some ⟨gB, k * 13, none⟩)), (51, .pointer (some ⟨d, 1, none⟩))] ?_
 refine stQ 6 (i64 ((now + 1 : Nat) : Int)) 52 (fun wz hS => rld 3 d 1 (H12.keep hS (by intro h; change d = gB at h; omega))) rfl ?_
 refine stQ 7 (agg [(i64 why), (i64 amount), (Value.slice V rs.length rc)]) 53 (fun wz hS => rld 28 b1 0 (H4.keep hS (by intro h; change b1 = gB at h; omega))) rfl ?_
 refine skQ 7 [8, 9] [(5, ptr b1), (6, .bool false), (7, .pointer (some ⟨gB, k * 13, none⟩)), (47, .pointer (some ⟨gB, k * 13, none⟩)), (48, .pointer (some ⟨gB, k * 13, none⟩)), (52, i64 ↑(now + 1)), (53, (agg [(i64 why), (i64 amount), (Value.slice V rs.length rc)])), (55, .pointer (some ⟨gB, k * 13 + 8, none⟩))] ?_
 refine soQ 10 ?_
 refine Dr1.put (t := 3) (b := gB) (off := k * 13 + 8) (v := (i64 ((now + 1 : Nat) : Int))) (ys := (pre ++ [(i64 x.c.op.kind), (Value.string (str x.c.op.frm)), (Value.string (str x.c.op.to)), (i64 x.c.op.amount), (Value.string (str x.c.op.key)), (i64 x.c.op.slot), (i64 x.c.op.shard), (i64 x.c.bg), (i64 ((now + 1 : Nat) : Int)), (Value.bool false), (i64 x.c.rep.why), (i64 x.c.rep.amount), (Value.slice x.A x.c.rep.rows.length x.k)] ++ suf)) (by kernel_rfl) (by kernel_rfl) HX (storeC1 (by kernel_rfl) (by kernel_rfl) (Nat.lt_of_lt_of_le (Nat.lt_succ_self _) (mid_len (vs := [(i64 ((now + 1 : Nat) : Int))]) (k := 8) (by have := hp; omega) (Nat.le_of_ble_eq_true (by kernel_rfl)))) (mid_set1 (k := 8) (by have := hp; omega) (Nat.le_of_ble_eq_true (by kernel_rfl)))) (d := none) (by kernel_rfl) rfl (fun w17 H18 K19 => ?_)
 clear HX
 replace K0 := K0.t1 K19 fun _ => by show gB = d ∨ gB = gB; omega
 replace H12 := H12.k1 K19 (by omega)
 replace H4 := H4.k1 K19 (by omega)
 replace hR := RowsE.keep hR K19 (fun i hi hs => by have hs : i = gB := hs; have := hTg i hi; omega)
 replace hV := RdR.keepE hV hVF K19 (fun i hi => by rw [show i = gB from hi]; exact hgF)
 have Kb20 := Kb16.t1 K19 fun _ => rfl
 refine ⟨(SH.nil Kb20), ?_⟩
 refine skQ 4 [11, 12] [(5, ptr b1), (6, .bool false), (7, .pointer (some ⟨gB, k * 13, none⟩)), (48, .pointer (some ⟨gB, k * 13, none⟩)), (53, (agg [(i64 why), (i64 amount), (Value.slice V rs.length rc)])), (57, .pointer (some ⟨gB, k * 13 + 9, none⟩))] ?_
 refine soQ 13 ?_
 refine Dr1.put (t := 4) (b := gB) (off := k * 13 + 9) (v := (Value.bool true)) (ys := (pre ++ [(i64 x.c.op.kind), (Value.string (str x.c.op.frm)), (Value.string (str x.c.op.to)), (i64 x.c.op.amount), (Value.string (str x.c.op.key)), (i64 x.c.op.slot), (i64 x.c.op.shard), (i64 x.c.bg), (i64 ((now + 1 : Nat) : Int)), (Value.bool true), (i64 x.c.rep.why), (i64 x.c.rep.amount), (Value.slice x.A x.c.rep.rows.length x.k)] ++ suf)) (by kernel_rfl) (by kernel_rfl) H18 (storeC1 (by kernel_rfl) (by kernel_rfl) (Nat.lt_of_lt_of_le (Nat.lt_succ_self _) (mid_len (vs := [(Value.bool true)]) (k := 9) (by have := hp; omega) (Nat.le_of_ble_eq_true (by kernel_rfl)))) (mid_set1 (k := 9) (by have := hp; omega) (Nat.le_of_ble_eq_true (by kernel_rfl)))) (d := none) (by kernel_rfl) rfl (fun w21 H22 K23 => ?_)
 replace K0 := K0.t1 K23 fun _ => by show gB = d ∨ gB = gB; omega
 replace H12 := H12.k1 K23 (by omega)
 replace H4 := H4.k1 K23 (by omega)
 replace hR := RowsE.keep hR K23 (fun i hi hs => by have hs : i = gB := hs; have := hTg i hi; omega)
 replace hV := RdR.keepE hV hVF K23 (fun i hi => by rw [show i = gB from hi]; exact hgF)
 have Kb24 := Kb20.t1 K23 fun _ => rfl
 refine ⟨(SH.nil Kb24), ?_⟩
 refine skQ 1 [14, 15] [(5, ptr b1), (6, .bool false), (7, .pointer (some ⟨gB, k * 13, none⟩)), (53, (agg [(i64 why), (i64 amount), (Value.slice V rs.length rc)])), (59, .pointer (some ⟨gB, k * 13 + 10, none⟩))] ?_
 refine soQ 16 ?_
 refine Dr1.put (t := 28) (b := gB) (off := k * 13 + 10) (v := (agg [(i64 why), (i64 amount), (Value.slice V rs.length rc)])) (ys := (pre ++ [(i64 x.c.op.kind), (Value.string (str x.c.op.frm)), (Value.string (str x.c.op.to)), (i64 x.c.op.amount), (Value.string (str x.c.op.key)), (i64 x.c.op.slot), (i64 x.c.op.shard), (i64 x.c.bg), (i64 ((now + 1 : Nat) : Int)), (Value.bool true), (i64 why), (i64 amount), (Value.slice V rs.length rc)] ++ suf)) (by kernel_rfl) (by kernel_rfl) H22 (storeCN (vs := [(i64 why), (i64 amount), (Value.slice V rs.length rc)]) (by kernel_rfl) (by kernel_rfl) (mid_len (k := 10) (by have := hp; omega) (Nat.le_of_ble_eq_true (by kernel_rfl))) (mid_setN (k := 10) (by have := hp; omega) (Nat.le_of_ble_eq_true (by kernel_rfl)))) (d := none) (by kernel_rfl) rfl (fun w25 H26 K27 => ?_)
 replace K0 := K0.t1 K27 fun _ => by show gB = d ∨ gB = gB; omega
 replace H12 := H12.k1 K27 (by omega)
 replace H4 := H4.k1 K27 (by omega)
 replace hR := RowsE.keep hR K27 (fun i hi hs => by have hs : i = gB := hs; have := hTg i hi; omega)
 replace hV := RdR.keepE hV hVF K27 (fun i hi => by rw [show i = gB from hi]; exact hgF)
 have Kb28 := Kb24.t1 K27 fun _ => rfl
 refine ⟨(SH.nil Kb28), ?_⟩
 refine DrS.done (by kernel_rfl) ?_
 refine qsg ?_
 refine og 2 [(6, .bool false), (60, .pointer (some ⟨gB, k * 13, none⟩)), (61, .pointer (some ⟨b1, 2, none⟩))] 2 ?_
 refine ogo (Value.slice V rs.length rc) 62 (rld 26 b1 2 H4) rfl ?_
 refine ocQ 63 (CloneR_calls _ V rc rs hV (by omega)) ?_
 rintro _ w31 ⟨A29, c30, rfl, K32, hO33⟩
 have ob36 : ∀ i, Ow (.slice A29 rs.length c30) i → i ≠ gB := fun i hi => by have := (World.ownsRow.lt hO33 i hi).1; have := H26.lt; omega
 have O34 := own_base hO33 (K0.size)
 refine ⟨_, _, rfl, rfl, ?_⟩
 replace K0 := K0.tn K32
 replace H12 := H12.kn K32
 replace H26 := H26.kn K32
 replace hR := RowsE.keep hR K32 (fun _ _ h => h)
 replace hV := RdR.keepE hV hVF K32 (fun i hi => by exact (show none_ i from hi).elim)
 refine og 3 [(6, .bool false), (63, .slice A29 rs.length c30), (66, .pointer (some ⟨gB, k * 13 + 10 + 2, none⟩))] 7 ?_
 refine Ops.put (t := 26) (b := gB) (off := k * 13 + 10 + 2) (v := (Value.slice A29 rs.length c30)) (ys := (pre ++ [(i64 x.c.op.kind), (Value.string (str x.c.op.frm)), (Value.string (str x.c.op.to)), (i64 x.c.op.amount), (Value.string (str x.c.op.key)), (i64 x.c.op.slot), (i64 x.c.op.shard), (i64 x.c.bg), (i64 ((now + 1 : Nat) : Int)), (Value.bool true), (i64 why), (i64 amount), (Value.slice A29 rs.length c30)] ++ suf)) (by kernel_rfl) (by kernel_rfl) H26 (storeC1 (by kernel_rfl) (by kernel_rfl) (Nat.lt_of_lt_of_le (Nat.lt_succ_self _) (mid_len (vs := [(Value.slice A29 rs.length c30)]) (k := 12) (by have := hp; omega) (Nat.le_of_ble_eq_true (by kernel_rfl)))) (mid_set1 (k := 12) (by have := hp; omega) (Nat.le_of_ble_eq_true (by kernel_rfl)))) (d := none) (by kernel_rfl) rfl (fun w39 H40 K41 => ?_)
 replace K0 := K0.t1 K41 fun _ => by show gB = d ∨ gB = gB; omega
 replace H12 := H12.k1 K41 (by omega)
 replace hR := RowsE.keep hR K41 (fun i hi hs => by have hs : i = gB := hs; have := hTg i hi; omega)
 replace hV := RdR.keepE hV hVF K41 (fun i hi => by rw [show i = gB from hi]; exact hgF)
 replace O34 := own_keep O34 K41 (fun i hi => by have := ob36 i hi; omega)
 refine od ?_
 refine qsg ?_
 refine ogd 1 [(6, .bool true)] ?_
 refine qtQ ?_
 refine ⟨(Value.bool true), retv_tmp rfl rfl, ?_⟩
 have e : tldH (l.map HC.c) now (k : Int) ⟨why, amount, rs⟩ = ((l.set k (⟨⟨x.c.op, x.c.bg, ((now + 1 : Nat) : Int), true, ⟨why, amount, rs⟩⟩, A29, c30⟩ : HC)).map HC.c, now + 1, true) := tldH_in hx hs
 rw [e]
 have hF9 : ∀ i, (HC.rv (⟨⟨x.c.op, x.c.bg, ((now + 1 : Nat) : Int), true, ⟨why, amount, rs⟩⟩, A29, c30⟩ : HC)).ownBlock = some i → w.heap.size ≤ i ∧ i < w39.heap.size := fun i hi => World.ownsRow.lt O34 i hi
 exact ⟨rfl, K0.mono (fun _ _ h => h.elim (fun h => h ▸ hFd) (fun h => h ▸ hgF)), recP_set hA hx H12 (hput (⟨⟨x.c.op, x.c.bg, ((now + 1 : Nat) : Int), true, ⟨why, amount, rs⟩⟩, A29, c30⟩ : HC) w39 H40) (RowsE.keep hR (Keeps.refl _) (fun i _ h => h)) (OwnT.rd O34) hF9 K0.size hT7 hV7 hFd hFl h20⟩
theorem RecTold_nil (w : World)   : Calls Tryd.prog 24 ⟨[(Value.pointer none), (i64 0), (agg [(i64 0), (i64 0), (Value.slice none 0 0)])]⟩ w (fun e w' => e = .returned (.bool false) ∧ Keeps none_ w w') := by
 have K0 : Keeps none_ w w := Keeps.refl w
 refine q_calls Tryd.func24 (by kernel_rfl) (by kernel_rfl) ?_
 refine qsg ?_
 refine onew (rowL [(i64 0), (i64 0), (Value.slice none 0 0)] 28) (fun b => (ptr b)) 5 (fun b => rfl) (fun b1 w2 hb3 H4 K5 hs6 => ?_)
 have nb1 : w.heap.size ≤ b1 := by have := K0.size; omega
 replace K0 := K0.t0 K5
 clear K5 hs6
 refine odz 1 ?_
 refine qs ?_
 refine qsg ?_
 refine ogd 25 [(0, .pointer none), (1, i64 0), (5, ptr b1), (6, .bool false), (32, .bool true)] ?_
 refine q_then (o := .tmp 32) (by kernel_rfl) rfl ?_
 refine qsg ?_
 refine ogd 1 [(0, .pointer none), (1, i64 0), (5, ptr b1), (6, .bool false)] ?_
 refine qtQ ?_
 refine ⟨(Value.bool false), retv_tmp rfl rfl, ?_⟩
 exact ⟨rfl, K0⟩
end Go.Proofs.YtnbcghbgeiocbaaDoor
namespace Go.Proofs.YtnbcghbgeiocbaaDoor
open Go.Q Go.RowKit
theorem CloneH_nil (w : World) (n c : Nat)  : Calls Tryd.prog 43 ⟨[(Value.slice none n c)]⟩ w (fun e w' => e = .returned (.slice none 0 0) ∧ Keeps none_ w w') := by
 have K0 : Keeps none_ w w := Keeps.refl w
 refine q_calls Tryd.func43 (by kernel_rfl) (by kernel_rfl) ?_
 refine qsg ?_
 refine odz 1 ?_
 refine qs ?_
 refine qsg ?_
 refine ogd 2 [(0, .slice none n c), (2, .slice none 0 0), (4, .bool true)] ?_
 refine q_then (o := .tmp 4) (by kernel_rfl) rfl ?_
 refine qsg ?_
 refine ogd 1 [(0, .slice none n c), (2, .slice none 0 0)] ?_
 refine qtQ ?_
 refine ⟨(Value.slice none 0 0), retv_tmp rfl rfl, ?_⟩
 exact ⟨rfl, K0⟩
theorem CloneH_some (w : World) (a : Addr) (c : Nat) (l : List HC) (hv : RdT w 13 HC.cells (.slice (some a) l.length c) l) (hl : l.length ≤ 2000) : Calls Tryd.prog 43 ⟨[(Value.slice (some a) l.length c)]⟩ w (fun e w' => ∃ v', e = .returned v' ∧ Keeps none_ w w' ∧ OwnT w' w.heap.size 43 13 HC.cells v' ([] ++ l)) := by
 have K0 : Keeps none_ w w := Keeps.refl w
 refine q_calls Tryd.func43 (by kernel_rfl) (by kernel_rfl) ?_
 refine qsg ?_
 refine odz 1 ?_
 refine qs ?_
 refine qsg ?_
 refine ogd 2 [(0, .slice (some a) l.length c), (2, .slice none 0 0), (4, .bool false)] ?_
 refine q_else (o := .tmp 4) (by kernel_rfl) rfl ?_
 refine qkQ ?_
 refine qsg ?_
 refine onew (rowL [] 43) (fun b => (Value.slice (some ⟨b, 0, none⟩) 0 0)) 5 (fun b => rfl) (fun b1 w2 hb3 H4 K5 hs6 => ?_)
 have nb1 : w.heap.size ≤ b1 := by have := K0.size; omega
 replace K0 := K0.t0 K5
 clear K5 hs6
 refine og 1 [(2, .slice none 0 0), (5, .slice (some ⟨b1, 0, none⟩) 0 0), (6, .slice (some a) l.length c)] 2 ?_
 have hE7 : OwnT w2 w.heap.size 43 13 HC.cells (Value.slice (some ⟨b1, 0, none⟩) 0 0) [] := own_empty2 H4 nb1
 obtain ⟨v8, w9, hr10, hO11, hK12, hg13⟩ := OwnT.app (ty := 33) HC.two HC.one tyH hE7 (Rd.keep0 (by omega) hv K0) (by first | omega | (simp only [List.length_nil]; omega)) (by first | omega | (simp only [List.length_nil]; omega)) K0.size
 obtain ⟨A15, c16, rfl⟩ := RdT.form HC.two (by decide) (OwnT.rd hO11)
 have K14 := hK12
 refine ogo (Value.slice A15 (([] ++ l).length) c16) 7 (Runs.append (ts := #[33, 33]) (ty := 33) (vs := [(Value.slice (some ⟨b1, 0, none⟩) 0 0), (Value.slice (some a) l.length c)]) (by kernel_rfl) hr10) rfl ?_
 replace K0 := K0.trans K14 (U := none_) (fun i h1 h2 => h2) (fun i h1 h2 => by have h2 : Ow (.slice (some ⟨b1, 0, none⟩) 0 0) i := h2; exfalso; have := (World.ownsRow.lt hE7 i h2).1; omega)
 clear hE7
 clear K14 hr10 hK12 hg13
 refine ogd 1 [(2, (Value.slice A15 (([] ++ l).length) c16))] ?_
 refine qtQ ?_
 refine ⟨(Value.slice A15 (([] ++ l).length) c16), retv_tmp rfl rfl, ?_⟩
 exact ⟨_, rfl, K0, hO11⟩
theorem CloneH_calls (w : World) (A : Option Addr) (c : Nat) (l : List HC) (hv : RdT w 13 HC.cells (.slice A l.length c) l) (hl : l.length ≤ 2000) : Calls Tryd.prog 43 ⟨[.slice A l.length c]⟩ w (fun e w' => ∃ A' c', e = .returned (.slice A' l.length c') ∧ Keeps none_ w w' ∧ OwnT w' w.heap.size 43 13 HC.cells (.slice A' l.length c') l) := by
 cases A with
 | none =>
  refine (CloneH_nil w l.length c).mono ?_
  rintro e w' ⟨he, hk⟩
  have h0 : l = [] := by have h1 := Rd.none_nil2 hv; cases l with | nil => rfl | cons x l => simp [HC.cells] at h1
  subst h0
  exact ⟨none, 0, he, hk, OwnT.nil _ _ _ _ _⟩
 | some a =>
  refine (CloneH_some w a c l hv hl).mono ?_
  rintro e w' ⟨v', he, hk, hO⟩
  rw [List.nil_append] at hO
  obtain ⟨A', c', rfl⟩ := RdT.form HC.two (by decide) (OwnT.rd hO)
  exact ⟨A', c', he, hk, hO⟩
theorem RecCalls_nil (w : World)   : Calls Tryd.prog 26 ⟨[(Value.pointer none)]⟩ w (fun e w' => e = .returned (.slice none 0 0) ∧ Keeps none_ w w') := by
 have K0 : Keeps none_ w w := Keeps.refl w
 refine q_calls Tryd.func26 (by kernel_rfl) (by kernel_rfl) ?_
 refine qsg ?_
 refine odz 1 ?_
 refine qs ?_
 refine qsg ?_
 refine ogd 2 [(0, .pointer none), (2, .slice none 0 0), (6, .bool true)] ?_
 refine q_then (o := .tmp 6) (by kernel_rfl) rfl ?_
 refine qsg ?_
 refine ogd 1 [(0, .pointer none), (2, .slice none 0 0)] ?_
 refine qtQ ?_
 refine ⟨(Value.slice none 0 0), retv_tmp rfl rfl, ?_⟩
 exact ⟨rfl, K0⟩
set_option maxHeartbeats 1000000 in
theorem RecCalls_calls (w : World) (F : Nat → Prop) (d : Nat) (l : List HC) (A : Option Addr) (c : Nat) (T : Nat → Prop) (now : Nat) (Hd : Has w d (rowL [(Value.slice A l.length c), i64 ((now : Nat) : Int)] 103)) (hO : OwnT w 0 43 13 HC.cells ((Value.slice A l.length c)) l) (hR : RowsE w HC.rv HC.rows T l) (hT7 : ∀ i, T i → i ≠ d ∧ F i) (hV7 : ∀ i, ((Value.slice A l.length c)).ownBlock = some i → i ≠ d ∧ F i ∧ ¬ T i) (hFd : F d) (hFl : ∀ i, F i → i < w.heap.size) (h20 : l.length ≤ 2000) (hzl : ∀ x ∈ l, x.c.rep.rows.length * 24 ≤ 140737488351232) : Calls Tryd.prog 26 ⟨[(ptr d)]⟩ w (fun e w' => ∃ (o : List HC) (A' : Option Addr) (c' : Nat), e = .returned (.slice A' o.length c') ∧ Keeps none_ w w' ∧ RdT w' 13 HC.cells (.slice A' o.length c') o ∧ (∀ x ∈ o, RdR w' (HC.rv x) (HC.rows x)) ∧ o.map HC.c = l.map HC.c) := by
 have Hdl := Hd.lt
 have hcap := RdT.len HC.two (by decide) (OwnT.rd hO)
 have K0 : Keeps none_ w w := Keeps.refl w
 refine q_calls Tryd.func26 (by kernel_rfl) (by kernel_rfl) ?_
 refine qsg ?_
 refine odz 1 ?_
 refine qs ?_
 refine qsg ?_
 refine ogd 2 [(0, ptr d), (2, .slice none 0 0), (6, .bool false)] ?_
 refine q_else (o := .tmp 6) (by kernel_rfl) rfl ?_
 refine qkQ ?_
 refine qsg ?_
 refine og 3 [(2, .slice none 0 0), (9, ptr d)] 3 ?_
 refine ogo (Value.slice A l.length c) 10 (rld 33 d 0 Hd) rfl ?_
 refine ocQ 11 (CloneH_calls _ A c l (OwnT.rd hO) (by omega)) ?_
 rintro _ w3 ⟨A1, c2, rfl, K4, hO5⟩
 have O6 := own_base hO5 (K0.size)
 refine ⟨_, _, rfl, rfl, ?_⟩
 replace K0 := K0.t0 K4
 replace hR := RowsE.keep hR K4 (fun _ _ h => h)
 clear K4
 refine odz 1 ?_
 refine qs ?_
 refine qsg ?_
 refine ogd 3 [(2, .slice none 0 0), (3, .slice A1 l.length c2), (13, i64 ↑l.length), (14, i64 0)] ?_
 refine q_block (id := 0) (by kernel_rfl) ?_
 refine q_keep (R := [(2, .slice none 0 0), (3, .slice A1 l.length c2), (13, i64 ↑l.length), (14, i64 0)]) (by kernel_rfl) ?_
 refine q_loop (fun (gs : Nat × (List HC) × (Nat → Prop)) L (wx : World) => match gs with | (ii, o9, T9) => L = [(2, (Value.slice none 0 0)), (3, (Value.slice A1 o9.length c2)), (13, (i64 ((l.length : Nat) : Int))), (14, (i64 ((ii : Nat) : Int)))] ∧ OwnT wx w.heap.size 43 13 HC.cells ((Value.slice A1 o9.length c2)) o9 ∧ o9.map HC.c = l.map HC.c ∧ RowsE wx HC.rv HC.rows T9 o9 ∧ (∀ i, Ow (.slice A1 o9.length c2) i → T9 i → False) ∧ ii ≤ o9.length ∧ Keeps none_ w wx) (fun (gs : Nat × (List HC) × (Nat → Prop)) => match gs with | (ii, o9, T9) => o9.length - ii) (0, l, T) (by kernel_rfl) ⟨rfl, O6, rfl, hR, (fun i h1 h2 => by have := (World.ownsRow.lt O6 i h1).1; have := hFl i (hT7 i h2).2; omega), Nat.zero_le _, K0⟩ ?_
 clear hO hR O6 K0
 rintro ⟨ii, o9, T9⟩ _ w11 ⟨rfl, hOV, hm, hRT9, hTV9, hi, K12⟩
 have hol : o9.length = l.length := by have := congrArg List.length hm; simpa only [List.length_map] using this
 refine qsg ?_
 refine ogd 1 [(2, .slice none 0 0), (3, .slice A1 o9.length c2), (13, i64 ↑l.length), (14, i64 ↑ii), (15, (Value.bool (decide (((ii : Nat) : Int) < ((l.length : Nat) : Int)))))] ?_
 refine qs ?_
 refine qcQ 15 (decide (((ii : Nat) : Int) < ((l.length : Nat) : Int))) rfl (fun h13 => ?_) (fun h13 => ?_)
 ·rw [h13]
  have p14 := of_decide_eq_true h13
  obtain ⟨y, hy⟩ : ∃ y, o9[ii]? = some y := ⟨_, List.getElem?_eq_getElem (by omega)⟩
  have hz : y.c.rep.rows.length * 24 ≤ 140737488351232 := of_map (P := fun c => c.rep.rows.length * 24 ≤ 140737488351232) hm (fun c hc => by obtain ⟨z, hz, rfl⟩ := List.mem_map.1 hc; exact hzl z hz) y (List.mem_of_getElem? hy)
  obtain ⟨gb, pre, suf, hA, hgb, hp, HX0, hput⟩ := OwnT.mid HC.two (by decide) hy hOV
  have ngb : w.heap.size ≤ gb := hgb
  have HX : Has w11 gb (rowL (pre ++ (HC.cells y) ++ suf) 43) := HX0
  clear HX0
  have Hgl := HX.lt
  have hTg : ∀ i, T9 i → i ≠ gb := fun i hi q => hTV9 gb (by rw [hA]; rfl) (q ▸ hi)
  refine qkQ ?_
  refine qs ?_
  refine q_block (id := 1) (by kernel_rfl) ?_
  refine qsg ?_
  refine ogd 2 [(2, .slice none 0 0), (3, .slice A1 o9.length c2), (4, i64 ↑ii), (13, i64 ↑l.length), (14, i64 ↑ii)] ?_
  refine qg ?_
  refine og 4 [(2, .slice none 0 0), (3, .slice A1 o9.length c2), (13, i64 ↑l.length), (14, i64 ↑ii), (17, .slice A1 o9.length c2), (18, i64 ↑ii), (19, .slice A1 o9.length c2), (20, i64 ↑ii)] 4 ?_
  refine Ops.go (by kernel_rfl) (Runs.ixSliceE (k := IntKind.i64) (t := 33) (len := o9.length) (cap := c2) (s := 13) (off' := ii * 13) (i := ((ii : Nat) : Int)) hA (by kernel_rfl) (by kernel_rfl) (by omega) (by omega) (by omega)) (d := (some 21)) (by kernel_rfl) rfl ?_
  refine og 2 [(2, .slice none 0 0), (3, .slice A1 o9.length c2), (13, i64 ↑l.length), (14, i64 ↑ii), (17, .slice A1 o9.length c2), (18, i64 ↑ii), (23, .pointer (some ⟨gb, ii * 13 + 10 + 2, none⟩))] 7 ?_
  refine ogo (Value.slice y.A y.c.rep.rows.length y.k) 24 (Runs.load (t := 26) (a := ⟨gb, ii * 13 + 10 + 2, none⟩) (by kernel_rfl) (HX.loads (loadC1 (by kernel_rfl) (mid1 (k := 12) (by have := hp; omega) (by kernel_rfl))))) rfl ?_
  refine ocQ 25 (CloneR_calls _ y.A y.k y.c.rep.rows (hRT9.1 y (List.mem_of_getElem? hy)) (by omega)) ?_
  rintro _ w17 ⟨A15, c16, rfl, K18, hO19⟩
  have ob21 : ∀ i, Ow (.slice A15 y.c.rep.rows.length c16) i → i ≠ gb := fun i hi => by have := (World.ownsRow.lt hO19 i hi).1; have := HX.lt; omega
  have O20 := own_base hO19 (K12.size)
  refine ⟨_, _, rfl, rfl, ?_⟩
  replace K12 := K12.tn K18
  replace HX := HX.kn K18
  replace hRT9 := RowsE.keep hRT9 K18 (fun _ _ h => h)
  refine Ops.go (by kernel_rfl) (Runs.ixSliceE (k := IntKind.i64) (t := 33) (len := o9.length) (cap := c2) (s := 13) (off' := ii * 13) (i := ((ii : Nat) : Int)) hA (by kernel_rfl) (by kernel_rfl) (by omega) (by omega) (by omega)) (d := (some 26)) (by kernel_rfl) rfl ?_
  refine og 2 [(2, .slice none 0 0), (3, .slice A1 o9.length c2), (13, i64 ↑l.length), (14, i64 ↑ii), (25, .slice A15 y.c.rep.rows.length c16), (28, .pointer (some ⟨gb, ii * 13 + 10 + 2, none⟩))] 12 ?_
  refine Ops.put (t := 26) (b := gb) (off := ii * 13 + 10 + 2) (v := (Value.slice A15 y.c.rep.rows.length c16)) (ys := (pre ++ [(i64 y.c.op.kind), (Value.string (str y.c.op.frm)), (Value.string (str y.c.op.to)), (i64 y.c.op.amount), (Value.string (str y.c.op.key)), (i64 y.c.op.slot), (i64 y.c.op.shard), (i64 y.c.bg), (i64 y.c.en), (Value.bool y.c.told), (i64 y.c.rep.why), (i64 y.c.rep.amount), (Value.slice A15 y.c.rep.rows.length c16)] ++ suf)) (by kernel_rfl) (by kernel_rfl) HX (storeC1 (by kernel_rfl) (by kernel_rfl) (Nat.lt_of_lt_of_le (Nat.lt_succ_self _) (mid_len (vs := [(Value.slice A15 y.c.rep.rows.length c16)]) (k := 12) (by have := hp; omega) (Nat.le_of_ble_eq_true (by kernel_rfl)))) (mid_set1 (k := 12) (by have := hp; omega) (Nat.le_of_ble_eq_true (by kernel_rfl)))) (d := none) (by kernel_rfl) rfl (fun w23 H24 K25 => ?_)
  clear HX
  replace K12 := K12.t1 K25 fun _ => by omega
  replace hRT9 := RowsE.keep hRT9 K25 (fun i hi hs => by have hs : i = gb := hs; have := hTg i hi; omega)
  replace O20 := own_keep O20 K25 (fun i hi => by have := ob21 i hi; omega)
  refine od ?_
  refine qg ?_
  refine og 1 [(2, .slice none 0 0), (3, .slice A1 o9.length c2), (13, i64 ↑l.length), (14, i64 ↑ii), (29, (i64 (IntKind.i64.wrap (((ii : Nat) : Int) + 1))))] 1 ?_
  rw [show IntKind.i64.wrap (((ii : Nat) : Int) + 1) = ((ii + 1 : Nat) : Int) from by rw [wrap_i64 (by omega) (by omega)]; omega]
  refine og 1 [(2, .slice none 0 0), (3, .slice A1 o9.length c2), (13, i64 ↑l.length), (14, i64 ↑(ii + 1))] 2 ?_
  rw [show Value.slice A1 o9.length c2 = Value.slice A1 (o9.set ii (⟨y.c, A15, c16⟩ : HC)).length c2 from by rw [List.length_set]]
  refine ok_ [(2, .slice none 0 0), (3, (Value.slice A1 ((o9.set ii (⟨y.c, A15, c16⟩ : HC)).length) c2)), (13, i64 ↑l.length), (14, i64 ↑(ii + 1))] ?_
  refine od ?_
  exact ⟨(ii + 1, (o9.set ii (⟨y.c, A15, c16⟩ : HC)), (fun i => T9 i ∨ (HC.rows (⟨y.c, A15, c16⟩ : HC) ≠ [] ∧ (HC.rv (⟨y.c, A15, c16⟩ : HC)).ownBlock = some i))), ⟨rfl, (by rw [List.length_set]; exact hput (⟨y.c, A15, c16⟩ : HC) _ H24), (by rw [List.map_set, ← hm]; exact set_same (by rw [List.getElem?_map, hy]; rfl)), (RowsE.set (y := (⟨y.c, A15, c16⟩ : HC)) hRT9 (OwnT.rd O20) (fun _ i hi => (World.ownsRow.lt O20 i hi).2)), (fun i hi h => by rw [List.length_set] at hi; exact h.elim (hTV9 i hi) (fun h => by rw [hA] at hi; cases hi; exact ob21 gb h.2 rfl)), (by rw [List.length_set]; omega), K12⟩, (show (o9.set ii (⟨y.c, A15, c16⟩ : HC)).length - (ii + 1) < o9.length - ii from by rw [List.length_set]; omega)⟩
 ·rw [h13]
  have p27 := of_decide_eq_false h13
  refine q_exit (id := 0) (by kernel_rfl) ?_
  refine qsg ?_
  refine ogd 2 [(2, .slice A1 o9.length c2)] ?_
  refine qtQ ?_
  refine ⟨(Value.slice A1 o9.length c2), retv_tmp rfl rfl, ?_⟩
  exact ⟨o9, A1, c2, rfl, K12, OwnT.rd hOV, hRT9.1, hm⟩
end Go.Proofs.YtnbcghbgeiocbaaDoor
namespace Go.Q
open Go.RowKit
def bB (b : Bool) : List Value := [.bool b]
def mkS? (L : Loc) (o : Oper) : Option (TypeId × Value × Value) :=
 match o.op with
 | .makeSlice t x y => some (t, ev L x, ev L y)
 | _ => none
def bools (l : List Bool) : List Value := l.flatMap bB
end Go.Q
namespace Go.Q
open Go.RowKit
def undR (n : Nat) (ds : List Bool) : Nat := (List.range n).countP fun i => !ds.getD i false
def updR (n : Nat) (ds : List Bool) (i : Nat) : List Bool := (List.range n).map fun j => ds.getD j false || decide (j = i)
def tryV (l : List HCall) (ds : List Bool) (left : Int) (s : LS_) (o : List Nat) : Option (List Nat) := tryR l (undR l.length ds) ds left s o
def waitV (l : List HCall) (ds : List Bool) (i : Nat) (c : HCall) : Bool := (List.range l.length).any fun j => match l[j]? with | some d => !ds.getD j false && decide (j ≠ i) && countsH d && aheadH d c | none => false
def nextV (l : List HCall) (ds : List Bool) (left : Int) (s : LS_) (o : List Nat) (i : Nat) : Option (List Nat) := match l[i]? with
 | none => none
 | some c => if ds.getD i false || !countsH c then none
  else if waitV l ds i c then none
  else match stepH c s with
   | none => none
   | some s' => tryV l (updR l.length ds i) (if c.told then left - 1 else left) s' (o ++ [i])
end Go.Q
namespace Go.Q
open Go.RowKit
section
variable {M : List HCall} {ds : List Bool} {left : Int} {s s' : LS_} {o : List Nat} {i : Nat} {c : HCall}
def askV (M : List HCall) (ds : List Bool) (i : Nat) (c : HCall) (j : Nat) : Bool := match M[j]? with | some d => !ds.getD j false && decide (j ≠ i) && countsH d && aheadH d c | none => false
end
def fillR (n : Nat) (ds : List Bool) (i j : Nat) : List Bool := (List.range n).map fun q => if q < j then (ds.getD q false || decide (q = i)) else false
end Go.Q
namespace Go.Q
open Go.RowKit
def cntL (M : List HCall) (i : Nat) : Nat := (M.take i).countP countsH
def cntT (M : List HCall) (i : Nat) : Nat := (M.take i).countP fun c => countsH c && c.told
def anyB (M : List HCall) (i : Nat) : Bool := (M.take i).any fun c => countsH c && (c.told && decide (c.en < c.bg))
section
variable {M : List HCall} {i : Nat} {c : HCall}
end
theorem map_at {o l : List HC} (h : o.map HC.c = l.map HC.c) {i : Nat} {z x : HC} (hz : o[i]? = some z) (hx : l[i]? = some x) : z.c = x.c := by
 have e := congrArg (fun m => m[i]?) h
 simp only [List.getElem?_map, hz, hx] at e
 exact Option.some.inj e
end Go.Q
namespace Go.Proofs.YtnbcghbgeiocbaaDoor
open Go.Q Go.RowKit
theorem RecBegin_yes (w : World) (F : Nat → Prop) (d now : Nat) (q : List HC) (o : Opm) (h : RecP w F d 103 43 (q.map HC.c) now) (hnw : now ≤ 1000000) (h2 : ¬ 2000 ≤ q.length) : Calls Tryd.prog 25 ⟨[ptr d, (agg (Opm.cells o))]⟩ w (fun e w' => ∃ F2, e = .returned (i64 ((q.length : Nat) : Int)) ∧ Keeps F w w' ∧ RecP w' F2 d 103 43 ((q ++ [(⟨⟨o, ((now + 1 : Nat) : Int), 0, false, ⟨0, 0, []⟩⟩, none, 0⟩ : HC)]).map HC.c) (now + 1) ∧ ∀ i, F2 i → F i ∨ w.heap.size ≤ i) := by
 obtain ⟨l, A, c, T, hl, Hd, hO, hR, hT7, hV7, hFd, hFl, h20⟩ := h
 rw [← hl, List.length_map] at h20
 refine (RecBegin_calls w F d l A c T now o Hd hO hR hT7 hV7 hFd hFl h20 hnw).mono ?_
 rintro e w' ⟨he, hk, hD⟩
 rw [hl] at he hD
 have e := begH_yes (ms := q.map HC.c) (now := now) (o := o) (by rw [List.length_map]; exact h2)
 rw [e] at he hD
 exact ⟨_, by rw [he, List.length_map], hk, by rw [List.map_append]; exact hD, fun i h => And.left h⟩
theorem RecBegin_no (w : World) (F : Nat → Prop) (d now : Nat) (q : List HC) (o : Opm) (h : RecP w F d 103 43 (q.map HC.c) now) (hnw : now ≤ 1000000) (h2 : 2000 ≤ q.length) : Calls Tryd.prog 25 ⟨[ptr d, (agg (Opm.cells o))]⟩ w (fun e w' => ∃ F2, e = .returned (i64 (-1)) ∧ Keeps F w w' ∧ RecP w' F2 d 103 43 (q.map HC.c) now ∧ ∀ i, F2 i → F i ∨ w.heap.size ≤ i) := by
 obtain ⟨l, A, c, T, hl, Hd, hO, hR, hT7, hV7, hFd, hFl, h20⟩ := h
 rw [← hl, List.length_map] at h20
 refine (RecBegin_calls w F d l A c T now o Hd hO hR hT7 hV7 hFd hFl h20 hnw).mono ?_
 rintro e w' ⟨he, hk, hD⟩
 rw [hl] at he hD
 have e := begH_no (ms := q.map HC.c) (now := now) (o := o) (by rw [List.length_map]; exact h2)
 rw [e] at he hD
 exact ⟨_, he, hk, hD, fun i h => And.left h⟩
theorem RecTold_no2 (w : World) (F : Nat → Prop) (d now : Nat) (q : List HC) (n : Int) (why amount : Int) (V : Option Addr) (rc : Nat) (rs : List RowM) (h : RecP w F d 103 43 (q.map HC.c) now) (hnw : now ≤ 1000000) (hV : RdR w (.slice V rs.length rc) rs) (hVF : rs ≠ [] → ∀ i, (Value.slice V rs.length rc).ownBlock = some i → ¬ F i) (hz : rs.length * 24 ≤ 140737488351232) (hn : n < 0 ∨ (q.length : Int) ≤ n) : Calls Tryd.prog 24 ⟨[ptr d, i64 n, (agg [(i64 why), (i64 amount), (Value.slice V rs.length rc)])]⟩ w (fun e w' => ∃ F2, e = .returned (.bool false) ∧ Keeps F w w' ∧ RecP w' F2 d 103 43 (q.map HC.c) now ∧ ∀ i, F2 i → F i ∨ w.heap.size ≤ i) := by
 obtain ⟨l, A, c, T, hl, Hd, hO, hR, hT7, hV7, hFd, hFl, h20⟩ := h
 rw [← hl, List.length_map] at h20
 have hlq : l.length = q.length := by have := congrArg List.length hl; simpa only [List.length_map] using this
 refine (RecTold_out w F d l A c T now n why amount V rc rs Hd hO hR hT7 hV7 hFd hFl h20 hV hVF hz hnw (by omega)).mono ?_
 rintro e w' ⟨he, hk, hD⟩
 rw [hl] at he hD
 rw [tldH_out (by rw [List.length_map]; omega)] at he hD
 exact ⟨_, he, hk, hD, fun i h => And.left h⟩
theorem RecTold_is2 (w : World) (F : Nat → Prop) (d now : Nat) (q : List HC) (n : Int) (why amount : Int) (V : Option Addr) (rc : Nat) (rs : List RowM) (h : RecP w F d 103 43 (q.map HC.c) now) (hnw : now ≤ 1000000) (hV : RdR w (.slice V rs.length rc) rs) (hVF : rs ≠ [] → ∀ i, (Value.slice V rs.length rc).ownBlock = some i → ¬ F i) (hz : rs.length * 24 ≤ 140737488351232) (k : Nat) (x : HC) (hk : n = ((k : Nat) : Int)) (hx : q[k]? = some x) (hs : x.c.told = true) : Calls Tryd.prog 24 ⟨[ptr d, i64 n, (agg [(i64 why), (i64 amount), (Value.slice V rs.length rc)])]⟩ w (fun e w' => ∃ F2, e = .returned (.bool false) ∧ Keeps F w w' ∧ RecP w' F2 d 103 43 (q.map HC.c) now ∧ ∀ i, F2 i → F i ∨ w.heap.size ≤ i) := by
 obtain ⟨l, A, c, T, hl, Hd, hO, hR, hT7, hV7, hFd, hFl, h20⟩ := h
 rw [← hl, List.length_map] at h20
 have hlq : l.length = q.length := by have := congrArg List.length hl; simpa only [List.length_map] using this
 obtain ⟨z, hz2⟩ : ∃ z, l[k]? = some z := ⟨_, List.getElem?_eq_getElem (by have := (List.getElem?_eq_some_iff.1 hx).1; omega)⟩
 have hzx : z.c = x.c := map_at hl hz2 hx
 subst hk
 refine (RecTold_is w F d l A c T now k z why amount V rc rs Hd hO hR hT7 hV7 hFd hFl h20 hV hVF hz hnw hz2 (by rw [hzx]; exact hs)).mono ?_
 rintro e w' ⟨he, hk, hD⟩
 rw [hl] at he hD
 rw [tldH_is hx hs] at he hD
 exact ⟨_, he, hk, hD, fun i h => And.left h⟩
theorem RecTold_in2 (w : World) (F : Nat → Prop) (d now : Nat) (q : List HC) (n : Int) (why amount : Int) (V : Option Addr) (rc : Nat) (rs : List RowM) (h : RecP w F d 103 43 (q.map HC.c) now) (hnw : now ≤ 1000000) (hV : RdR w (.slice V rs.length rc) rs) (hVF : rs ≠ [] → ∀ i, (Value.slice V rs.length rc).ownBlock = some i → ¬ F i) (hz : rs.length * 24 ≤ 140737488351232) (k : Nat) (x : HC) (hk : n = ((k : Nat) : Int)) (hx : q[k]? = some x) (hs : x.c.told = false) : Calls Tryd.prog 24 ⟨[ptr d, i64 n, (agg [(i64 why), (i64 amount), (Value.slice V rs.length rc)])]⟩ w (fun e w' => ∃ F2, e = .returned (.bool true) ∧ Keeps F w w' ∧ RecP w' F2 d 103 43 ((q.set k (⟨⟨x.c.op, x.c.bg, ((now + 1 : Nat) : Int), true, ⟨why, amount, rs⟩⟩, V, rc⟩ : HC)).map HC.c) (now + 1) ∧ ∀ i, F2 i → F i ∨ w.heap.size ≤ i) := by
 obtain ⟨l, A, c, T, hl, Hd, hO, hR, hT7, hV7, hFd, hFl, h20⟩ := h
 rw [← hl, List.length_map] at h20
 have hlq : l.length = q.length := by have := congrArg List.length hl; simpa only [List.length_map] using this
 obtain ⟨z, hz2⟩ : ∃ z, l[k]? = some z := ⟨_, List.getElem?_eq_getElem (by have := (List.getElem?_eq_some_iff.1 hx).1; omega)⟩
 have hzx : z.c = x.c := map_at hl hz2 hx
 subst hk
 refine (RecTold_in w F d l A c T now k z why amount V rc rs Hd hO hR hT7 hV7 hFd hFl h20 hV hVF hz hnw hz2 (by rw [hzx]; exact hs)).mono ?_
 rintro e w' ⟨he, hk, hD⟩
 rw [hl] at he hD
 rw [tldH_in (A := V) (c := rc) hx hs] at he hD
 exact ⟨_, he, hk, hD, fun i h => And.left h⟩
theorem RecCalls_all (w : World) (F : Nat → Prop) (d now : Nat) (q : List HC) (h : RecP w F d 103 43 (q.map HC.c) now) (hz : ∀ x ∈ q, x.c.rep.rows.length * 24 ≤ 140737488351232) : Calls Tryd.prog 26 ⟨[ptr d]⟩ w (fun e w' => ∃ (o : List HC) (A' : Option Addr) (c' : Nat), e = .returned (.slice A' o.length c') ∧ Keeps none_ w w' ∧ RdT w' 13 HC.cells (.slice A' o.length c') o ∧ (∀ x ∈ o, RdR w' (HC.rv x) (HC.rows x)) ∧ o.map HC.c = q.map HC.c) := by
 obtain ⟨l, A, c, T, hl, Hd, hO, hR, hT7, hV7, hFd, hFl, h20⟩ := h
 rw [← hl, List.length_map] at h20
 refine (RecCalls_calls w F d l A c T now Hd hO hR hT7 hV7 hFd hFl h20 (map_all (P := fun c => c.rep.rows.length * 24 ≤ 140737488351232) hl hz)).mono ?_
 rintro e w' ⟨o, A', c', he, hk, h1, h2, h3⟩
 exact ⟨o, A', c', he, hk, h1, h2, h3.trans hl⟩
end Go.Proofs.YtnbcghbgeiocbaaDoor
