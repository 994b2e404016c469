/- What the claim stands on, part 14: rules of the walk, contracts of the functions, plain laws. -/
import Derived.Test.YtnbcghbgeiocbaaDoorKHRecords11
import Derived.Test.YtnbcghbgeiocbaaDoorKHRecords13
import Derived.Shelf.SlicesE.Index
import Derived.Test.YtnbcghbgeiocbaaDoorKHRecords12
import Derived.Test.YtnbcghbgeiocbaaDoorKHRecords10
import Derived.Test.YtnbcghbgeiocbaaDoorKHRecords4
import Derived.Test.YtnbcghbgeiocbaaDoorProg
import Derived.Test.YtnbcghbgeiocbaaDoorKHRecords6
import Derived.Test.YtnbcghbgeiocbaaDoorKHRecords8
import Derived.Test.YtnbcghbgeiocbaaDoorKHRecords9
set_option linter.unusedVariables false
namespace Go.Q
open Go.RowKit
def kone (x : Int) : List Value := [i64 x]
def mayL (k : Int) : List Int := if k = 1 then [41, 45] else if k = 2 then [40, 43, 45] else if k = 3 then [40, 42, 45] else if k = 4 then [40, 42, 43, 45] else if k = 5 then [40] else []
def AdjP (l : List RowM) (j : Nat) : Prop := ∀ x, l[j]? = some x → 0 ≤ x.amount ∧ ∀ y, 0 < j → l[j - 1]? = some y → y.name < x.name
def AscP (l : List RowM) : Prop := ∀ j, j < l.length → AdjP l j
def FitsP (o : Opm) (r : ReplyM) : Prop :=
 if wrongE o ≠ 0 then r.why = wrongE o ∧ r.amount = 0 ∧ r.rows.length = 0
 else if r.why ≠ 0 then r.why ∈ mayL o.kind ∧ r.amount = 0 ∧ r.rows.length = 0
 else if o.kind = 5 then 0 ≤ r.amount ∧ r.rows.length = 0
 else if o.kind ≠ 6 then r.amount = 0 ∧ r.rows.length = 0
 else r.amount = 0 ∧ AscP r.rows
theorem AscP.zero {l : List RowM} (h : l.length = 0) : AscP l := fun j hj => absurd hj (by omega)
def MayK (K : List KeptM) : Prop := ∀ k ∈ K, k.why = 0 ∨ k.why ∈ mayL k.op.kind
theorem MayK.nil : MayK [] := fun k h => by cases h
end Go.Q
namespace Go.Q
open Go.RowKit
def deltaE (o : Opm) : Int := if o.kind = 2 then o.amount else if o.kind = 3 then -o.amount else 0
def SameP (a b : Opm) : Prop := a.frm = b.frm ∧ a.key = b.key ∧ a.kind = b.kind ∧ a.amount = b.amount
structure SumInv (l : List Opm) (i : Nat) (K : List KeptM) : Prop where
 came : ∀ x ∈ K, ∃ j y, j < i ∧ l[j]? = some y ∧ plainE y = x.op
 went : ∀ j y, j < i → l[j]? = some y → wrongE y = 0 → 1 ≤ y.kind ∧ y.kind ≤ 4 → findK K y.frm y.key ≠ none
theorem SumInv.nil (l : List Opm) : SumInv l 0 [] := ⟨fun x h => (by cases h), fun j y h => absurd h (Nat.not_lt_zero _)⟩
theorem SumInv.step {l : List Opm} {i : Nat} {S : List RowM} {K : List KeptM} {o : Opm} (h : SumInv l i K) (ho : l[i]? = some o) : SumInv l (i + 1) (doK S K o) := by
 refine ⟨fun x hx => ?_, fun j y hj hy hw hk => ?_⟩
 ·unfold doK at hx
  split at hx
  ·rcases List.mem_append.1 hx with hx | hx
   ·obtain ⟨j, y, h1, h2⟩ := h.came x hx; exact ⟨j, y, by omega, h2⟩
   ·rw [List.mem_singleton.1 hx]; exact ⟨i, o, by omega, ho, rfl⟩
  ·obtain ⟨j, y, h1, h2⟩ := h.came x hx; exact ⟨j, y, by omega, h2⟩
 ·have key : ∀ z, findK K y.frm y.key = some z → findK (doK S K o) y.frm y.key ≠ none := fun z hz => by rw [findK_pre (doK_pre S K o) hz]; exact fun q => by cases q
  by_cases hji : j < i
  ·cases hz : findK K y.frm y.key with
   | none => exact absurd hz (h.went j y hji hy hw hk)
   | some z => exact key z hz
  ·obtain rfl : j = i := by omega
   rw [ho] at hy
   obtain rfl := Option.some.inj hy
   cases hz : findK K o.frm o.key with
   | some z => exact key z hz
   | none =>
    have hf : Fresh K o := ⟨hw, by omega, by omega, by omega, hz⟩
    rw [show doK S K o = K ++ [⟨plainE o, actE S (plainE o)⟩] from if_pos hf]
    have e : findK (K ++ [⟨plainE o, actE S (plainE o)⟩]) o.frm o.key = some ⟨plainE o, actE S (plainE o)⟩ := findK_last (x := ⟨plainE o, actE S (plainE o)⟩) hz
    rw [e]
    exact fun q => by cases q
end Go.Q
namespace Go.Q
def heldB (O : List UInt8) : Nat := if O = [] then 0 else 1
def heldL (l : List (List UInt8 × AccV)) : Nat := (l.map fun x => heldB x.2.2).sum
end Go.Q
namespace Go.Q
def cntS (S : List AccM) (k : Nat) : Nat := (S.filter fun a => decide (slotB a.name < k)).length
def restS (S : List AccM) (k : Nat) : List AccM := S.filter fun a => decide (k ≤ slotB a.name)
end Go.Q
namespace Go.Q
section
variable {α : Type} {f : α → List Value} {sz : Nat} {P : Program} {w : World} {t e : TypeId} {A : Option Addr} {c k : Nat} {l : List α}
end
def keepS (S : List AccM) (k : Int) : List AccM := S.filter fun a => decide (((slotB a.name : Nat) : Int) ≠ k)
end Go.Q
namespace Go.Q
open Go.RowKit
def kref (x : KeptM) : List Value := [i64 x.op.kind, .string (str x.op.frm), .string (str x.op.to), i64 x.op.amount, .string (str x.op.key), i64 x.op.slot, i64 x.op.shard, i64 x.why, i64 0, .slice none 0 0]
def posW (S : List RowM) (n : List UInt8) : Nat := (S.takeWhile fun a => decide (a.name < n)).length
def hasW (S : List RowM) (n : List UInt8) : Bool := match S[posW S n]? with | some a => a.name == n | none => false
def posK (l : List KeptM) (x : KeptM) : Nat := (l.takeWhile fun y => decide (ltI y.id x.id)).length
end Go.Q
namespace Go.Proofs.YtnbcghbgeiocbaaDoor
open Go.Q Go.RowKit
end Go.Proofs.YtnbcghbgeiocbaaDoor
namespace Go.Proofs.YtnbcghbgeiocbaaDoor
open Go.Q Go.RowKit
end Go.Proofs.YtnbcghbgeiocbaaDoor
namespace Go.Proofs.YtnbcghbgeiocbaaDoor
open Go.Q Go.RowKit
end Go.Proofs.YtnbcghbgeiocbaaDoor
namespace Go.Proofs.YtnbcghbgeiocbaaDoor
open Go.Q Go.RowKit
end Go.Proofs.YtnbcghbgeiocbaaDoor
namespace Go.Proofs.YtnbcghbgeiocbaaDoor
open Go.Q Go.RowKit
theorem tyHR : ElemTy Tryd.prog 22 30 13 144 := elemTy (by kernel_rfl)
end Go.Proofs.YtnbcghbgeiocbaaDoor
namespace Go.Proofs.YtnbcghbgeiocbaaDoor
open Go.Q Go.RowKit
theorem tySt : ElemTy Tryd.prog 75 73 4 48 := elemTy (by kernel_rfl)
theorem push_calls (w : World) (s base : Nat) (A : Option Addr) (c : Nat) (l : List StC) (XA : Option Addr) (xn xc : Nat) (xs : List StC) (Hs : Has w s (rowL [(Value.slice A l.length c)] 77)) (hO : OwnT w base 73 4 StC.cells ((Value.slice A l.length c)) l) (hbs : base ≤ w.heap.size) (hVs : ∀ i, ((Value.slice A l.length c)).ownBlock = some i → i ≠ s) (hX : RdT w 4 StC.cells (.slice XA xn xc) xs) (hl : l.length + xs.length ≤ 1000000000) : Calls Tryd.prog 29 ⟨[(ptr s), (Value.slice XA xn xc)]⟩ w (fun e w' => ∃ v A' c', e = .returned v ∧ Keeps (fun i => i = s ∨ ((Value.slice A l.length c)).ownBlock = some i) w w' ∧ Has w' s (rowL [.slice A' (l ++ xs).length c'] 77) ∧ OwnT w' base 73 4 StC.cells (.slice A' (l ++ xs).length c') (l ++ xs) ∧ ∀ i, (Value.slice A' (l ++ xs).length c').ownBlock = some i → ((Value.slice A l.length c)).ownBlock = some i ∨ w.heap.size ≤ i) := by
 have Hsl := Hs.lt
 have K0 : Keeps (fun i => i = s ∨ Ow (.slice A l.length c) i) w w := (Keeps.refl w).mono (fun _ _ h => h.elim)
 refine q_calls Tryd.func29 (by kernel_rfl) (by kernel_rfl) ?_
 refine qg ?_
 refine og 4 [(1, .slice XA xn xc), (4, ptr s), (7, ptr s)] 4 ?_
 refine ogo (Value.slice A l.length c) 8 (rld 75 s 0 Hs) rfl ?_
 refine og 1 [(4, ptr s), (8, .slice A l.length c), (9, .slice XA xn xc)] 6 ?_
 obtain ⟨v1, w2, hr3, hO4, hK5, hg6⟩ := OwnT.app (ty := 75) StC.two StC.one tySt hO hX (by first | omega | (simp only [List.length_nil]; omega)) (by first | omega | (simp only [List.length_nil]; omega)) (Nat.le_trans hbs K0.size)
 obtain ⟨A8, c9, rfl⟩ := RdT.form StC.two (by decide) (OwnT.rd hO4)
 have ob10 : ∀ i, Ow (.slice A8 ((l ++ xs).length) c9) i → i ≠ s := fun i hi => by rcases hg6 i hi with h | h; (have := hVs i h; omega); (have := Hs.lt; omega)
 have K7 := hK5
 refine ogo (Value.slice A8 ((l ++ xs).length) c9) 10 (Runs.append (ts := #[75, 75]) (ty := 75) (vs := [(Value.slice A l.length c), (Value.slice XA xn xc)]) (by kernel_rfl) hr3) rfl ?_
 replace K0 := K0.trans K7 (U := (fun i => i = s ∨ Ow (.slice A l.length c) i)) (fun i h1 h2 => h2) (fun i h1 h2 => by have h2 : Ow (.slice A l.length c) i := h2; exact .inr (h2))
 replace Hs := Hs.keep K7 (by intro h; change Ow (.slice A l.length c) s at h; have := hVs s h; omega)
 clear hO
 clear hX
 clear K7 hr3 hK5
 refine og 2 [(10, (Value.slice A8 ((l ++ xs).length) c9)), (12, ptr s)] 9 ?_
 refine Ops.put (t := 75) (b := s) (off := 0) (v := (Value.slice A8 ((l ++ xs).length) c9)) (ys := [(Value.slice A8 ((l ++ xs).length) c9)]) (by kernel_rfl) (by kernel_rfl) Hs (by kernel_rfl) (d := none) (by kernel_rfl) rfl (fun w11 H12 K13 => ?_)
 clear Hs
 replace K0 := K0.t1 K13 fun _ => .inl rfl
 replace hO4 := own_keep hO4 K13 (fun i hi => by have := ob10 i hi; omega)
 refine od ?_
 refine ⟨(Value.tuple #[]), retv_none rfl, ?_⟩
 exact ⟨_, _, _, rfl, K0, H12, hO4, hg6⟩
end Go.Proofs.YtnbcghbgeiocbaaDoor
namespace Go.Q
open Go.RowKit
def TellsW (P : Program) (m : Nat) (gf : Nat) (lb : List Value) (A : Nat → Nat → Value → World → Prop) (T : Nat → Prop) (N : Nat) (w0 : World) : Prop :=
 ∀ (l : Nat) (J : Nat → World → Prop) (W : World), Keeps T w0 W → (∀ k W W', J k W → Keeps none_ W W' → J k W') →
  (∀ k v Wp W1, J k Wp → Keeps none_ Wp W1 → W.heap.size ≤ Wp.heap.size → k < N → A Wp.heap.size k v W1 → YieldAt Fence.wide m P l #[v] W1 fun e W' => e = .returned (.bool true) ∧ J (k + 1) W' ∧ Keeps T W1 W') →
  J 0 W → Calls P gf ⟨.func (.yield l) #[] #[] :: lb⟩ W fun e W' => (∃ v, e = .returned v) ∧ J N W'
theorem qr_eachW {P : Program} {m n : Nat} {Q : List Deferred → Exit → Loc → World → Prop} {L : Loc} {w : World} {f : Func} {p : List Nat} {ds : List Deferred} {g : Operand} {t : Tmp}
  (hc : isRange (cd f p) = some (g, #[t])) (h1 : 1 ≤ m) {gf : Nat} {lb : List Value} (hg : evo L g = some (.func (.func gf) #[] ⟨lb⟩)) (eg : ∀ args w, (callFunc gf args).run P w = .ok (.enter gf args) w)
  {A : Nat → Nat → Value → World → Prop} {T : Nat → Prop} {N : Nat} {w0 : World} (hseq : TellsW P (m - 1 - 1) gf lb A T N w0) (hT : ∀ i, w.heap.size ≤ i → T i) (hw0 : Keeps T w0 w)
  (I : Nat → World → Prop) (hI : ∀ k W W', I k W → Keeps (fun i => i = w.heap.size ∨ i = w.heap.size + 1) W W' → I k W') (hA : ∀ b k v W W', w.heap.size + 2 ≤ b → A b k v W → Keeps (fun i => i = w.heap.size ∨ i = w.heap.size + 1) W W' → A b k v W') (h0 : I 0 w) (La : Value → Loc) (hLa : ∀ v, setL n (some t) v L = some (La v))
  (Ax : Nat → Value → Loc → World → Prop) (hAx : ∀ b v L W W', w.heap.size + 2 ≤ b → Ax b v L W → Keeps (fun i => i = w.heap.size ∨ i = w.heap.size + 1) W W' → Ax b v L W')
  (hassign : ∀ (l b k : Nat) (v : Value) (W : World), k < N → A b k v W → w.heap.size + 2 ≤ b → b ≤ W.heap.size → wpR (Fence.wide.inRound l) P (m - 1 - 1) n (cd f (0 :: p)) (fun ds e L' W' => e = .normal ∧ ds = [] ∧ Keeps none_ W W' ∧ Ax b v L' W') [] (La v) W)
  (hbody : ∀ (l k : Nat) (v : Value) (L1 : Loc) (Wp W : World), I k Wp → Keeps (fun i => i = w.heap.size ∨ i = w.heap.size + 1) Wp W → w.heap.size + 2 ≤ Wp.heap.size → k < N → A Wp.heap.size k v W → Ax Wp.heap.size v L1 W → wpR (Fence.wide.inRound l) P (m - 1 - 1) n (cd f (1 :: p)) (fun _ e _ W' => e = .normal ∧ KeepsFrom w.heap.size W W' ∧ Keeps T W W' ∧ I (k + 1) W') [] L1 W)
  (hdone : ∀ (D : Nat) (W : World), w.heap.size ≤ D → I N W → W.heap[D]? = some (.deferred (some [])) → Q ({ target := .collected D, args := #[] } :: ds) .normal L W) :
  wpR Fence.wide P m n (cd f p) Q ds L w := by
 intro a ha
 simp only [cd] at hassign hbody
 cases e : cd f p with
 | rangeFunc g' ps assign body =>
  rw [e] at hc hassign hbody
  simp only [isRange, Option.some.injEq, Prod.mk.injEq] at hc
  obtain ⟨rfl, rfl⟩ := hc
  simp only [sub] at hassign hbody
  refine wpIn_rangeFunc fun fn hfn => ?_
  obtain ⟨rec, hrec⟩ : ∃ rec : LoopState → Loop, rec = fun st => { state := st, pending := none, fn, tmps := (wd ds a).tmps, params := #[t], assign, body, defers := w.heap.size } := ⟨_, rfl⟩
  have hev : (wd ds a).eval g' = .func (.func gf) #[] ⟨lb⟩ := ha.ev hg
  obtain ⟨W1, hW1⟩ : ∃ W1, (w.alloc (.deferred (some []))).alloc (.loop (rec .ready)) = W1 := ⟨_, rfl⟩
  have hK1 : Keeps none_ w W1 := by rw [← hW1]; exact (Keeps.alloc w _).trans (Keeps.alloc _ _) (fun _ _ h => h) (fun _ _ h => h)
  have hl1 : W1.heap[w.heap.size + 1]? = some (.loop (rec .ready)) := by
   rw [← hW1]; have := World.alloc_heap_new (w.alloc (.deferred (some []))) (.loop (rec .ready)); rwa [World.size_alloc] at this
  have hd1 : W1.heap[w.heap.size]? = some (.deferred (some [])) := by
   rw [← hW1]; exact ((Keeps.alloc (w.alloc (.deferred (some []))) (.loop (rec .ready))).blk _ (by simp) (fun h => h)).trans (World.alloc_heap_new w _)
  refine ⟨w.heap.size + 1, [{ target := .collected w.heap.size, args := #[] }], W1, { target := .fn (.func gf) ⟨lb⟩, args := #[.func (.yield (w.heap.size + 1)) #[] #[]] }, W1, gf,
   #[.func (.yield (w.heap.size + 1)) #[] #[]] ++ ⟨lb⟩, W1, ?_, ?_, fun f' hf' => True.intro, ?_, fun _ => h1, ?_⟩
  ·rw [← hW1, hrec]; exact run_enterLoop_outer _ _ _ _ _
  ·simp only [resolve, hev]
   simp [go_sem]
  ·simp [invoke, go_sem, eg]
  ·refine callsIn_wide.2 ?_
   have hs1 : W1.heap.size = w.heap.size + 2 := by rw [← hW1]; simp
   have harr : (#[.func (.yield (w.heap.size + 1)) #[] #[]] ++ ⟨lb⟩ : Array Value) = ⟨.func (.yield (w.heap.size + 1)) #[] #[] :: lb⟩ := by simp
   rw [harr]
   refine (hseq (w.heap.size + 1) (fun k W => I k W ∧ W.heap[w.heap.size + 1]? = some (.loop (rec .ready)) ∧ W.heap[w.heap.size]? = some (.deferred (some []))) _
    (hw0.trans hK1 (fun _ _ h => h) (fun _ _ h => h.elim)) ?_ ?_ ⟨hI 0 _ _ h0 (hK1.mono fun _ _ h => h.elim), hl1, hd1⟩).mono ?_
   ·rintro k W W' ⟨hi, hl, hd⟩ hk
    exact ⟨hI _ _ _ hi (hk.mono fun _ _ h => h.elim), (hk.blk _ (Array.getElem?_eq_some_iff.1 hl).1 (fun h => h)).trans hl, (hk.blk _ (Array.getElem?_eq_some_iff.1 hd).1 (fun h => h)).trans hd⟩
   ·rintro k v Wp W ⟨hi, hlp, hdp⟩ hkp hbp hkN hAv
    rw [hs1] at hbp
    have hl := (hkp.blk _ (Array.getElem?_eq_some_iff.1 hlp).1 (fun h => h)).trans hlp
    have hd := (hkp.blk _ (Array.getElem?_eq_some_iff.1 hdp).1 (fun h => h)).trans hdp
    have hy := run_yield (P := P) (args := #[v]) hl (by rw [hrec]; rfl)
    refine ⟨_, _, _, _, hy, roundIn_of_wpIn trivial ?_⟩
    have hlt : w.heap.size + 1 < W.heap.size := (Array.getElem?_eq_some_iff.1 hl).1
    have hr : Rep n (a.put (some t) v) (La v) := ha.setL (hLa v)
    have ea : ({ tmps := ((rec .ready).params.zip #[v]).foldl (fun t (p, v) => t.setIfInBounds p v) (rec .ready).tmps, defers := [] } : Act) = wd [] (a.put (some t) v) := by rw [hrec]; simp [wd, Act.put]
    have easg : (rec .ready).assign = assign := by rw [hrec]
    have ebdy : (rec .ready).body = body := by rw [hrec]
    rw [easg, ebdy]
    refine (congrArg (fun z => Code.wpIn _ _ P assign _ z W) ea).mpr ?_
    refine wpIn_mono (hassign _ _ k v W hkN hAv hbp hkp.size _ hr) ?_
    rintro ex a' W' ⟨ds2, a2, L', rfl, r, rfl, rfl, hka, hax⟩
    have hlA := (hka.blk _ hlt (fun h => h)).trans hl
    have hdA := (hka.blk _ (by omega) (fun h => h)).trans hd
    have hltA : w.heap.size + 1 < W'.heap.size := Nat.lt_of_lt_of_le hlt hka.size
    have hpk : ∀ (X : World) (o : Obj), Keeps (fun i => i = w.heap.size ∨ i = w.heap.size + 1) X (X.putObj (w.heap.size + 1) o) := fun X o => ⟨rfl, rfl, rfl, by simp, fun i _ hn => World.putObj_heap_other (fun e => hn (.inr e))⟩
    have hkm : Keeps (fun i => i = w.heap.size ∨ i = w.heap.size + 1) W W' := hka.mono fun _ _ h => h.elim
    have hp2 := hpk W' (.loop { rec .ready with state := .busy })
    have hl2 : (W'.putObj (w.heap.size + 1) (.loop { rec .ready with state := .busy })).heap[w.heap.size + 1]? = some (.loop { rec .ready with state := .busy }) := World.putObj_heap_same hltA
    have hd2 : (W'.putObj (w.heap.size + 1) (.loop { rec .ready with state := .busy })).heap[w.heap.size]? = some (.deferred (some [])) := (World.putObj_heap_other (by omega)).trans hdA
    refine ⟨_, run_beginRound hlA (by rw [hrec]), ?_⟩
    refine wpIn_mono (hbody _ k v _ Wp _ hi (((hkp.mono fun _ _ h => h.elim).trans hkm (fun _ _ h => h) (fun _ _ h => h)).trans hp2 (fun _ _ h => h) (fun _ _ h => h)) hbp hkN (hA _ _ _ _ _ hbp (hA _ _ _ _ _ hbp hAv hkm) hp2) (hAx _ _ _ _ _ hbp hax hp2) _ r) ?_
    rintro ex3 a3 W3 ⟨_, _, _, _, _, rfl, hkf, hkT, hi3⟩
    have hl3 := hkf.same _ _ (by omega) hl2 rfl
    have hd3 := hkf.same _ _ (Nat.le_refl _) hd2 rfl
    have hlt3 : w.heap.size + 1 < W3.heap.size := (Array.getElem?_eq_some_iff.1 hl3).1
    refine ⟨_, _, run_endRound none hl3, rfl, ⟨hI _ _ _ hi3 (hpk _ _), ?_, (World.putObj_heap_other (by omega)).trans hd3⟩, ?_⟩
    ·rw [World.putObj_heap_same hlt3, hrec]; rfl
    ·have kT : ∀ (X : World) (o : Obj), Keeps T X (X.putObj (w.heap.size + 1) o) := fun X o => (hpk X o).mono fun i _ h => hT i (by rcases h with h | h <;> omega)
     exact ((hka.trans (kT _ _) (fun _ _ h => h.elim) (fun _ _ h => h)).trans hkT (fun _ _ h => h) (fun _ _ h => h)).trans (kT _ _) (fun _ _ h => h) (fun _ _ h => h)
   ·rintro ex W ⟨⟨v, rfl⟩, hi, hl, hd⟩
    have hel := run_endLoop (P := P) hl (by rw [hrec]; simp)
    rw [show (rec .ready).pending = none from by rw [hrec]] at hel
    refine ⟨none, _, hel, ?_⟩
    exact ⟨_, a, L, rfl, ha, hdone _ _ (Nat.le_refl _) (hI _ _ _ hi ⟨rfl, rfl, rfl, by simp, fun i _ hn => World.putObj_heap_other (fun e => hn (.inr e))⟩) ((World.putObj_heap_other (by omega)).trans hd)⟩
 | _ => rw [e] at hc; cases hc
end Go.Q
namespace Go.Q
open Go.RowKit
section
variable {P : Program} {w : World} {t : TypeId} {k : IntKind}
theorem run_shrN {d i : Nat} {s : Int} (hs : s = (i : Int)) (hi : i ≤ 64) : (binOp .shr t (.int .u64 ((d : Nat) : Int)) (.int k s)).run P w = .ok (.int .u64 ((d / 2 ^ i : Nat) : Int)) w := by
 have h1 : ¬ s < 0 := by omega
 have h2 : min s.toNat IntKind.u64.bits = i := by
  have : IntKind.u64.bits = 64 := rfl
  rw [this]; omega
 simp only [binOp, Op.shift, h1, if_false, h2]
 have e : ((d : Nat) : Int).fdiv (2 ^ i) = ((d / 2 ^ i : Nat) : Int) := by
  rw [show ((2 : Int) ^ i) = ((2 ^ i : Nat) : Int) from by simp]
  exact fdiv_nat d (2 ^ i)
 rw [e]
 rfl
theorem run_shl1 {i : Nat} {s : Int} (hs : s = (i : Int)) (hi : i ≤ 63) : (binOp .shl t (.int .u64 1) (.int k s)).run P w = .ok (.int .u64 ((1 <<< i : Nat) : Int)) w := by
 have h1 : ¬ s < 0 := by omega
 have h2 : min s.toNat IntKind.u64.bits = i := by
  have : IntKind.u64.bits = 64 := rfl
  rw [this]; omega
 have hp : (2 : Nat) ^ i ≤ 2 ^ 63 := Nat.pow_le_pow_right (by decide) hi
 have h63 : (2 : Nat) ^ 63 = 9223372036854775808 := by decide
 simp only [binOp, Op.shift, h1, if_false, h2]
 have h3 : (1 <<< i : Nat) = 2 ^ i := Nat.one_shiftLeft i
 have e : (1 : Int) * (2 : Int) ^ i = ((1 <<< i : Nat) : Int) := by rw [h3, Int.one_mul]; simp
 have h5 : ∀ x : Nat, x ≤ 9223372036854775808 → IntKind.u64.wrap ((x : Nat) : Int) = ((x : Nat) : Int) := fun x hx => wrap_u64 (by omega) (by omega)
 rw [e, h5 _ (by rw [h3]; exact h63 ▸ hp)]
 rfl
theorem run_orN {a b : Nat} (ha : a < 18446744073709551616) (hb : b < 18446744073709551616) : (binOp .or t (.int .u64 ((a : Nat) : Int)) (.int .u64 ((b : Nat) : Int))).run P w = .ok (.int .u64 ((a ||| b : Nat) : Int)) w := by
 have e1 : (BitVec.ofInt 64 ((a : Nat) : Int)).toNat = a := by simp only [BitVec.toNat_ofInt]; omega
 have e2 : (BitVec.ofInt 64 ((b : Nat) : Int)).toNat = b := by simp only [BitVec.toNat_ofInt]; omega
 have hlt : a ||| b < 2 ^ 64 := Nat.or_lt_two_pow ha hb
 have h64 : (2 : Nat) ^ 64 = 18446744073709551616 := by decide
 have key : ((BitVec.ofInt IntKind.u64.bits ((a : Nat) : Int)) ||| (BitVec.ofInt IntKind.u64.bits ((b : Nat) : Int))).toNat = a ||| b := by
  show ((BitVec.ofInt 64 ((a : Nat) : Int)) ||| (BitVec.ofInt 64 ((b : Nat) : Int))).toNat = _
  rw [BitVec.toNat_or, e1, e2]
 have h5 : ∀ x : Nat, x < 18446744073709551616 → IntKind.u64.wrap ((x : Nat) : Int) = ((x : Nat) : Int) := fun x hx => wrap_u64 (by omega) (by omega)
 simp only [binOp, ne_eq, not_true, if_false, Op.intBits]
 rw [key, h5 _ (h64 ▸ hlt)]
 rfl
end
theorem bit_one {d i : Nat} : (d / 2 ^ i % 2 = 1) ↔ d.testBit i = true := by
 rw [Nat.testBit_eq_decide_div_mod_eq, decide_eq_true_iff]
theorem bit_zero {d i : Nat} : (d / 2 ^ i % 2 = 0) ↔ d.testBit i = false := by
 rw [Nat.testBit_eq_decide_div_mod_eq, decide_eq_false_iff_not]
 omega
theorem or_lt {d i n : Nat} (hd : d < 2 ^ n) (hi : i < n) : d ||| (1 <<< i) < 2 ^ n := by
 refine Nat.or_lt_two_pow hd ?_
 rw [Nat.one_shiftLeft]
 exact Nat.pow_lt_pow_right (by decide) hi
def LedW (w : World) (tL : Nat) (F : Nat → Prop) (b : Nat) (s : LS_) : Prop :=
 ∃ mb kb m, Has w b (rowL [.map (some mb), .map (some kb)] tL) ∧ HasMap w mb kstr ki64 m ∧ HasMap w kb kpair keptv (s.2.map KeptM.kv) ∧ (b ≠ mb ∧ b ≠ kb ∧ mb ≠ kb) ∧ LBook m s.1 s.2 ∧ F b ∧ F mb ∧ F kb
theorem LedW.keep {w w' : World} {tL b : Nat} {F S : Nat → Prop} {s : LS_} (h : LedW w tL F b s) (K : Keeps S w w') (hS : ∀ i, F i → ¬ S i) : LedW w' tL F b s := by
 obtain ⟨mb, kb, m, h1, h2, h3, h4, h5, h6, h7, h8⟩ := h
 exact ⟨mb, kb, m, h1.keep K (hS _ h6), h2.keep K (hS _ h7), h3.keep K (hS _ h8), h4, h5, h6, h7, h8⟩
theorem LedW.mono {w : World} {tL b : Nat} {F G : Nat → Prop} {s : LS_} (h : LedW w tL F b s) (hF : ∀ i, F i → G i) : LedW w tL G b s := by
 obtain ⟨mb, kb, m, h1, h2, h3, h4, h5, h6, h7, h8⟩ := h
 exact ⟨mb, kb, m, h1, h2, h3, h4, h5, hF _ h6, hF _ h7, hF _ h8⟩
structure StC.At (w : World) (tL : Nat) (F : Nat → Prop) (x : StC) : Prop where
 row : RdT w 1 iN (.slice x.A x.order.length x.k) x.order
 inF : ∀ i, (Value.slice x.A x.order.length x.k).ownBlock = some i → F i
 led : LedW w tL F x.b x.s
theorem StC.At.keep {w w' : World} {tL : Nat} {F S : Nat → Prop} {x : StC} (h : x.At w tL F) (K : Keeps S w w') (hS : ∀ i, F i → ¬ S i) : x.At w' tL F :=
 ⟨Rd.keep (by decide) h.row K fun b hb => hS b (h.inF b hb), h.inF, h.led.keep K hS⟩
theorem StC.At.mono {w : World} {tL : Nat} {F G : Nat → Prop} {x : StC} (h : x.At w tL F) (hF : ∀ i, F i → G i) : x.At w tL G := ⟨h.row, fun i hi => hF i (h.inF i hi), h.led.mono hF⟩
structure Pool (w : World) (tL : Nat) (F : Nat → Prop) (l : List StC) : Prop where
 at_ : ∀ x ∈ l, x.At w tL F
 lt : ∀ i, F i → i < w.heap.size
theorem Pool.keep {w w' : World} {tL : Nat} {F S : Nat → Prop} {l : List StC} (h : Pool w tL F l) (K : Keeps S w w') (hS : ∀ i, F i → ¬ S i) : Pool w' tL F l :=
 ⟨fun x hx => (h.at_ x hx).keep K hS, fun i hi => Nat.lt_of_lt_of_le (h.lt i hi) K.size⟩
theorem Pool.sub {w : World} {tL : Nat} {F : Nat → Prop} {l m : List StC} (h : Pool w tL F l) (hm : ∀ x ∈ m, x ∈ l) : Pool w tL F m := ⟨fun x hx => h.at_ x (hm x hx), h.lt⟩
theorem Pool.nil (w : World) (tL : Nat) : Pool w tL none_ [] := ⟨fun x hx => (by cases hx), fun i hi => hi.elim⟩
theorem Pool.mono {w : World} {tL : Nat} {F G : Nat → Prop} {l : List StC} (h : Pool w tL F l) (hF : ∀ i, F i → G i) (hG : ∀ i, G i → i < w.heap.size) : Pool w tL G l := ⟨fun x hx => (h.at_ x hx).mono hF, hG⟩
theorem Pool.app {w : World} {tL : Nat} {F : Nat → Prop} {l m : List StC} (h : Pool w tL F l) (hm : Pool w tL F m) : Pool w tL F (l ++ m) :=
 ⟨fun x hx => (List.mem_append.1 hx).elim (h.at_ x) (hm.at_ x), h.lt⟩
theorem OwnT.init {α : Type} {f : α → List Value} {sz : Nat} (hf : ∀ x, (f x).length = sz) {w : World} {base e n c : Nat} {A : Option Addr} {l m : List α} (h : OwnT w base e sz f (.slice A n c) (l ++ m)) (h0 : 0 < m.length) : OwnT w base e sz f (.slice A l.length c) l := by
 obtain ⟨hl, h⟩ := h
 refine ⟨flat_len hf l, ?_⟩
 rcases h with ⟨_, hn⟩ | ⟨g, cap, cur, hv, hb, hg, h1, h2, h3, h4⟩
 ·rw [List.length_append] at hn; omega
 ·injection hv with e1 e2 e3
  subst e1; subst e3
  have hle : l.length ≤ (l ++ m).length := by rw [List.length_append]; omega
  refine .inr ⟨g, c, cur, rfl, hb, hg, by omega, h2, h3, ?_⟩
  have hm : l.length * sz ≤ (l ++ m).length * sz := Nat.mul_le_mul_right _ hle
  have : cur.toList.take (l.length * sz) = (cur.toList.take ((l ++ m).length * sz)).take (l.length * sz) := by rw [List.take_take, Nat.min_eq_left hm]
  rw [this, h4, List.flatMap_append, ← flat_len hf l, List.take_left]
end Go.Q
namespace Go.Q
open Go.RowKit
def XS (l : List HC) (a : List Nat) : List (HCall × Nat) := (l.map HC.c).zip a
section
variable {l : List HC} {a : List Nat} {t : Sr LS_} {i j n : Nat} {x y : HC}
theorem xs_len (ha : a.length = l.length) : (XS l a).length = l.length := by unfold XS; rw [List.length_zip, List.length_map]; omega
theorem xs_at (hx : l[i]? = some x) (hn : a[i]? = some n) : (XS l a)[i]? = some (x.c, n) := by
 unfold XS
 rw [List.getElem?_zip_eq_some]
 exact ⟨by rw [List.getElem?_map, hx]; rfl, hn⟩
theorem xs_some (ha : a.length = l.length) (hx : l[i]? = some x) : ∃ n, a[i]? = some n ∧ (XS l a)[i]? = some (x.c, n) := by
 have h := (List.getElem?_eq_some_iff.1 hx).1
 exact ⟨_, List.getElem?_eq_getElem (by omega), xs_at hx (List.getElem?_eq_getElem (by omega))⟩
theorem one_done {σ : Type} {P : Prob σ} {t : Sr σ} (h : t.done.testBit i = true) : P.one t i = none := by
 unfold Prob.one; rw [h]; rfl
theorem xs_wait (hx : l[i]? = some x) (ha : a.length = l.length) (d : Nat) : (probH (XS l a)).wait d i = (XS l a).zipIdx.any fun p => decide (p.2 ≠ i) && !d.testBit p.2 && aheadH p.1.1 x.c := by
 obtain ⟨n, hn, h⟩ := xs_some ha hx
 show (match (XS l a)[i]? with | some c => (XS l a).zipIdx.any fun p => decide (p.2 ≠ i) && !d.testBit p.2 && aheadH p.1.1 c.1 | none => true) = _
 rw [h]
theorem one_wait (ha : a.length = l.length) (hx : l[i]? = some x) (hy : l[j]? = some y) (hji : j ≠ i) (hb : t.done.testBit j = false) (hah : aheadH y.c x.c = true) : (probH (XS l a)).one t i = none := by
 obtain ⟨n, hn, h⟩ := xs_some ha hy
 have hw : (probH (XS l a)).wait t.done i = true := by
  rw [xs_wait hx ha, List.any_eq_true]
  refine ⟨((y.c, n), j), List.mem_of_getElem? (i := j) (by rw [List.getElem?_zipIdx, h]; simp), ?_⟩
  show (decide (j ≠ i) && !t.done.testBit j && aheadH y.c x.c) = true
  rw [hb, hah, decide_eq_true hji]; rfl
 unfold Prob.one
 rw [hw, Bool.or_true]; rfl
theorem xs_step (hx : l[i]? = some x) (ha : a.length = l.length) (s : LS_) : (probH (XS l a)).step i s = stepH x.c s := by
 obtain ⟨n, hn, h⟩ := xs_some ha hx
 show (match (XS l a)[i]? with | some c => stepH c.1 s | none => none) = _
 rw [h]
theorem one_refuse (ha : a.length = l.length) (hx : l[i]? = some x) (h : stepH x.c t.s = none) : (probH (XS l a)).one t i = none := by
 unfold Prob.one
 rw [xs_step hx ha, h]
 split <;> rfl
theorem one_go (ha : a.length = l.length) (hx : l[i]? = some x) (hn : a[i]? = some n) (hb : t.done.testBit i = false) (hw : ∀ j y, l[j]? = some y → j ≠ i → t.done.testBit j = false → aheadH y.c x.c = false) {s' : LS_} (hs : stepH x.c t.s = some s') :
  (probH (XS l a)).one t i = some ⟨t.order ++ [n], t.done ||| (1 <<< i), if x.c.told then t.left - 1 else t.left, s'⟩ := by
 have hw2 : (probH (XS l a)).wait t.done i = false := by
  rw [xs_wait hx ha, List.any_eq_false]
  intro p hp hq
  obtain ⟨⟨c, m⟩, k⟩ := p
  have hk := zip_mem hp
  rw [Bool.and_eq_true, Bool.and_eq_true] at hq
  obtain ⟨⟨q1, q2⟩, q3⟩ := hq
  have hlt := (List.getElem?_eq_some_iff.1 hk).1
  have hkl : k < l.length := by have : k < (XS l a).length := hlt; rwa [xs_len ha] at this
  obtain ⟨n2, _, h2⟩ := xs_some ha (List.getElem?_eq_getElem hkl)
  have h2' : some (c, m) = some ((l[k]).c, n2) := hk.symm.trans h2
  injection h2' with h2'
  injection h2' with e1 e2
  have := hw k l[k] (List.getElem?_eq_getElem hkl) (of_decide_eq_true q1) (by simpa using q2)
  rw [← e1] at this
  rw [show aheadH c x.c = true from q3] at this
  cases this
 have h := xs_at hx hn
 unfold Prob.one
 rw [hb, hw2, xs_step hx ha, hs]
 show some _ = _
 have e1 : (probH (XS l a)).num i = n := by show (match (XS l a)[i]? with | some c => c.2 | none => 0) = _; rw [h]
 have e2 : (probH (XS l a)).told i = x.c.told := by show (match (XS l a)[i]? with | some c => c.1.told | none => false) = _; rw [h]
 rw [e1, e2]
theorem stepH_not {c : HCall} {s : LS_} (h : c.told = false) : stepH c s = some (doS s.1 s.2 c.op, doK s.1 s.2 c.op) := by
 unfold stepH; rw [h]; rfl
theorem stepH_yes {c : HCall} {s : LS_} (h : doR s.1 s.2 c.op = c.rep) : stepH c s = some (doS s.1 s.2 c.op, doK s.1 s.2 c.op) := by
 unfold stepH; rw [decide_eq_false (fun q => q h), Bool.and_false]; rfl
theorem stepH_no {c : HCall} {s : LS_} (h0 : c.told = true) (h : doR s.1 s.2 c.op ≠ c.rep) : stepH c s = none := by
 unfold stepH; rw [h0, decide_eq_true h]; rfl
end
section
variable {σ : Type} {P : Prob σ} {t y : Sr σ} {i : Nat}
def Prob.nth (P : Prob σ) (t : Sr σ) (i : Nat) : Nat := ((List.range i).filterMap (P.one t)).length
theorem Prob.nth_none (h : P.one t i = none) : P.nth t (i + 1) = P.nth t i := by
 unfold Prob.nth; rw [List.range_succ, List.filterMap_append, List.length_append, List.filterMap_cons, h]; rfl
theorem Prob.nth_some (h : P.one t i = some y) : P.nth t (i + 1) = P.nth t i + 1 := by
 unfold Prob.nth; rw [List.range_succ, List.filterMap_append, List.length_append, List.filterMap_cons, h]; rfl
theorem Prob.nth_at (hi : i < P.n) (h : P.one t i = some y) : (P.nexts t)[P.nth t i]? = some y := by
 unfold Prob.nexts Prob.nth
 obtain ⟨k, hk⟩ : ∃ k, P.n = i + (k + 1) := ⟨P.n - i - 1, by omega⟩
 have e : List.range P.n = List.range i ++ (i :: (List.range' (i + 1) k)) := by
  rw [hk, List.range_eq_range', List.range_eq_range', ← List.range'_append_1, Nat.zero_add, List.range'_succ]
 rw [e, List.filterMap_append, List.filterMap_cons, h, List.getElem?_append_right (Nat.le_refl _), Nat.sub_self]
 rfl
theorem Prob.nth_lt (hi : i < P.n) (h : P.one t i = some y) : P.nth t i < (P.nexts t).length := (List.getElem?_eq_some_iff.1 (P.nth_at hi h)).1
theorem Prob.nth_end (h : i = P.n) : P.nth t i = (P.nexts t).length := by subst h; rfl
end
structure SrOk (X : List (HCall × Nat)) (t : Sr LS_) : Prop where
 v : (probH X).V t
 kle : t.s.2.length ≤ (probH X).pc t.done
 ole : t.order.length = (probH X).pc t.done
 dlt : t.done < 2 ^ X.length
theorem doK_le (S : List RowM) (K : List KeptM) (o : Opm) : (doK S K o).length ≤ K.length + 1 := by
 unfold doK; split
 ·rw [List.length_append]; exact Nat.le_refl _
 ·omega
theorem SrOk.one {X : List (HCall × Nat)} (hX : ∀ c ∈ X, -9223372036854775808 ≤ c.1.op.amount ∧ c.1.op.amount ≤ 9223372036854775807) {t t' : Sr LS_} {i : Nat} (hi : i < X.length) (h : (probH X).one t i = some t') (ht : SrOk X t) : SrOk X t' := by
 have hp := (Prob.one_pc (P := probH X) hi h).1
 refine ⟨Prob.one_V (probH_like hX) hi h ht.v, ?_, ?_, ?_⟩
 ·rw [hp]
  have hs := (Prob.one_pc (P := probH X) hi h).2.2
  have hs : (match X[i]? with | some c => stepH c.1 t.s | none => none) = some t'.s := hs
  cases hc : X[i]? with
  | none => rw [hc] at hs; cases hs
  | some c =>
   rw [hc] at hs
   have hs : stepH c.1 t.s = some t'.s := hs
   unfold stepH at hs
   split at hs
   ·cases hs
   ·injection hs with hs
    rw [← hs]
    have := doK_le t.s.1 t.s.2 c.1.op
    have := ht.kle
    show (doK t.s.1 t.s.2 c.1.op).length ≤ _
    omega
 ·rw [hp, ← ht.ole]
  unfold Prob.one at h
  split at h
  ·cases h
  ·obtain ⟨s', _, rfl⟩ := Option.map_eq_some_iff.1 h
   rw [List.length_append]; rfl
 ·unfold Prob.one at h
  split at h
  ·cases h
  ·obtain ⟨s', _, rfl⟩ := Option.map_eq_some_iff.1 h
   exact or_lt ht.dlt hi
theorem SrOk.nexts {X : List (HCall × Nat)} (hX : ∀ c ∈ X, -9223372036854775808 ≤ c.1.op.amount ∧ c.1.op.amount ≤ 9223372036854775807) {t t' : Sr LS_} (h : t' ∈ (probH X).nexts t) (ht : SrOk X t) : SrOk X t' := by
 obtain ⟨i, hi, h1⟩ := List.mem_filterMap.1 h
 exact SrOk.one hX (List.mem_range.1 hi) h1 ht
theorem SrOk.start (X : List (HCall × Nat)) : SrOk X (startH X) := by
 have h0 : (probH X).pc 0 = 0 := by
  show (List.range _).countP (fun i => (0 : Nat).testBit i) = 0
  rw [List.countP_eq_zero]
  intro i _
  simp
 exact ⟨startH_V X, Nat.zero_le _, h0.symm, Nat.two_pow_pos _⟩
theorem SrOk.len {X : List (HCall × Nat)} {t : Sr LS_} (h : SrOk X t) : t.s.2.length ≤ X.length ∧ t.order.length ≤ X.length ∧ 0 ≤ t.left ∧ t.left ≤ X.length := by
 have h1 := (probH X).pc_le t.done
 have h2 := h.kle
 have h3 := h.ole
 have h4 := h.v.1
 have h5 : (probH X).lf t.done ≤ X.length := by
  have := List.countP_le_length (p := fun i => (probH X).told i && !t.done.testBit i) (l := List.range (probH X).n)
  rwa [List.length_range] at this
 have e : (probH X).n = X.length := rfl
 omega
theorem div_lt64 {d k : Nat} (h : d < 18446744073709551616) : d / 2 ^ k < 18446744073709551616 := Nat.lt_of_le_of_lt (Nat.div_le_self _ _) h
theorem shl_lt {i : Nat} (h : i ≤ 63) : 1 <<< i < 18446744073709551616 := by
 rw [Nat.one_shiftLeft]
 exact Nat.lt_of_le_of_lt (Nat.pow_le_pow_right (by decide) h) (by decide)
theorem SrOk.d64 {X : List (HCall × Nat)} {t : Sr LS_} (h : SrOk X t) (h8 : X.length ≤ 8) : t.done < 18446744073709551616 :=
 Nat.lt_of_lt_of_le h.dlt (Nat.le_trans (Nat.pow_le_pow_right (by decide) h8) (by decide))
def nextA (tL : Nat) (X : List (HCall × Nat)) (t : Sr LS_) (base k : Nat) (v : Value) (W : World) : Prop :=
 ∃ y : StC, v = agg y.cells ∧ ((probH X).nexts t)[k]? = some y.m ∧ y.At W tL (fun i => base ≤ i ∧ i < W.heap.size)
end Go.Q
namespace Go.Proofs.YtnbcghbgeiocbaaDoor
open Go.Q Go.RowKit
theorem tyI : ElemTy Tryd.prog 35 3 1 8 := elemTy (by kernel_rfl)
theorem CloneI_nil (w : World) (n c : Nat)  : Calls Tryd.prog 51 ⟨[(Value.slice none n c)]⟩ w (fun e w' => e = .returned (.slice none 0 0) ∧ Keeps none_ w w') := by
 have K0 : Keeps none_ w w := Keeps.refl w
 refine q_calls Tryd.func51 (by kernel_rfl) (by kernel_rfl) ?_
 refine qsg ?_
 refine odz 1 ?_
 refine qs ?_
 refine qsg ?_
 refine ogd 2 [(0, .slice none n c), (2, .slice none 0 0), (4, .bool true)] ?_
 refine q_then (o := .tmp 4) (by kernel_rfl) rfl ?_
 refine qsg ?_
 refine ogd 1 [(0, .slice none n c), (2, .slice none 0 0)] ?_
 refine qtQ ?_
 refine ⟨(Value.slice none 0 0), retv_tmp rfl rfl, ?_⟩
 exact ⟨rfl, K0⟩
theorem CloneI_some (w : World) (a : Addr) (c : Nat) (l : List Nat) (hv : RdT w 1 iN (.slice (some a) l.length c) l) (hl : l.length ≤ 1000) : Calls Tryd.prog 51 ⟨[(Value.slice (some a) l.length c)]⟩ w (fun e w' => ∃ v', e = .returned v' ∧ Keeps none_ w w' ∧ OwnT w' w.heap.size 3 1 iN v' ([] ++ l)) := by
 have K0 : Keeps none_ w w := Keeps.refl w
 refine q_calls Tryd.func51 (by kernel_rfl) (by kernel_rfl) ?_
 refine qsg ?_
 refine odz 1 ?_
 refine qs ?_
 refine qsg ?_
 refine ogd 2 [(0, .slice (some a) l.length c), (2, .slice none 0 0), (4, .bool false)] ?_
 refine q_else (o := .tmp 4) (by kernel_rfl) rfl ?_
 refine qkQ ?_
 refine qsg ?_
 refine onew (rowL [] 3) (fun b => (Value.slice (some ⟨b, 0, none⟩) 0 0)) 5 (fun b => rfl) (fun b1 w2 hb3 H4 K5 hs6 => ?_)
 have nb1 : w.heap.size ≤ b1 := by have := K0.size; omega
 replace K0 := K0.t0 K5
 clear K5 hs6
 refine og 1 [(2, .slice none 0 0), (5, .slice (some ⟨b1, 0, none⟩) 0 0), (6, .slice (some a) l.length c)] 2 ?_
 have hE7 : OwnT w2 w.heap.size 3 1 iN (Value.slice (some ⟨b1, 0, none⟩) 0 0) [] := own_empty2 H4 nb1
 obtain ⟨v8, w9, hr10, hO11, hK12, hg13⟩ := OwnT.app (ty := 35) iN_one iN_cells tyI hE7 (Rd.keep0 (by omega) hv K0) (by first | omega | (simp only [List.length_nil]; omega)) (by first | omega | (simp only [List.length_nil]; omega)) K0.size
 obtain ⟨A15, c16, rfl⟩ := RdT.form iN_one (by decide) (OwnT.rd hO11)
 have K14 := hK12
 refine ogo (Value.slice A15 (([] ++ l).length) c16) 7 (Runs.append (ts := #[35, 35]) (ty := 35) (vs := [(Value.slice (some ⟨b1, 0, none⟩) 0 0), (Value.slice (some a) l.length c)]) (by kernel_rfl) hr10) rfl ?_
 replace K0 := K0.trans K14 (U := none_) (fun i h1 h2 => h2) (fun i h1 h2 => by have h2 : Ow (.slice (some ⟨b1, 0, none⟩) 0 0) i := h2; exfalso; have := (World.ownsRow.lt hE7 i h2).1; omega)
 clear hE7
 clear K14 hr10 hK12 hg13
 refine ogd 1 [(2, (Value.slice A15 (([] ++ l).length) c16))] ?_
 refine qtQ ?_
 refine ⟨(Value.slice A15 (([] ++ l).length) c16), retv_tmp rfl rfl, ?_⟩
 exact ⟨_, rfl, K0, hO11⟩
theorem CloneI_calls (w : World) (A : Option Addr) (c : Nat) (l : List Nat) (hv : RdT w 1 iN (.slice A l.length c) l) (hl : l.length ≤ 1000) : Calls Tryd.prog 51 ⟨[.slice A l.length c]⟩ w (fun e w' => ∃ A' c', e = .returned (.slice A' l.length c') ∧ Keeps none_ w w' ∧ OwnT w' w.heap.size 3 1 iN (.slice A' l.length c') l) := by
 cases A with
 | none =>
  refine (CloneI_nil w l.length c).mono ?_
  rintro e w' ⟨he, hk⟩
  have h0 : l = [] := by have h1 := Rd.none_nil2 hv; cases l with | nil => rfl | cons x l => simp [iN] at h1
  subst h0
  exact ⟨none, 0, he, hk, OwnT.nil _ _ _ _ _⟩
 | some a =>
  refine (CloneI_some w a c l hv hl).mono ?_
  rintro e w' ⟨v', he, hk, hO⟩
  rw [List.nil_append] at hO
  obtain ⟨A', c', rfl⟩ := RdT.form iN_one (by decide) (OwnT.rd hO)
  exact ⟨A', c', he, hk, hO⟩
theorem next_calls (w : World) (u1 u2 u3 u4 u5 u6 : Value)  : Calls Tryd.prog 33 ⟨[(agg [u1, u2]), (agg [u3, u4, u5, u6])]⟩ w (fun e w' => ∃ b2 b3, e = .returned (.func (.func 47) ⟨[]⟩ ⟨[ptr b2, ptr b3]⟩) ∧ Keeps none_ w w' ∧ Has w' b2 (rowL [u1, u2] 68) ∧ Has w' b3 (rowL [u3, u4, u5, u6] 73) ∧ w.heap.size ≤ b2 ∧ w.heap.size ≤ b3 ∧ b2 ≠ b3) := by
 have K0 : Keeps none_ w w := Keeps.refl w
 refine q_calls Tryd.func33 (by kernel_rfl) (by kernel_rfl) ?_
 refine qsg ?_
 refine onew (rowL [u1, u2] 68) (fun b => (ptr b)) 2 (fun b => rfl) (fun b1 w2 hb3 H4 K5 hs6 => ?_)
 have nb1 : w.heap.size ≤ b1 := by have := K0.size; omega
 replace K0 := K0.t0 K5
 clear K5 hs6
 refine onew (rowL [u3, u4, u5, u6] 73) (fun b => (ptr b)) 3 (fun b => rfl) (fun b7 w8 hb9 H10 K11 hs12 => ?_)
 have lb7b1 : b1 < b7 := by have := H4.lt; omega
 have nb7 : w.heap.size ≤ b7 := by have := K0.size; omega
 replace K0 := K0.t0 K11
 replace H4 := H4.kn K11
 clear K11 hs12
 refine odz 1 ?_
 refine qsg ?_
 refine ogd 2 [(4, .func (Fn.func 47) ⟨[]⟩ ⟨[(ptr b1), (ptr b7)]⟩)] ?_
 refine qtQ ?_
 refine ⟨(Value.func (Fn.func 47) ⟨[]⟩ ⟨[(ptr b1), (ptr b7)]⟩), retv_tmp rfl rfl, ?_⟩
 exact ⟨_, _, rfl, K0, H4, H10, nb1, nb7, by omega⟩
end Go.Proofs.YtnbcghbgeiocbaaDoor
namespace Go.Proofs.YtnbcghbgeiocbaaDoor
open Go.Q Go.RowKit
theorem next_tail (w : World) (ln m0 b2 b3 b5 b10 i nl : Nat) (LA : Option Addr) (lc : Nat) (x : HC) (A : Option Addr) (n c d lb : Nat) (lf : Int) (T : Nat → Prop) (J : World → Prop) {Q : List Deferred → Exit → Go.Q.Loc → World → Prop} (Hx5 : Has w b5 (rowL (HC.cells x) 43)) (Hx10 : Has w b10 (rowL [(Value.slice A n c), (Value.int IntKind.u64 ((d : Nat) : Int)), (i64 lf), (ptr lb)] 73)) (hlf : 0 ≤ lf ∧ lf ≤ 8) (hne : b5 ≠ b10)
  (hy : ∀ W1, Keeps (fun i => i = b10) w W1 → YieldAt Fence.wide m0 Tryd.prog ln #[agg [(Value.slice A n c), (Value.int IntKind.u64 ((d : Nat) : Int)), i64 (if x.c.told then lf - 1 else lf), (ptr lb)]] W1 (fun e W' => e = .returned (.bool true) ∧ J W' ∧ Keeps T W1 W'))
  (hQ : ∀ w', J w' → Keeps (fun i => T i ∨ i = b10) w w' → Q [] .normal [(0, (Value.func (Fn.yield ln) #[] #[])), (1, (ptr b2)), (2, (ptr b3)), (12, (Value.slice LA nl lc)), (13, (i64 ((nl : Nat) : Int))), (14, (i64 ((i : Nat) : Int)))] w') : wpR Fence.wide Tryd.prog (m0 + 1) Tryd.f47.ntmps (cd Tryd.f47 [1, 1, 1, 1, 1, 1, 0, 0, 1, 1, 0, 0, 1, 1, 0]) Q [] [(0, (Value.func (Fn.yield ln) #[] #[])), (1, (ptr b2)), (2, (ptr b3)), (5, (ptr b5)), (10, (ptr b10)), (12, (Value.slice LA nl lc)), (13, (i64 ((nl : Nat) : Int))), (14, (i64 ((i : Nat) : Int)))] w := by
 have K0 : Keeps (fun i => i = b10) w w := (Keeps.refl w).mono (fun _ _ h => h.elim)
 refine rsQ ?_
 refine rsg Open.wide ?_
 refine og 1 [(0, .func (Fn.yield ln) #[] #[]), (1, ptr b2), (2, ptr b3), (10, ptr b10), (12, .slice LA nl lc), (13, i64 ↑nl), (14, i64 ↑i), (85, .pointer (some ⟨b5, 9, none⟩))] 1 ?_
 refine ogo (Value.bool x.c.told) 86 (rld 4 b5 9 Hx5) rfl ?_
 refine od ?_
 refine rcQ 86 x.c.told rfl (fun h1 => ?_) (fun h1 => ?_)
 ·rw [h1]
  have p2 : x.c.told = true := h1
  refine rgQ Open.wide ?_
  refine og 1 [(0, .func (Fn.yield ln) #[] #[]), (1, ptr b2), (2, ptr b3), (10, ptr b10), (12, .slice LA nl lc), (13, i64 ↑nl), (14, i64 ↑i), (87, .pointer (some ⟨b10, 2, none⟩))] 1 ?_
  refine ogo (i64 lf) 88 (rld 3 b10 2 Hx10) rfl ?_
  refine og 1 [(0, .func (Fn.yield ln) #[] #[]), (1, ptr b2), (2, ptr b3), (10, ptr b10), (12, .slice LA nl lc), (13, i64 ↑nl), (14, i64 ↑i), (89, (i64 (IntKind.i64.wrap (lf - 1))))] 3 ?_
  have e3 : IntKind.i64.wrap (lf - 1) = lf - 1 := wrap_i64 (by omega) (by omega)
  rw [e3]
  refine og 1 [(0, .func (Fn.yield ln) #[] #[]), (1, ptr b2), (2, ptr b3), (10, ptr b10), (12, .slice LA nl lc), (13, i64 ↑nl), (14, i64 ↑i), (89, (i64 (lf - 1))), (90, .pointer (some ⟨b10, 2, none⟩))] 4 ?_
  refine Ops.put (t := 3) (b := b10) (off := 2) (v := (i64 (lf - 1))) (ys := [(Value.slice A n c), (Value.int IntKind.u64 ((d : Nat) : Int)), (i64 (lf - 1)), (ptr lb)]) (by kernel_rfl) (by kernel_rfl) Hx10 (by kernel_rfl) (d := none) (by kernel_rfl) rfl (fun w4 H5 K6 => ?_)
  clear Hx10
  replace K0 := K0.t1 K6 (fun _ => rfl)
  clear K6
  refine od ?_
  refine rsQ ?_
  have hyv := hy w4 K0
  rw [if_pos h1] at hyv
  refine qr_opsR (by kernel_rfl) ?_
  refine OpsR.regs Open.wide (by kernel_rfl) 1 [(0, (Value.func (Fn.yield ln) #[] #[])), (1, (ptr b2)), (2, (ptr b3)), (10, (ptr b10)), (12, (Value.slice LA nl lc)), (13, (i64 ((nl : Nat) : Int))), (14, (i64 ((i : Nat) : Int))), (91, (Value.func (Fn.yield ln) #[] #[]))] (j := 1) (by kernel_rfl) (by kernel_rfl) ?_
  refine OpsR.go Open.wide (by kernel_rfl) (v := (agg [(Value.slice A n c), (Value.int IntKind.u64 ((d : Nat) : Int)), (i64 (lf - 1)), (ptr lb)])) (by kernel_rfl) (rld 73 b10 0 H5) (d := some 92) (by kernel_rfl) rfl ?_
  refine OpsR.yield Open.wide (by kernel_rfl) (l := ln) (args := #[(agg [(Value.slice A n c), (Value.int IntKind.u64 ((d : Nat) : Int)), (i64 (lf - 1)), (ptr lb)])]) (at?_opn (by kernel_rfl)) (by kernel_rfl) hyv ?_
  rintro _ w9 ⟨rfl, hj9, k9⟩
  refine ⟨_, _, rfl, rfl, ?_⟩
  have k8 := K0.trans k9 (U := fun i => T i ∨ i = b10) (fun i _ h => .inr h) (fun i _ h => .inl h)
  refine OpsR.regs Open.wide (by kernel_rfl) 1 [(0, (Value.func (Fn.yield ln) #[] #[])), (1, (ptr b2)), (2, (ptr b3)), (12, (Value.slice LA nl lc)), (13, (i64 ((nl : Nat) : Int))), (14, (i64 ((i : Nat) : Int))), (94, (Value.bool false))] (j := 4) (by kernel_rfl) (by kernel_rfl) ?_
  refine OpsR.done (by kernel_rfl) ?_
  refine qr_else (o := .tmp 94) (by kernel_rfl) rfl ?_
  refine qr_keep (R := [(0, .func (Fn.yield ln) #[] #[]), (1, ptr b2), (2, ptr b3), (12, .slice LA nl lc), (13, i64 ↑nl), (14, i64 ↑i)]) (by kernel_rfl) ?_
  refine rkQ ?_
  exact hQ _ hj9 k8
 ·rw [h1]
  have p7 : x.c.told = false := h1
  refine rkQ ?_
  refine rsQ ?_
  have hyv := hy w K0
  rw [if_neg (by rw [h1]; decide)] at hyv
  refine qr_opsR (by kernel_rfl) ?_
  refine OpsR.regs Open.wide (by kernel_rfl) 1 [(0, (Value.func (Fn.yield ln) #[] #[])), (1, (ptr b2)), (2, (ptr b3)), (10, (ptr b10)), (12, (Value.slice LA nl lc)), (13, (i64 ((nl : Nat) : Int))), (14, (i64 ((i : Nat) : Int))), (91, (Value.func (Fn.yield ln) #[] #[]))] (j := 1) (by kernel_rfl) (by kernel_rfl) ?_
  refine OpsR.go Open.wide (by kernel_rfl) (v := (agg [(Value.slice A n c), (Value.int IntKind.u64 ((d : Nat) : Int)), (i64 lf), (ptr lb)])) (by kernel_rfl) (rld 73 b10 0 Hx10) (d := some 92) (by kernel_rfl) rfl ?_
  refine OpsR.yield Open.wide (by kernel_rfl) (l := ln) (args := #[(agg [(Value.slice A n c), (Value.int IntKind.u64 ((d : Nat) : Int)), (i64 lf), (ptr lb)])]) (at?_opn (by kernel_rfl)) (by kernel_rfl) hyv ?_
  rintro _ w9 ⟨rfl, hj9, k9⟩
  refine ⟨_, _, rfl, rfl, ?_⟩
  have k8 := K0.trans k9 (U := fun i => T i ∨ i = b10) (fun i _ h => .inr h) (fun i _ h => .inl h)
  refine OpsR.regs Open.wide (by kernel_rfl) 1 [(0, (Value.func (Fn.yield ln) #[] #[])), (1, (ptr b2)), (2, (ptr b3)), (12, (Value.slice LA nl lc)), (13, (i64 ((nl : Nat) : Int))), (14, (i64 ((i : Nat) : Int))), (94, (Value.bool false))] (j := 4) (by kernel_rfl) (by kernel_rfl) ?_
  refine OpsR.done (by kernel_rfl) ?_
  refine qr_else (o := .tmp 94) (by kernel_rfl) rfl ?_
  refine qr_keep (R := [(0, .func (Fn.yield ln) #[] #[]), (1, ptr b2), (2, ptr b3), (12, .slice LA nl lc), (13, i64 ↑nl), (14, i64 ↑i)]) (by kernel_rfl) ?_
  refine rkQ ?_
  exact hQ _ hj9 k8
end Go.Proofs.YtnbcghbgeiocbaaDoor
namespace Go.Proofs.YtnbcghbgeiocbaaDoor
open Go.Q Go.RowKit
set_option maxHeartbeats 4000000 in
theorem Do_calls (w : World) (b mb kb : Nat) (m : List (List UInt8 × Int)) (S : List RowM) (K : List KeptM) (o : Opm) (Hb : Has w b (rowL [.map (some mb), .map (some kb)] 110)) (Hm : HasMap w mb kstr ki64 m) (Hk : HasMap w kb kpair keptv (K.map KeptM.kv)) (hne : b ≠ mb ∧ b ≠ kb ∧ mb ≠ kb) (hB : LBook m S K) (hr : -9223372036854775808 ≤ o.amount ∧ o.amount ≤ 9223372036854775807) (hSl : S.length ≤ 1000) : Calls Tryd.prog 49 ⟨[(ptr b), (agg (Opm.cells o))]⟩ w (fun e w' => ∃ m' A c, e = .returned (agg [i64 (doR S K o).why, i64 (doR S K o).amount, .slice A (doR S K o).rows.length c]) ∧ Keeps (fun i => i = mb ∨ i = kb) w w' ∧ HasMap w' mb kstr ki64 m' ∧ HasMap w' kb kpair keptv ((doK S K o).map KeptM.kv) ∧ LBook m' (doS S K o) (doK S K o) ∧ OwnR w' w.heap.size 98 (.slice A (doR S K o).rows.length c) (doR S K o).rows) := by
 have Hbl := Hb.lt
 have Hml := Hm.lt
 have Hkl := Hk.lt
 have hL := hB.lmap
 have K0 : Keeps (fun i => i = mb ∨ i = kb) w w := (Keeps.refl w).mono (fun _ _ h => h.elim)
 refine q_calls Tryd.func49 (by kernel_rfl) (by kernel_rfl) ?_
 refine qsg ?_
 refine onew (rowL (Opm.cells o) 24) (fun b => (ptr b)) 3 (fun b => rfl) (fun b1 w2 hb3 H4 K5 hs6 => ?_)
 have lb1b : b < b1 := by have := Hb.lt; omega
 have lb1mb : mb < b1 := by have := Hm.lt; omega
 have lb1kb : kb < b1 := by have := Hk.lt; omega
 have nb1 : w.heap.size ≤ b1 := by have := K0.size; omega
 replace K0 := K0.tn K5
 replace Hb := Hb.kn K5
 replace Hm := Hm.kn K5
 replace Hk := Hk.kn K5
 clear K5 hs6
 refine onew (rowL [(i64 0), (i64 0), (Value.slice none 0 0)] 28) (fun b => (ptr b)) 4 (fun b => rfl) (fun b7 w8 hb9 H10 K11 hs12 => ?_)
 have lb7b : b < b7 := by have := Hb.lt; omega
 have lb7mb : mb < b7 := by have := Hm.lt; omega
 have lb7kb : kb < b7 := by have := Hk.lt; omega
 have lb7b1 : b1 < b7 := by have := H4.lt; omega
 have nb7 : w.heap.size ≤ b7 := by have := K0.size; omega
 replace K0 := K0.tn K11
 replace Hb := Hb.kn K11
 replace Hm := Hm.kn K11
 replace Hk := Hk.kn K11
 replace H4 := H4.kn K11
 clear K11 hs12
 refine od ?_
 refine qs ?_
 refine qsg ?_
 refine ogd 2 [(0, ptr b), (3, ptr b1), (4, ptr b7), (13, .bool false)] ?_
 refine q_else (o := .tmp 13) (by kernel_rfl) rfl ?_
 refine qkQ ?_
 refine qs ?_
 refine qsg ?_
 refine ogo (agg (Opm.cells o)) 15 (rld 24 b1 0 H4) rfl ?_
 refine ocQ 16 (Wrong_calls _ o) ?_
 rintro _ w14 ⟨rfl, K13⟩
 refine ⟨_, _, rfl, rfl, ?_⟩
 replace K0 := K0.tn K13
 replace Hb := Hb.kn K13
 replace Hm := Hm.kn K13
 replace Hk := Hk.kn K13
 replace H4 := H4.kn K13
 replace H10 := H10.kn K13
 refine odz 1 ?_
 refine qsg ?_
 refine ogd 2 [(0, ptr b), (3, ptr b1), (4, ptr b7), (5, (i64 (wrongE o))), (18, (Value.bool ((wrongE o) != 0)))] ?_
 refine qcQ 18 ((wrongE o) != 0) rfl (fun h15 => ?_) (fun h15 => ?_)
 ·rw [h15]
  have p16 := of_bne_t h15
  refine qsg ?_
  refine og 2 [(0, ptr b), (3, ptr b1), (4, ptr b7), (20, (agg [(i64 (wrongE o)), (i64 0), (Value.slice none 0 0)]))] 2 ?_
  refine oput 28 b7 [(i64 (wrongE o)), (i64 0), (Value.slice none 0 0)] H10 rfl (fun w17 H18 K19 => ?_)
  replace K0 := K0.t1 K19 fun _ => by show b7 = mb ∨ b7 = kb; omega
  replace Hm := Hm.k1 K19 (by omega)
  replace Hk := Hk.k1 K19 (by omega)
  refine od ?_
  refine qtQ ?_
  refine ⟨(agg [(i64 (wrongE o)), (i64 0), (Value.slice none 0 0)]), retv_cell rfl rfl (H18.loads (by kernel_rfl)), ?_⟩
  have e0 := do_wrong (S := S) (K := K) (o := o) (by omega)
  obtain ⟨e1, e2, e3⟩ := e0
  rw [e1, e2, e3]
  exact ⟨_, none, 0, rfl, K0, Hm, Hk, hB, (OwnT.nil _ _ _ _ _)⟩
 ·rw [h15]
  have p20 := of_bne_f h15
  have hw : wrongE o = 0 := by omega
  refine qkQ ?_
  refine qs ?_
  refine q_draw (fun wz => Keeps none_ w14 wz) 12 (by kernel_rfl) (by kernel_rfl) (by kernel_rfl) (fun w21 K22 _ _ => ⟨K22, ?_⟩)
  replace K0 := K0.tn K22
  replace Hb := Hb.kn K22
  replace Hm := Hm.kn K22
  replace Hk := Hk.kn K22
  replace H4 := H4.kn K22
  replace H10 := H10.kn K22
  refine Dr.strong (S' := (fun wz => Keeps none_ w21 wz)) (Keeps.refl w21) (fun wz hx => K22.trans hx (fun i _ h => h) (fun _ _ h => h)) ?_
  refine dkQ 9 [0, 1, 2] [(0, ptr b), (3, ptr b1), (4, ptr b7), (24, ptr b)] ?_
  refine dtQ 3 (Value.map (some mb)) 25 (fun wz hS => rld 107 b 0 (Hb.keep hS (fun h => h))) rfl ?_
  refine dkQ 7 [4] [(0, ptr b), (3, ptr b1), (4, ptr b7), (25, .map (some mb)), (26, .pointer (some ⟨b1, 1, none⟩))] ?_
  refine dtQ 5 (Value.string (str o.frm)) 27 (fun wz hS => rld 9 b1 1 (H4.keep hS (fun h => h))) rfl ?_
  rcases hg23 : getM m o.frm with _ | y24
  ·skip
   have hw25 := hL.got_none hg23
   refine dtQ 6 (Value.tuple #[(i64 0), (Value.bool false)]) 28 (fun wz hS => Runs.lookup_none (ok := true) (z := (i64 0)) KT Tryd.underlying107 (by kernel_rfl) (Hm.keep hS (fun h => h)) hg23 (by kernel_rfl)) rfl ?_
   refine dkQ 0 [7, 8, 9, 10, 11] [(0, ptr b), (3, ptr b1), (4, ptr b7), (6, i64 0), (7, .bool false)] ?_
   refine Dr.done (by kernel_rfl) ?_
   refine qs ?_
   refine qsg ?_
   refine og 1 [(0, ptr b), (3, ptr b1), (4, ptr b7), (6, i64 0), (7, .bool false), (31, ptr b1)] 1 ?_
   refine ogo (i64 o.kind) 32 (rld 3 b1 0 H4) rfl ?_
   refine od ?_
   refine q_block (id := 0) (by kernel_rfl) ?_
   refine qsg ?_
   refine ogd 2 [(0, ptr b), (3, ptr b1), (4, ptr b7), (6, i64 0), (7, .bool false), (32, i64 o.kind), (33, .bool (o.kind == 7))] ?_
   refine qcQ 33 (o.kind == 7) rfl (fun h26 => ?_) (fun h26 => ?_)
   ·rw [h26]
    have p27 := of_beq_t h26
    refine qsg ?_
    refine og 1 [(0, ptr b), (3, ptr b1), (4, ptr b7), (6, i64 0), (7, .bool false), (32, i64 o.kind), (35, (agg [(i64 0), (i64 0), (Value.slice none 0 0)]))] 1 ?_
    refine oput 28 b7 [(i64 0), (i64 0), (Value.slice none 0 0)] H10 rfl (fun w28 H29 K30 => ?_)
    replace K0 := K0.t1 K30 fun _ => by show b7 = mb ∨ b7 = kb; omega
    replace Hm := Hm.k1 K30 (by omega)
    replace Hk := Hk.k1 K30 (by omega)
    refine od ?_
    refine qtQ ?_
    refine ⟨(agg [(i64 0), (i64 0), (Value.slice none 0 0)]), retv_cell rfl rfl (H29.loads (by kernel_rfl)), ?_⟩
    have e0 := do_move (S := S) (K := K) (o := o) hw (by omega)
    obtain ⟨e1, e2, e3⟩ := e0
    rw [e1, e2, e3]
    exact ⟨_, none, 0, rfl, K0, Hm, Hk, hB, (OwnT.nil _ _ _ _ _)⟩
   ·rw [h26]
    have p31 := of_beq_f h26
    refine qsg ?_
    refine ogd 2 [(0, ptr b), (3, ptr b1), (4, ptr b7), (6, i64 0), (7, .bool false), (32, i64 o.kind), (36, .bool (o.kind == 6))] ?_
    refine qcQ 36 (o.kind == 6) rfl (fun h32 => ?_) (fun h32 => ?_)
    ·rw [h32]
     have p33 := of_beq_t h32
     refine qsg ?_
     refine og 1 [(0, ptr b), (3, ptr b1), (4, ptr b7), (6, i64 0), (7, .bool false), (32, i64 o.kind), (38, ptr b)] 1 ?_
     refine ocQ 39 (rows_calls _ b mb kb m S Hb Hm (by omega) hL (by omega)) ?_
     rintro _ w36 ⟨A34, c35, rfl, K37, hO38⟩
     have ob44 : ∀ i, Ow (.slice A34 S.length c35) i → i ≠ b7 := fun i hi => by have := (World.ownsRow.lt hO38 i hi).1; have := H10.lt; omega
     have O39 := own_base hO38 K0.size
     refine ⟨_, _, rfl, rfl, ?_⟩
     replace K0 := K0.tn K37
     replace Hm := Hm.kn K37
     replace Hk := Hk.kn K37
     replace H10 := H10.kn K37
     refine og 1 [(0, ptr b), (3, ptr b1), (4, ptr b7), (6, i64 0), (7, .bool false), (32, i64 o.kind), (40, (agg [(i64 0), (i64 0), (Value.slice A34 S.length c35)]))] 3 ?_
     refine oput 28 b7 [(i64 0), (i64 0), (Value.slice A34 S.length c35)] H10 rfl (fun w45 H46 K47 => ?_)
     replace K0 := K0.t1 K47 fun _ => by show b7 = mb ∨ b7 = kb; omega
     replace Hm := Hm.k1 K47 (by omega)
     replace Hk := Hk.k1 K47 (by omega)
     replace O39 := own_keep O39 K47 (fun i hi => by have := ob44 i hi; omega)
     refine od ?_
     refine qtQ ?_
     refine ⟨(agg [(i64 0), (i64 0), (Value.slice A34 S.length c35)]), retv_cell rfl rfl (H46.loads (by kernel_rfl)), ?_⟩
     have e0 := do_audit (S := S) (K := K) (o := o) hw (by omega)
     obtain ⟨e1, e2, e3⟩ := e0
     rw [e1, e2, e3]
     exact ⟨_, A34, c35, rfl, K0, Hm, Hk, hB, O39⟩
    ·rw [h32]
     have p48 := of_beq_f h32
     refine qsg ?_
     refine ogd 2 [(0, ptr b), (3, ptr b1), (4, ptr b7), (6, i64 0), (7, .bool false), (41, .bool (o.kind == 5))] ?_
     refine qcQ 41 (o.kind == 5) rfl (fun h49 => ?_) (fun h49 => ?_)
     ·rw [h49]
      have p50 := of_beq_t h49
      refine qs ?_
      refine qsg ?_
      refine ogd 2 [(0, ptr b), (3, ptr b1), (4, ptr b7), (6, i64 0), (7, .bool false), (44, .bool true)] ?_
      refine q_then (o := .tmp 44) (by kernel_rfl) rfl ?_
      refine qsg ?_
      refine og 1 [(0, ptr b), (3, ptr b1), (4, ptr b7), (6, i64 0), (7, .bool false), (45, (agg [(i64 40), (i64 0), (Value.slice none 0 0)]))] 1 ?_
      refine oput 28 b7 [(i64 40), (i64 0), (Value.slice none 0 0)] H10 rfl (fun w51 H52 K53 => ?_)
      replace K0 := K0.t1 K53 fun _ => by show b7 = mb ∨ b7 = kb; omega
      replace Hm := Hm.k1 K53 (by omega)
      replace Hk := Hk.k1 K53 (by omega)
      refine od ?_
      refine qtQ ?_
      refine ⟨(agg [(i64 40), (i64 0), (Value.slice none 0 0)]), retv_cell rfl rfl (H52.loads (by kernel_rfl)), ?_⟩
      have e0 := do_bal_none (S := S) (K := K) (o := o) hw (by omega) hw25
      obtain ⟨e1, e2, e3⟩ := e0
      rw [e1, e2, e3]
      exact ⟨_, none, 0, rfl, K0, Hm, Hk, hB, (OwnT.nil _ _ _ _ _)⟩
     ·rw [h49]
      have p54 := of_beq_f h49
      have hwa := wrong_act hw (by omega) (by omega) (by omega)
      have hro : -9223372036854775808 ≤ (plainE o).amount ∧ (plainE o).amount ≤ 9223372036854775807 := by unfold plainE; simp only; split <;> omega
      refine qkQ ?_
      refine qsg ?_
      refine ogo (agg (Opm.cells o)) 48 (rld 24 b1 0 H4) rfl ?_
      refine ocQ 49 (plain_calls _ o) ?_
      rintro _ w56 ⟨rfl, K55⟩
      refine ⟨_, _, rfl, rfl, ?_⟩
      replace K0 := K0.tn K55
      replace Hb := Hb.kn K55
      replace Hm := Hm.kn K55
      replace Hk := Hk.kn K55
      replace H4 := H4.kn K55
      replace H10 := H10.kn K55
      refine oput 24 b1 [(i64 o.kind), (Value.string (str o.frm)), (Value.string (str ((plainE o).to))), (i64 ((plainE o).amount)), (Value.string (str o.key)), (i64 0), (i64 0)] H4 rfl (fun w57 H58 K59 => ?_)
      clear H4
      replace K0 := K0.t1 K59 fun _ => by show b1 = mb ∨ b1 = kb; omega
      replace Hb := Hb.k1 K59 (by omega)
      replace Hm := Hm.k1 K59 (by omega)
      replace Hk := Hk.k1 K59 (by omega)
      replace H10 := H10.k1 K59 (by omega)
      refine od ?_
      refine qsg ?_
      refine og 1 [(0, ptr b), (3, ptr b1), (4, ptr b7), (6, i64 0), (7, .bool false), (50, .pointer (some ⟨b1, 1, none⟩))] 1 ?_
      refine ogo (Value.string (str o.frm)) 51 (rld 9 b1 1 H58) rfl ?_
      refine og 1 [(0, ptr b), (3, ptr b1), (4, ptr b7), (6, i64 0), (7, .bool false), (51, .string (str o.frm)), (52, .pointer (some ⟨b1, 4, none⟩))] 3 ?_
      refine ogo (Value.string (str o.key)) 53 (rld 9 b1 4 H58) rfl ?_
      refine og 1 [(0, ptr b), (3, ptr b1), (4, ptr b7), (6, i64 0), (7, .bool false), (54, (agg [(Value.string (str o.frm)), (Value.string (str o.key))]))] 5 ?_
      refine onew (rowL [(Value.string ByteArray.empty), (Value.string ByteArray.empty)] 116) (fun b => (ptr b)) 8 (fun b => rfl) (fun b60 w61 hb62 H63 K64 hs65 => ?_)
      have lb60b : b < b60 := by have := Hb.lt; omega
      have lb60mb : mb < b60 := by have := Hm.lt; omega
      have lb60kb : kb < b60 := by have := Hk.lt; omega
      have lb60b1 : b1 < b60 := by have := H58.lt; omega
      have lb60b7 : b7 < b60 := by have := H10.lt; omega
      have nb60 : w.heap.size ≤ b60 := by have := K0.size; omega
      replace K0 := K0.tn K64
      replace Hb := Hb.kn K64
      replace Hm := Hm.kn K64
      replace Hk := Hk.kn K64
      replace H58 := H58.kn K64
      replace H10 := H10.kn K64
      clear K64 hs65
      refine oput 116 b60 [(Value.string (str o.frm)), (Value.string (str o.key))] H63 rfl (fun w66 H67 K68 => ?_)
      replace K0 := K0.t1 K68 fun _ => by show b60 = mb ∨ b60 = kb; omega
      replace Hb := Hb.k1 K68 (by omega)
      replace Hm := Hm.k1 K68 (by omega)
      replace Hk := Hk.k1 K68 (by omega)
      replace H58 := H58.k1 K68 (by omega)
      replace H10 := H10.k1 K68 (by omega)
      refine od ?_
      refine qs ?_
      refine qs ?_
      refine q_draw (fun wz => Keeps none_ w66 wz) 12 (by kernel_rfl) (by kernel_rfl) (by kernel_rfl) (fun w69 K70 _ _ => ⟨K70, ?_⟩)
      replace K0 := K0.tn K70
      replace Hb := Hb.kn K70
      replace Hm := Hm.kn K70
      replace Hk := Hk.kn K70
      replace H58 := H58.kn K70
      replace H10 := H10.kn K70
      replace H67 := H67.kn K70
      refine Dr.strong (S' := (fun wz => Keeps none_ w69 wz)) (Keeps.refl w69) (fun wz hx => K70.trans hx (fun i _ h => h) (fun _ _ h => h)) ?_
      refine dkQ 9 [0, 1, 2] [(0, ptr b), (3, ptr b1), (4, ptr b7), (6, i64 0), (7, .bool false), (8, ptr b60), (58, .pointer (some ⟨b, 1, none⟩))] ?_
      refine dtQ 3 (Value.map (some kb)) 59 (fun wz hS => rld 108 b 1 (Hb.keep hS (fun h => h))) rfl ?_
      refine dtQ 4 (agg [(Value.string (str o.frm)), (Value.string (str o.key))]) 60 (fun wz hS => rld 116 b60 0 (H67.keep hS (fun h => h))) rfl ?_
      rcases hg71 : getM (K.map KeptM.kv) (o.frm, o.key) with _ | y72
      ·skip
       have hk73 : findK K o.frm o.key = none := hg71
       refine dtQ 5 (Value.tuple #[(agg [(i64 0), (Value.string ByteArray.empty), (Value.string ByteArray.empty), (i64 0), (Value.string ByteArray.empty), (i64 0), (i64 0), (i64 0)]), (Value.bool false)]) 61 (fun wz hS => Runs.lookup_none (ok := true) (z := (agg [(i64 0), (Value.string ByteArray.empty), (Value.string ByteArray.empty), (i64 0), (Value.string ByteArray.empty), (i64 0), (i64 0), (i64 0)])) KT2 Tryd.underlying108 (by kernel_rfl) (Hk.keep hS (fun h => h)) hg71 (by kernel_rfl)) rfl ?_
       refine dkQ 3 [6, 7, 8] [(0, ptr b), (3, ptr b1), (4, ptr b7), (6, i64 0), (7, .bool false), (8, ptr b60), (62, (agg [(i64 0), (Value.string ByteArray.empty), (Value.string ByteArray.empty), (i64 0), (Value.string ByteArray.empty), (i64 0), (i64 0), (i64 0)])), (63, .bool false)] ?_
       refine Dr.new (i := 9) (o := rowL [(i64 0), (Value.string ByteArray.empty), (Value.string ByteArray.empty), (i64 0), (Value.string ByteArray.empty), (i64 0), (i64 0), (i64 0)] 118) (V := fun b => (ptr b)) (by kernel_rfl) (by kernel_rfl) (d := (some 9)) (by kernel_rfl) (fun b => rfl) (fun b74 w75 hb76 H77 K78 hs79 => ?_)
       have lb74b : b < b74 := by have := Hb.lt; omega
       have lb74mb : mb < b74 := by have := Hm.lt; omega
       have lb74kb : kb < b74 := by have := Hk.lt; omega
       have lb74b1 : b1 < b74 := by have := H58.lt; omega
       have lb74b7 : b7 < b74 := by have := H10.lt; omega
       have lb74b60 : b60 < b74 := by have := H67.lt; omega
       have nb74 : w.heap.size ≤ b74 := by have := K0.size; omega
       replace K0 := K0.tn K78
       replace Hb := Hb.kn K78
       replace Hm := Hm.kn K78
       replace Hk := Hk.kn K78
       replace H58 := H58.kn K78
       replace H10 := H10.kn K78
       replace H67 := H67.kn K78
       refine ⟨K78, ?_⟩
       refine Dr.strong (S' := (fun wz => Keeps (fun i => i = b74) w75 wz)) ((Keeps.refl w75).mono (fun _ _ h => h.elim)) (fun wz hx => K78.trans hx (U := none_) (fun i _ h => h) (fun i hi h => by have h : i = b74 := h; exfalso; omega)) ?_
       clear K78 hs79
       refine Dr.put (i := 10) (t := 118) (b := b74) (off := 0) (v := (agg [(i64 0), (Value.string ByteArray.empty), (Value.string ByteArray.empty), (i64 0), (Value.string ByteArray.empty), (i64 0), (i64 0), (i64 0)])) (ys := [(i64 0), (Value.string ByteArray.empty), (Value.string ByteArray.empty), (i64 0), (Value.string ByteArray.empty), (i64 0), (i64 0), (i64 0)]) (by kernel_rfl) (by kernel_rfl) (by kernel_rfl) H77 (by kernel_rfl) (d := none) (by kernel_rfl) rfl (fun w80 H81 K82 => ?_)
       replace K0 := K0.t1 K82 fun _ => by show b74 = mb ∨ b74 = kb; omega
       replace Hb := Hb.k1 K82 (by omega)
       replace Hm := Hm.k1 K82 (by omega)
       replace Hk := Hk.k1 K82 (by omega)
       replace H58 := H58.k1 K82 (by omega)
       replace H10 := H10.k1 K82 (by omega)
       replace H67 := H67.k1 K82 (by omega)
       refine ⟨K82, ?_⟩
       refine Dr.strong (S' := (fun wz => Keeps (fun i => i = b74) w80 wz)) ((Keeps.refl w80).mono (fun _ _ h => h.elim)) (fun wz hx => K82.trans hx (fun i _ h => by have h : i = b74 := h; show i = b74; omega) (fun _ _ h => h)) ?_
       refine dkQ 0 [11] [(0, ptr b), (3, ptr b1), (4, ptr b7), (6, i64 0), (7, .bool false), (8, ptr b60), (9, ptr b74), (10, .bool false)] ?_
       refine Dr.done (by kernel_rfl) ?_
       refine qsg ?_
       refine ogd 1 [(0, ptr b), (3, ptr b1), (4, ptr b7), (6, i64 0), (7, .bool false), (8, ptr b60), (9, ptr b74), (64, .bool false)] ?_
       refine q_else (o := .tmp 64) (by kernel_rfl) rfl ?_
       refine qkQ ?_
       refine qsg ?_
       refine og 1 [(0, ptr b), (3, ptr b1), (4, ptr b7), (6, i64 0), (7, .bool false), (8, ptr b60), (73, ptr b)] 1 ?_
       refine ogo (agg [(i64 o.kind), (Value.string (str o.frm)), (Value.string (str ((plainE o).to))), (i64 ((plainE o).amount)), (Value.string (str o.key)), (i64 0), (i64 0)]) 74 (rld 24 b1 0 H58) rfl ?_
       refine og 2 [(0, ptr b), (3, ptr b1), (4, ptr b7), (8, ptr b60), (73, ptr b), (74, (agg [(i64 o.kind), (Value.string (str o.frm)), (Value.string (str ((plainE o).to))), (i64 ((plainE o).amount)), (Value.string (str o.key)), (i64 0), (i64 0)])), (75, i64 0), (76, .bool false)] 4 ?_
       refine ocQ 77 (act_none _ b mb kb m S (plainE o) Hb Hm (by omega) hL hwa.1 hwa.2.1 (fun q => by have h1 := hwa.2.2.2.1 q; have h2 := plainE_amount o q; omega) hro (fun q => by have h2 := plainE_to o q; rw [h2]; exact (hwa.2.2.2.2 q).2) hg23) ?_
       rintro _ w84 ⟨m83, rfl, K85, Hm86, hL87⟩
       refine ⟨_, _, rfl, rfl, ?_⟩
       replace K0 := K0.t1 K85 fun _ => by show mb = mb ∨ mb = kb; omega
       replace Hb := Hb.k1 K85 (by omega)
       replace Hk := Hk.k1 K85 (by omega)
       replace H58 := H58.k1 K85 (by omega)
       replace H10 := H10.k1 K85 (by omega)
       replace H67 := H67.k1 K85 (by omega)
       refine ogd 1 [(0, ptr b), (3, ptr b1), (4, ptr b7), (8, ptr b60), (11, (i64 (actE S (plainE o))))] ?_
       refine qs ?_
       refine q_draw (fun wz => Keeps (fun i => i = kb) w84 wz) 9 (by kernel_rfl) (by kernel_rfl) (by kernel_rfl) (fun w88 K89 _ _ => ⟨(K89.mono (fun _ _ h => h.elim)), ?_⟩)
       replace K0 := K0.tn K89
       replace Hb := Hb.kn K89
       replace Hm86 := Hm86.kn K89
       replace Hk := Hk.kn K89
       replace H58 := H58.kn K89
       replace H10 := H10.kn K89
       replace H67 := H67.kn K89
       refine Dr.strong (S' := (fun wz => Keeps (fun i => i = kb) w88 wz)) ((Keeps.refl w88).mono (fun _ _ h => h.elim)) (fun wz hx => K89.trans hx (fun i _ h => h.elim) (fun _ _ h => h)) ?_
       refine dkQ 6 [0, 1, 2] [(3, ptr b1), (4, ptr b7), (8, ptr b60), (11, (i64 (actE S (plainE o)))), (80, .pointer (some ⟨b, 1, none⟩))] ?_
       refine dtQ 3 (Value.map (some kb)) 81 (fun wz hS => rld 108 b 1 (Hb.keep hS (by intro h; change b = kb at h; omega))) rfl ?_
       refine dtQ 4 (agg [(Value.string (str o.frm)), (Value.string (str o.key))]) 82 (fun wz hS => rld 116 b60 0 (H67.keep hS (by intro h; change b60 = kb at h; omega))) rfl ?_
       refine dtQ 5 (agg [(i64 o.kind), (Value.string (str o.frm)), (Value.string (str ((plainE o).to))), (i64 ((plainE o).amount)), (Value.string (str o.key)), (i64 0), (i64 0)]) 83 (fun wz hS => rld 24 b1 0 (H58.keep hS (by intro h; change b1 = kb at h; omega))) rfl ?_
       refine dkQ 1 [6, 7] [(4, ptr b7), (11, (i64 (actE S (plainE o)))), (81, .map (some kb)), (82, (agg [(Value.string (str o.frm)), (Value.string (str o.key))])), (85, (agg [(i64 o.kind), (Value.string (str o.frm)), (Value.string (str ((plainE o).to))), (i64 ((plainE o).amount)), (Value.string (str o.key)), (i64 0), (i64 0), (i64 (actE S (plainE o)))]))] ?_
       obtain ⟨w90, hr91, K92, H93⟩ := HasMap.update KT2 Tryd.underlying108 Hk (o.frm, o.key) (⟨(plainE o), actE S (plainE o)⟩ : KeptM)
       refine Dr.goU (i := 8) (by kernel_rfl) (by kernel_rfl) (RunsU.of_update (by kernel_rfl) hr91) (d := none) (by kernel_rfl) rfl K92 ?_
       clear Hk
       replace K0 := K0.t1 K92 fun _ => by show kb = mb ∨ kb = kb; omega
       replace Hm86 := Hm86.k1 K92 (by omega)
       replace H10 := H10.k1 K92 (by omega)
       refine Dr.strong (S' := (fun wz => Keeps (fun i => i = kb) w90 wz)) ((Keeps.refl w90).mono (fun _ _ h => h.elim)) (fun wz hx => K92.trans hx (fun i _ h => by have h : i = kb := h; show i = kb; omega) (fun _ _ h => h)) ?_
       clear K92 hr91
       refine Dr.done (by kernel_rfl) ?_
       refine qsg ?_
       refine og 2 [(4, ptr b7), (87, (agg [(i64 (actE S (plainE o))), (i64 0), (Value.slice none 0 0)]))] 2 ?_
       refine oput 28 b7 [(i64 (actE S (plainE o))), (i64 0), (Value.slice none 0 0)] H10 rfl (fun w94 H95 K96 => ?_)
       replace K0 := K0.t1 K96 fun _ => by show b7 = mb ∨ b7 = kb; omega
       replace Hm86 := Hm86.k1 K96 (by omega)
       replace H93 := H93.k1 K96 (by omega)
       refine od ?_
       refine qtQ ?_
       refine ⟨(agg [(i64 (actE S (plainE o))), (i64 0), (Value.slice none 0 0)]), retv_cell rfl rfl (H95.loads (by kernel_rfl)), ?_⟩
       have e0 := do_fresh (S := S) (K := K) (o := o) hw (by omega) (by omega) (by omega) hk73
       obtain ⟨e1, e2, e3⟩ := e0
       rw [e1, e2, e3]
       exact ⟨_, none, 0, rfl, K0, Hm86, by have h := H93; rwa [show putM (K.map KeptM.kv) (o.frm, o.key) (⟨plainE o, actE S (plainE o)⟩ : KeptM) = _ from putM_kept (x := ⟨plainE o, actE S (plainE o)⟩) hk73] at h, hB.fresh hw (by omega) (by omega) (by omega) hk73 hr hL87, (OwnT.nil _ _ _ _ _)⟩
      ·skip
       have hk97 : findK K o.frm o.key = some y72 := hg71
       have hy98 := hB.ledg.ok _ (findK_some hk97).1
       have hy99 := hy98.why
       have hy100 := hy98.kind
       refine dtQ 5 (Value.tuple #[(agg [(i64 y72.op.kind), (Value.string (str y72.op.frm)), (Value.string (str y72.op.to)), (i64 y72.op.amount), (Value.string (str y72.op.key)), (i64 y72.op.slot), (i64 y72.op.shard), (i64 y72.why)]), (Value.bool true)]) 61 (fun wz hS => Runs.lookup_some (ok := true) (vf := keptv) (a := (⟨y72.op, y72.why⟩ : KeptM)) KT2 Tryd.underlying108 (Hk.keep hS (fun h => h)) hg71 (by kernel_rfl)) rfl ?_
       refine dkQ 3 [6, 7, 8] [(0, ptr b), (3, ptr b1), (4, ptr b7), (6, i64 0), (7, .bool false), (8, ptr b60), (62, (agg [(i64 y72.op.kind), (Value.string (str y72.op.frm)), (Value.string (str y72.op.to)), (i64 y72.op.amount), (Value.string (str y72.op.key)), (i64 y72.op.slot), (i64 y72.op.shard), (i64 y72.why)])), (63, .bool true)] ?_
       refine Dr.new (i := 9) (o := rowL [(i64 0), (Value.string ByteArray.empty), (Value.string ByteArray.empty), (i64 0), (Value.string ByteArray.empty), (i64 0), (i64 0), (i64 0)] 118) (V := fun b => (ptr b)) (by kernel_rfl) (by kernel_rfl) (d := (some 9)) (by kernel_rfl) (fun b => rfl) (fun b101 w102 hb103 H104 K105 hs106 => ?_)
       have lb101b : b < b101 := by have := Hb.lt; omega
       have lb101mb : mb < b101 := by have := Hm.lt; omega
       have lb101kb : kb < b101 := by have := Hk.lt; omega
       have lb101b1 : b1 < b101 := by have := H58.lt; omega
       have lb101b7 : b7 < b101 := by have := H10.lt; omega
       have lb101b60 : b60 < b101 := by have := H67.lt; omega
       have nb101 : w.heap.size ≤ b101 := by have := K0.size; omega
       replace K0 := K0.tn K105
       replace Hm := Hm.kn K105
       replace Hk := Hk.kn K105
       replace H58 := H58.kn K105
       replace H10 := H10.kn K105
       refine ⟨K105, ?_⟩
       refine Dr.strong (S' := (fun wz => Keeps (fun i => i = b101) w102 wz)) ((Keeps.refl w102).mono (fun _ _ h => h.elim)) (fun wz hx => K105.trans hx (U := none_) (fun i _ h => h) (fun i hi h => by have h : i = b101 := h; exfalso; omega)) ?_
       clear K105 hs106
       refine Dr.put (i := 10) (t := 118) (b := b101) (off := 0) (v := (agg [(i64 y72.op.kind), (Value.string (str y72.op.frm)), (Value.string (str y72.op.to)), (i64 y72.op.amount), (Value.string (str y72.op.key)), (i64 y72.op.slot), (i64 y72.op.shard), (i64 y72.why)])) (ys := [(i64 y72.op.kind), (Value.string (str y72.op.frm)), (Value.string (str y72.op.to)), (i64 y72.op.amount), (Value.string (str y72.op.key)), (i64 y72.op.slot), (i64 y72.op.shard), (i64 y72.why)]) (by kernel_rfl) (by kernel_rfl) (by kernel_rfl) H104 (by kernel_rfl) (d := none) (by kernel_rfl) rfl (fun w107 H108 K109 => ?_)
       replace K0 := K0.t1 K109 fun _ => by show b101 = mb ∨ b101 = kb; omega
       replace Hm := Hm.k1 K109 (by omega)
       replace Hk := Hk.k1 K109 (by omega)
       replace H58 := H58.k1 K109 (by omega)
       replace H10 := H10.k1 K109 (by omega)
       refine ⟨K109, ?_⟩
       refine Dr.strong (S' := (fun wz => Keeps (fun i => i = b101) w107 wz)) ((Keeps.refl w107).mono (fun _ _ h => h.elim)) (fun wz hx => K109.trans hx (fun i _ h => by have h : i = b101 := h; show i = b101; omega) (fun _ _ h => h)) ?_
       refine dkQ 0 [11] [(0, ptr b), (3, ptr b1), (4, ptr b7), (6, i64 0), (7, .bool false), (8, ptr b60), (9, ptr b101), (10, .bool true)] ?_
       refine Dr.done (by kernel_rfl) ?_
       refine qsg ?_
       refine ogd 1 [(0, ptr b), (3, ptr b1), (4, ptr b7), (6, i64 0), (7, .bool false), (8, ptr b60), (9, ptr b101), (64, .bool true)] ?_
       refine q_then (o := .tmp 64) (by kernel_rfl) rfl ?_
       refine qs ?_
       refine qsg ?_
       refine og 1 [(0, ptr b), (3, ptr b1), (4, ptr b7), (6, i64 0), (7, .bool false), (8, ptr b60), (9, ptr b101), (65, ptr b101)] 1 ?_
       refine ogo (agg (Opm.cells y72.op)) 66 (rld 24 b101 0 H108) rfl ?_
       refine ogo (agg [(i64 o.kind), (Value.string (str o.frm)), (Value.string (str ((plainE o).to))), (i64 ((plainE o).amount)), (Value.string (str o.key)), (i64 0), (i64 0)]) 67 (rld 24 b1 0 H58) rfl ?_
       refine ogo (Value.bool (!(aggB [(i64 y72.op.kind), (Value.string (str y72.op.frm)), (Value.string (str y72.op.to)), (i64 y72.op.amount), (Value.string (str y72.op.key)), (i64 y72.op.slot), (i64 y72.op.shard)] [(i64 o.kind), (Value.string (str o.frm)), (Value.string (str ((plainE o).to))), (i64 ((plainE o).amount)), (Value.string (str o.key)), (i64 0), (i64 0)]))) 68 (Runs.aggne (t := 24) (by kernel_rfl) (by kernel_rfl)) rfl ?_
       refine od ?_
       refine qcQ 68 (!(aggB [(i64 y72.op.kind), (Value.string (str y72.op.frm)), (Value.string (str y72.op.to)), (i64 y72.op.amount), (Value.string (str y72.op.key)), (i64 y72.op.slot), (i64 y72.op.shard)] [(i64 o.kind), (Value.string (str o.frm)), (Value.string (str ((plainE o).to))), (i64 ((plainE o).amount)), (Value.string (str o.key)), (i64 0), (i64 0)])) rfl (fun h110 => ?_) (fun h110 => ?_)
       ·rw [h110]
        have p111 := bnot_true h110
        refine qsg ?_
        refine og 1 [(0, ptr b), (3, ptr b1), (4, ptr b7), (6, i64 0), (7, .bool false), (8, ptr b60), (9, ptr b101), (69, (agg [(i64 45), (i64 0), (Value.slice none 0 0)]))] 1 ?_
        refine oput 28 b7 [(i64 45), (i64 0), (Value.slice none 0 0)] H10 rfl (fun w112 H113 K114 => ?_)
        replace K0 := K0.t1 K114 fun _ => by show b7 = mb ∨ b7 = kb; omega
        replace Hm := Hm.k1 K114 (by omega)
        replace Hk := Hk.k1 K114 (by omega)
        refine od ?_
        refine qtQ ?_
        refine ⟨(agg [(i64 45), (i64 0), (Value.slice none 0 0)]), retv_cell rfl rfl (H113.loads (by kernel_rfl)), ?_⟩
        have e0 := do_other (S := S) (K := K) (o := o) hw (by omega) (by omega) (by omega) hk97 (bnot_true h110)
        obtain ⟨e1, e2, e3⟩ := e0
        rw [e1, e2, e3]
        exact ⟨_, none, 0, rfl, K0, Hm, Hk, hB, (OwnT.nil _ _ _ _ _)⟩
       ·rw [h110]
        have p115 := bnot_false h110
        refine qkQ ?_
        refine qsg ?_
        refine og 1 [(0, ptr b), (3, ptr b1), (4, ptr b7), (6, i64 0), (7, .bool false), (8, ptr b60), (70, .pointer (some ⟨b101, 7, none⟩))] 1 ?_
        refine ogo (i64 y72.why) 71 (rld 25 b101 7 H108) rfl ?_
        refine og 1 [(0, ptr b), (3, ptr b1), (4, ptr b7), (6, i64 0), (7, .bool false), (8, ptr b60), (72, (agg [(i64 y72.why), (i64 0), (Value.slice none 0 0)]))] 3 ?_
        refine oput 28 b7 [(i64 y72.why), (i64 0), (Value.slice none 0 0)] H10 rfl (fun w116 H117 K118 => ?_)
        replace K0 := K0.t1 K118 fun _ => by show b7 = mb ∨ b7 = kb; omega
        replace Hm := Hm.k1 K118 (by omega)
        replace Hk := Hk.k1 K118 (by omega)
        refine od ?_
        refine qtQ ?_
        refine ⟨(agg [(i64 y72.why), (i64 0), (Value.slice none 0 0)]), retv_cell rfl rfl (H117.loads (by kernel_rfl)), ?_⟩
        have e0 := do_again (S := S) (K := K) (o := o) hw (by omega) (by omega) (by omega) hk97 (bnot_false h110)
        obtain ⟨e1, e2, e3⟩ := e0
        rw [e1, e2, e3]
        exact ⟨_, none, 0, rfl, K0, Hm, Hk, hB, (OwnT.nil _ _ _ _ _)⟩
  ·skip
   obtain ⟨hw119, hr120, hr121⟩ := hL.got_some hg23
   refine dtQ 6 (Value.tuple #[(i64 y24), (Value.bool true)]) 28 (fun wz hS => Runs.lookup_some (ok := true) (vf := ki64) (a := y24) KT Tryd.underlying107 (Hm.keep hS (fun h => h)) hg23 (by kernel_rfl)) rfl ?_
   refine dkQ 0 [7, 8, 9, 10, 11] [(0, ptr b), (3, ptr b1), (4, ptr b7), (6, i64 y24), (7, .bool true)] ?_
   refine Dr.done (by kernel_rfl) ?_
   refine qs ?_
   refine qsg ?_
   refine og 1 [(0, ptr b), (3, ptr b1), (4, ptr b7), (6, i64 y24), (7, .bool true), (31, ptr b1)] 1 ?_
   refine ogo (i64 o.kind) 32 (rld 3 b1 0 H4) rfl ?_
   refine od ?_
   refine q_block (id := 0) (by kernel_rfl) ?_
   refine qsg ?_
   refine ogd 2 [(0, ptr b), (3, ptr b1), (4, ptr b7), (6, i64 y24), (7, .bool true), (32, i64 o.kind), (33, .bool (o.kind == 7))] ?_
   refine qcQ 33 (o.kind == 7) rfl (fun h122 => ?_) (fun h122 => ?_)
   ·rw [h122]
    have p123 := of_beq_t h122
    refine qsg ?_
    refine og 1 [(0, ptr b), (3, ptr b1), (4, ptr b7), (6, i64 y24), (7, .bool true), (32, i64 o.kind), (35, (agg [(i64 0), (i64 0), (Value.slice none 0 0)]))] 1 ?_
    refine oput 28 b7 [(i64 0), (i64 0), (Value.slice none 0 0)] H10 rfl (fun w124 H125 K126 => ?_)
    replace K0 := K0.t1 K126 fun _ => by show b7 = mb ∨ b7 = kb; omega
    replace Hm := Hm.k1 K126 (by omega)
    replace Hk := Hk.k1 K126 (by omega)
    refine od ?_
    refine qtQ ?_
    refine ⟨(agg [(i64 0), (i64 0), (Value.slice none 0 0)]), retv_cell rfl rfl (H125.loads (by kernel_rfl)), ?_⟩
    have e0 := do_move (S := S) (K := K) (o := o) hw (by omega)
    obtain ⟨e1, e2, e3⟩ := e0
    rw [e1, e2, e3]
    exact ⟨_, none, 0, rfl, K0, Hm, Hk, hB, (OwnT.nil _ _ _ _ _)⟩
   ·rw [h122]
    have p127 := of_beq_f h122
    refine qsg ?_
    refine ogd 2 [(0, ptr b), (3, ptr b1), (4, ptr b7), (6, i64 y24), (7, .bool true), (32, i64 o.kind), (36, .bool (o.kind == 6))] ?_
    refine qcQ 36 (o.kind == 6) rfl (fun h128 => ?_) (fun h128 => ?_)
    ·rw [h128]
     have p129 := of_beq_t h128
     refine qsg ?_
     refine og 1 [(0, ptr b), (3, ptr b1), (4, ptr b7), (6, i64 y24), (7, .bool true), (32, i64 o.kind), (38, ptr b)] 1 ?_
     refine ocQ 39 (rows_calls _ b mb kb m S Hb Hm (by omega) hL (by omega)) ?_
     rintro _ w132 ⟨A130, c131, rfl, K133, hO134⟩
     have ob140 : ∀ i, Ow (.slice A130 S.length c131) i → i ≠ b7 := fun i hi => by have := (World.ownsRow.lt hO134 i hi).1; have := H10.lt; omega
     have O135 := own_base hO134 K0.size
     refine ⟨_, _, rfl, rfl, ?_⟩
     replace K0 := K0.tn K133
     replace Hm := Hm.kn K133
     replace Hk := Hk.kn K133
     replace H10 := H10.kn K133
     refine og 1 [(0, ptr b), (3, ptr b1), (4, ptr b7), (6, i64 y24), (7, .bool true), (32, i64 o.kind), (40, (agg [(i64 0), (i64 0), (Value.slice A130 S.length c131)]))] 3 ?_
     refine oput 28 b7 [(i64 0), (i64 0), (Value.slice A130 S.length c131)] H10 rfl (fun w141 H142 K143 => ?_)
     replace K0 := K0.t1 K143 fun _ => by show b7 = mb ∨ b7 = kb; omega
     replace Hm := Hm.k1 K143 (by omega)
     replace Hk := Hk.k1 K143 (by omega)
     replace O135 := own_keep O135 K143 (fun i hi => by have := ob140 i hi; omega)
     refine od ?_
     refine qtQ ?_
     refine ⟨(agg [(i64 0), (i64 0), (Value.slice A130 S.length c131)]), retv_cell rfl rfl (H142.loads (by kernel_rfl)), ?_⟩
     have e0 := do_audit (S := S) (K := K) (o := o) hw (by omega)
     obtain ⟨e1, e2, e3⟩ := e0
     rw [e1, e2, e3]
     exact ⟨_, A130, c131, rfl, K0, Hm, Hk, hB, O135⟩
    ·rw [h128]
     have p144 := of_beq_f h128
     refine qsg ?_
     refine ogd 2 [(0, ptr b), (3, ptr b1), (4, ptr b7), (6, i64 y24), (7, .bool true), (41, .bool (o.kind == 5))] ?_
     refine qcQ 41 (o.kind == 5) rfl (fun h145 => ?_) (fun h145 => ?_)
     ·rw [h145]
      have p146 := of_beq_t h145
      refine qs ?_
      refine qsg ?_
      refine ogd 2 [(0, ptr b), (3, ptr b1), (4, ptr b7), (6, i64 y24), (7, .bool true), (44, .bool false)] ?_
      refine q_else (o := .tmp 44) (by kernel_rfl) rfl ?_
      refine qkQ ?_
      refine qsg ?_
      refine og 2 [(0, ptr b), (3, ptr b1), (4, ptr b7), (6, i64 y24), (7, .bool true), (47, (agg [(i64 0), (i64 y24), (Value.slice none 0 0)]))] 2 ?_
      refine oput 28 b7 [(i64 0), (i64 y24), (Value.slice none 0 0)] H10 rfl (fun w147 H148 K149 => ?_)
      replace K0 := K0.t1 K149 fun _ => by show b7 = mb ∨ b7 = kb; omega
      replace Hm := Hm.k1 K149 (by omega)
      replace Hk := Hk.k1 K149 (by omega)
      refine od ?_
      refine qtQ ?_
      refine ⟨(agg [(i64 0), (i64 y24), (Value.slice none 0 0)]), retv_cell rfl rfl (H148.loads (by kernel_rfl)), ?_⟩
      have e0 := do_bal_some (S := S) (K := K) (o := o) hw (by omega) hw119
      obtain ⟨e1, e2, e3⟩ := e0
      rw [e1, e2, e3]
      exact ⟨_, none, 0, rfl, K0, Hm, Hk, hB, (OwnT.nil _ _ _ _ _)⟩
     ·rw [h145]
      have p150 := of_beq_f h145
      have hwa := wrong_act hw (by omega) (by omega) (by omega)
      have hro : -9223372036854775808 ≤ (plainE o).amount ∧ (plainE o).amount ≤ 9223372036854775807 := by unfold plainE; simp only; split <;> omega
      refine qkQ ?_
      refine qsg ?_
      refine ogo (agg (Opm.cells o)) 48 (rld 24 b1 0 H4) rfl ?_
      refine ocQ 49 (plain_calls _ o) ?_
      rintro _ w152 ⟨rfl, K151⟩
      refine ⟨_, _, rfl, rfl, ?_⟩
      replace K0 := K0.tn K151
      replace Hb := Hb.kn K151
      replace Hm := Hm.kn K151
      replace Hk := Hk.kn K151
      replace H4 := H4.kn K151
      replace H10 := H10.kn K151
      refine oput 24 b1 [(i64 o.kind), (Value.string (str o.frm)), (Value.string (str ((plainE o).to))), (i64 ((plainE o).amount)), (Value.string (str o.key)), (i64 0), (i64 0)] H4 rfl (fun w153 H154 K155 => ?_)
      clear H4
      replace K0 := K0.t1 K155 fun _ => by show b1 = mb ∨ b1 = kb; omega
      replace Hb := Hb.k1 K155 (by omega)
      replace Hm := Hm.k1 K155 (by omega)
      replace Hk := Hk.k1 K155 (by omega)
      replace H10 := H10.k1 K155 (by omega)
      refine od ?_
      refine qsg ?_
      refine og 1 [(0, ptr b), (3, ptr b1), (4, ptr b7), (6, i64 y24), (7, .bool true), (50, .pointer (some ⟨b1, 1, none⟩))] 1 ?_
      refine ogo (Value.string (str o.frm)) 51 (rld 9 b1 1 H154) rfl ?_
      refine og 1 [(0, ptr b), (3, ptr b1), (4, ptr b7), (6, i64 y24), (7, .bool true), (51, .string (str o.frm)), (52, .pointer (some ⟨b1, 4, none⟩))] 3 ?_
      refine ogo (Value.string (str o.key)) 53 (rld 9 b1 4 H154) rfl ?_
      refine og 1 [(0, ptr b), (3, ptr b1), (4, ptr b7), (6, i64 y24), (7, .bool true), (54, (agg [(Value.string (str o.frm)), (Value.string (str o.key))]))] 5 ?_
      refine onew (rowL [(Value.string ByteArray.empty), (Value.string ByteArray.empty)] 116) (fun b => (ptr b)) 8 (fun b => rfl) (fun b156 w157 hb158 H159 K160 hs161 => ?_)
      have lb156b : b < b156 := by have := Hb.lt; omega
      have lb156mb : mb < b156 := by have := Hm.lt; omega
      have lb156kb : kb < b156 := by have := Hk.lt; omega
      have lb156b1 : b1 < b156 := by have := H154.lt; omega
      have lb156b7 : b7 < b156 := by have := H10.lt; omega
      have nb156 : w.heap.size ≤ b156 := by have := K0.size; omega
      replace K0 := K0.tn K160
      replace Hb := Hb.kn K160
      replace Hm := Hm.kn K160
      replace Hk := Hk.kn K160
      replace H154 := H154.kn K160
      replace H10 := H10.kn K160
      clear K160 hs161
      refine oput 116 b156 [(Value.string (str o.frm)), (Value.string (str o.key))] H159 rfl (fun w162 H163 K164 => ?_)
      replace K0 := K0.t1 K164 fun _ => by show b156 = mb ∨ b156 = kb; omega
      replace Hb := Hb.k1 K164 (by omega)
      replace Hm := Hm.k1 K164 (by omega)
      replace Hk := Hk.k1 K164 (by omega)
      replace H154 := H154.k1 K164 (by omega)
      replace H10 := H10.k1 K164 (by omega)
      refine od ?_
      refine qs ?_
      refine qs ?_
      refine q_draw (fun wz => Keeps none_ w162 wz) 12 (by kernel_rfl) (by kernel_rfl) (by kernel_rfl) (fun w165 K166 _ _ => ⟨K166, ?_⟩)
      replace K0 := K0.tn K166
      replace Hb := Hb.kn K166
      replace Hm := Hm.kn K166
      replace Hk := Hk.kn K166
      replace H154 := H154.kn K166
      replace H10 := H10.kn K166
      replace H163 := H163.kn K166
      refine Dr.strong (S' := (fun wz => Keeps none_ w165 wz)) (Keeps.refl w165) (fun wz hx => K166.trans hx (fun i _ h => h) (fun _ _ h => h)) ?_
      refine dkQ 9 [0, 1, 2] [(0, ptr b), (3, ptr b1), (4, ptr b7), (6, i64 y24), (7, .bool true), (8, ptr b156), (58, .pointer (some ⟨b, 1, none⟩))] ?_
      refine dtQ 3 (Value.map (some kb)) 59 (fun wz hS => rld 108 b 1 (Hb.keep hS (fun h => h))) rfl ?_
      refine dtQ 4 (agg [(Value.string (str o.frm)), (Value.string (str o.key))]) 60 (fun wz hS => rld 116 b156 0 (H163.keep hS (fun h => h))) rfl ?_
      rcases hg167 : getM (K.map KeptM.kv) (o.frm, o.key) with _ | y168
      ·skip
       have hk169 : findK K o.frm o.key = none := hg167
       refine dtQ 5 (Value.tuple #[(agg [(i64 0), (Value.string ByteArray.empty), (Value.string ByteArray.empty), (i64 0), (Value.string ByteArray.empty), (i64 0), (i64 0), (i64 0)]), (Value.bool false)]) 61 (fun wz hS => Runs.lookup_none (ok := true) (z := (agg [(i64 0), (Value.string ByteArray.empty), (Value.string ByteArray.empty), (i64 0), (Value.string ByteArray.empty), (i64 0), (i64 0), (i64 0)])) KT2 Tryd.underlying108 (by kernel_rfl) (Hk.keep hS (fun h => h)) hg167 (by kernel_rfl)) rfl ?_
       refine dkQ 3 [6, 7, 8] [(0, ptr b), (3, ptr b1), (4, ptr b7), (6, i64 y24), (7, .bool true), (8, ptr b156), (62, (agg [(i64 0), (Value.string ByteArray.empty), (Value.string ByteArray.empty), (i64 0), (Value.string ByteArray.empty), (i64 0), (i64 0), (i64 0)])), (63, .bool false)] ?_
       refine Dr.new (i := 9) (o := rowL [(i64 0), (Value.string ByteArray.empty), (Value.string ByteArray.empty), (i64 0), (Value.string ByteArray.empty), (i64 0), (i64 0), (i64 0)] 118) (V := fun b => (ptr b)) (by kernel_rfl) (by kernel_rfl) (d := (some 9)) (by kernel_rfl) (fun b => rfl) (fun b170 w171 hb172 H173 K174 hs175 => ?_)
       have lb170b : b < b170 := by have := Hb.lt; omega
       have lb170mb : mb < b170 := by have := Hm.lt; omega
       have lb170kb : kb < b170 := by have := Hk.lt; omega
       have lb170b1 : b1 < b170 := by have := H154.lt; omega
       have lb170b7 : b7 < b170 := by have := H10.lt; omega
       have lb170b156 : b156 < b170 := by have := H163.lt; omega
       have nb170 : w.heap.size ≤ b170 := by have := K0.size; omega
       replace K0 := K0.tn K174
       replace Hb := Hb.kn K174
       replace Hm := Hm.kn K174
       replace Hk := Hk.kn K174
       replace H154 := H154.kn K174
       replace H10 := H10.kn K174
       replace H163 := H163.kn K174
       refine ⟨K174, ?_⟩
       refine Dr.strong (S' := (fun wz => Keeps (fun i => i = b170) w171 wz)) ((Keeps.refl w171).mono (fun _ _ h => h.elim)) (fun wz hx => K174.trans hx (U := none_) (fun i _ h => h) (fun i hi h => by have h : i = b170 := h; exfalso; omega)) ?_
       clear K174 hs175
       refine Dr.put (i := 10) (t := 118) (b := b170) (off := 0) (v := (agg [(i64 0), (Value.string ByteArray.empty), (Value.string ByteArray.empty), (i64 0), (Value.string ByteArray.empty), (i64 0), (i64 0), (i64 0)])) (ys := [(i64 0), (Value.string ByteArray.empty), (Value.string ByteArray.empty), (i64 0), (Value.string ByteArray.empty), (i64 0), (i64 0), (i64 0)]) (by kernel_rfl) (by kernel_rfl) (by kernel_rfl) H173 (by kernel_rfl) (d := none) (by kernel_rfl) rfl (fun w176 H177 K178 => ?_)
       replace K0 := K0.t1 K178 fun _ => by show b170 = mb ∨ b170 = kb; omega
       replace Hb := Hb.k1 K178 (by omega)
       replace Hm := Hm.k1 K178 (by omega)
       replace Hk := Hk.k1 K178 (by omega)
       replace H154 := H154.k1 K178 (by omega)
       replace H10 := H10.k1 K178 (by omega)
       replace H163 := H163.k1 K178 (by omega)
       refine ⟨K178, ?_⟩
       refine Dr.strong (S' := (fun wz => Keeps (fun i => i = b170) w176 wz)) ((Keeps.refl w176).mono (fun _ _ h => h.elim)) (fun wz hx => K178.trans hx (fun i _ h => by have h : i = b170 := h; show i = b170; omega) (fun _ _ h => h)) ?_
       refine dkQ 0 [11] [(0, ptr b), (3, ptr b1), (4, ptr b7), (6, i64 y24), (7, .bool true), (8, ptr b156), (9, ptr b170), (10, .bool false)] ?_
       refine Dr.done (by kernel_rfl) ?_
       refine qsg ?_
       refine ogd 1 [(0, ptr b), (3, ptr b1), (4, ptr b7), (6, i64 y24), (7, .bool true), (8, ptr b156), (9, ptr b170), (64, .bool false)] ?_
       refine q_else (o := .tmp 64) (by kernel_rfl) rfl ?_
       refine qkQ ?_
       refine qsg ?_
       refine og 1 [(0, ptr b), (3, ptr b1), (4, ptr b7), (6, i64 y24), (7, .bool true), (8, ptr b156), (73, ptr b)] 1 ?_
       refine ogo (agg [(i64 o.kind), (Value.string (str o.frm)), (Value.string (str ((plainE o).to))), (i64 ((plainE o).amount)), (Value.string (str o.key)), (i64 0), (i64 0)]) 74 (rld 24 b1 0 H154) rfl ?_
       refine og 2 [(0, ptr b), (3, ptr b1), (4, ptr b7), (8, ptr b156), (73, ptr b), (74, (agg [(i64 o.kind), (Value.string (str o.frm)), (Value.string (str ((plainE o).to))), (i64 ((plainE o).amount)), (Value.string (str o.key)), (i64 0), (i64 0)])), (75, i64 y24), (76, .bool true)] 4 ?_
       refine ocQ 77 (act_some _ b mb kb m S (plainE o) Hb Hm (by omega) hL hwa.1 hwa.2.1 (fun q => by have h1 := hwa.2.2.2.1 q; have h2 := plainE_amount o q; omega) hro (fun q => by have h2 := plainE_to o q; rw [h2]; exact (hwa.2.2.2.2 q).2) y24 hg23) ?_
       rintro _ w180 ⟨m179, rfl, K181, Hm182, hL183⟩
       refine ⟨_, _, rfl, rfl, ?_⟩
       replace K0 := K0.t1 K181 fun _ => by show mb = mb ∨ mb = kb; omega
       replace Hb := Hb.k1 K181 (by omega)
       replace Hk := Hk.k1 K181 (by omega)
       replace H154 := H154.k1 K181 (by omega)
       replace H10 := H10.k1 K181 (by omega)
       replace H163 := H163.k1 K181 (by omega)
       refine ogd 1 [(0, ptr b), (3, ptr b1), (4, ptr b7), (8, ptr b156), (11, (i64 (actE S (plainE o))))] ?_
       refine qs ?_
       refine q_draw (fun wz => Keeps (fun i => i = kb) w180 wz) 9 (by kernel_rfl) (by kernel_rfl) (by kernel_rfl) (fun w184 K185 _ _ => ⟨(K185.mono (fun _ _ h => h.elim)), ?_⟩)
       replace K0 := K0.tn K185
       replace Hb := Hb.kn K185
       replace Hm182 := Hm182.kn K185
       replace Hk := Hk.kn K185
       replace H154 := H154.kn K185
       replace H10 := H10.kn K185
       replace H163 := H163.kn K185
       refine Dr.strong (S' := (fun wz => Keeps (fun i => i = kb) w184 wz)) ((Keeps.refl w184).mono (fun _ _ h => h.elim)) (fun wz hx => K185.trans hx (fun i _ h => h.elim) (fun _ _ h => h)) ?_
       refine dkQ 6 [0, 1, 2] [(3, ptr b1), (4, ptr b7), (8, ptr b156), (11, (i64 (actE S (plainE o)))), (80, .pointer (some ⟨b, 1, none⟩))] ?_
       refine dtQ 3 (Value.map (some kb)) 81 (fun wz hS => rld 108 b 1 (Hb.keep hS (by intro h; change b = kb at h; omega))) rfl ?_
       refine dtQ 4 (agg [(Value.string (str o.frm)), (Value.string (str o.key))]) 82 (fun wz hS => rld 116 b156 0 (H163.keep hS (by intro h; change b156 = kb at h; omega))) rfl ?_
       refine dtQ 5 (agg [(i64 o.kind), (Value.string (str o.frm)), (Value.string (str ((plainE o).to))), (i64 ((plainE o).amount)), (Value.string (str o.key)), (i64 0), (i64 0)]) 83 (fun wz hS => rld 24 b1 0 (H154.keep hS (by intro h; change b1 = kb at h; omega))) rfl ?_
       refine dkQ 1 [6, 7] [(4, ptr b7), (11, (i64 (actE S (plainE o)))), (81, .map (some kb)), (82, (agg [(Value.string (str o.frm)), (Value.string (str o.key))])), (85, (agg [(i64 o.kind), (Value.string (str o.frm)), (Value.string (str ((plainE o).to))), (i64 ((plainE o).amount)), (Value.string (str o.key)), (i64 0), (i64 0), (i64 (actE S (plainE o)))]))] ?_
       obtain ⟨w186, hr187, K188, H189⟩ := HasMap.update KT2 Tryd.underlying108 Hk (o.frm, o.key) (⟨(plainE o), actE S (plainE o)⟩ : KeptM)
       refine Dr.goU (i := 8) (by kernel_rfl) (by kernel_rfl) (RunsU.of_update (by kernel_rfl) hr187) (d := none) (by kernel_rfl) rfl K188 ?_
       clear Hk
       replace K0 := K0.t1 K188 fun _ => by show kb = mb ∨ kb = kb; omega
       replace Hm182 := Hm182.k1 K188 (by omega)
       replace H10 := H10.k1 K188 (by omega)
       refine Dr.strong (S' := (fun wz => Keeps (fun i => i = kb) w186 wz)) ((Keeps.refl w186).mono (fun _ _ h => h.elim)) (fun wz hx => K188.trans hx (fun i _ h => by have h : i = kb := h; show i = kb; omega) (fun _ _ h => h)) ?_
       clear K188 hr187
       refine Dr.done (by kernel_rfl) ?_
       refine qsg ?_
       refine og 2 [(4, ptr b7), (87, (agg [(i64 (actE S (plainE o))), (i64 0), (Value.slice none 0 0)]))] 2 ?_
       refine oput 28 b7 [(i64 (actE S (plainE o))), (i64 0), (Value.slice none 0 0)] H10 rfl (fun w190 H191 K192 => ?_)
       replace K0 := K0.t1 K192 fun _ => by show b7 = mb ∨ b7 = kb; omega
       replace Hm182 := Hm182.k1 K192 (by omega)
       replace H189 := H189.k1 K192 (by omega)
       refine od ?_
       refine qtQ ?_
       refine ⟨(agg [(i64 (actE S (plainE o))), (i64 0), (Value.slice none 0 0)]), retv_cell rfl rfl (H191.loads (by kernel_rfl)), ?_⟩
       have e0 := do_fresh (S := S) (K := K) (o := o) hw (by omega) (by omega) (by omega) hk169
       obtain ⟨e1, e2, e3⟩ := e0
       rw [e1, e2, e3]
       exact ⟨_, none, 0, rfl, K0, Hm182, by have h := H189; rwa [show putM (K.map KeptM.kv) (o.frm, o.key) (⟨plainE o, actE S (plainE o)⟩ : KeptM) = _ from putM_kept (x := ⟨plainE o, actE S (plainE o)⟩) hk169] at h, hB.fresh hw (by omega) (by omega) (by omega) hk169 hr hL183, (OwnT.nil _ _ _ _ _)⟩
      ·skip
       have hk193 : findK K o.frm o.key = some y168 := hg167
       have hy194 := hB.ledg.ok _ (findK_some hk193).1
       have hy195 := hy194.why
       have hy196 := hy194.kind
       refine dtQ 5 (Value.tuple #[(agg [(i64 y168.op.kind), (Value.string (str y168.op.frm)), (Value.string (str y168.op.to)), (i64 y168.op.amount), (Value.string (str y168.op.key)), (i64 y168.op.slot), (i64 y168.op.shard), (i64 y168.why)]), (Value.bool true)]) 61 (fun wz hS => Runs.lookup_some (ok := true) (vf := keptv) (a := (⟨y168.op, y168.why⟩ : KeptM)) KT2 Tryd.underlying108 (Hk.keep hS (fun h => h)) hg167 (by kernel_rfl)) rfl ?_
       refine dkQ 3 [6, 7, 8] [(0, ptr b), (3, ptr b1), (4, ptr b7), (6, i64 y24), (7, .bool true), (8, ptr b156), (62, (agg [(i64 y168.op.kind), (Value.string (str y168.op.frm)), (Value.string (str y168.op.to)), (i64 y168.op.amount), (Value.string (str y168.op.key)), (i64 y168.op.slot), (i64 y168.op.shard), (i64 y168.why)])), (63, .bool true)] ?_
       refine Dr.new (i := 9) (o := rowL [(i64 0), (Value.string ByteArray.empty), (Value.string ByteArray.empty), (i64 0), (Value.string ByteArray.empty), (i64 0), (i64 0), (i64 0)] 118) (V := fun b => (ptr b)) (by kernel_rfl) (by kernel_rfl) (d := (some 9)) (by kernel_rfl) (fun b => rfl) (fun b197 w198 hb199 H200 K201 hs202 => ?_)
       have lb197b : b < b197 := by have := Hb.lt; omega
       have lb197mb : mb < b197 := by have := Hm.lt; omega
       have lb197kb : kb < b197 := by have := Hk.lt; omega
       have lb197b1 : b1 < b197 := by have := H154.lt; omega
       have lb197b7 : b7 < b197 := by have := H10.lt; omega
       have lb197b156 : b156 < b197 := by have := H163.lt; omega
       have nb197 : w.heap.size ≤ b197 := by have := K0.size; omega
       replace K0 := K0.tn K201
       replace Hm := Hm.kn K201
       replace Hk := Hk.kn K201
       replace H154 := H154.kn K201
       replace H10 := H10.kn K201
       refine ⟨K201, ?_⟩
       refine Dr.strong (S' := (fun wz => Keeps (fun i => i = b197) w198 wz)) ((Keeps.refl w198).mono (fun _ _ h => h.elim)) (fun wz hx => K201.trans hx (U := none_) (fun i _ h => h) (fun i hi h => by have h : i = b197 := h; exfalso; omega)) ?_
       clear K201 hs202
       refine Dr.put (i := 10) (t := 118) (b := b197) (off := 0) (v := (agg [(i64 y168.op.kind), (Value.string (str y168.op.frm)), (Value.string (str y168.op.to)), (i64 y168.op.amount), (Value.string (str y168.op.key)), (i64 y168.op.slot), (i64 y168.op.shard), (i64 y168.why)])) (ys := [(i64 y168.op.kind), (Value.string (str y168.op.frm)), (Value.string (str y168.op.to)), (i64 y168.op.amount), (Value.string (str y168.op.key)), (i64 y168.op.slot), (i64 y168.op.shard), (i64 y168.why)]) (by kernel_rfl) (by kernel_rfl) (by kernel_rfl) H200 (by kernel_rfl) (d := none) (by kernel_rfl) rfl (fun w203 H204 K205 => ?_)
       replace K0 := K0.t1 K205 fun _ => by show b197 = mb ∨ b197 = kb; omega
       replace Hm := Hm.k1 K205 (by omega)
       replace Hk := Hk.k1 K205 (by omega)
       replace H154 := H154.k1 K205 (by omega)
       replace H10 := H10.k1 K205 (by omega)
       refine ⟨K205, ?_⟩
       refine Dr.strong (S' := (fun wz => Keeps (fun i => i = b197) w203 wz)) ((Keeps.refl w203).mono (fun _ _ h => h.elim)) (fun wz hx => K205.trans hx (fun i _ h => by have h : i = b197 := h; show i = b197; omega) (fun _ _ h => h)) ?_
       refine dkQ 0 [11] [(0, ptr b), (3, ptr b1), (4, ptr b7), (6, i64 y24), (7, .bool true), (8, ptr b156), (9, ptr b197), (10, .bool true)] ?_
       refine Dr.done (by kernel_rfl) ?_
       refine qsg ?_
       refine ogd 1 [(0, ptr b), (3, ptr b1), (4, ptr b7), (6, i64 y24), (7, .bool true), (8, ptr b156), (9, ptr b197), (64, .bool true)] ?_
       refine q_then (o := .tmp 64) (by kernel_rfl) rfl ?_
       refine qs ?_
       refine qsg ?_
       refine og 1 [(0, ptr b), (3, ptr b1), (4, ptr b7), (6, i64 y24), (7, .bool true), (8, ptr b156), (9, ptr b197), (65, ptr b197)] 1 ?_
       refine ogo (agg (Opm.cells y168.op)) 66 (rld 24 b197 0 H204) rfl ?_
       refine ogo (agg [(i64 o.kind), (Value.string (str o.frm)), (Value.string (str ((plainE o).to))), (i64 ((plainE o).amount)), (Value.string (str o.key)), (i64 0), (i64 0)]) 67 (rld 24 b1 0 H154) rfl ?_
       refine ogo (Value.bool (!(aggB [(i64 y168.op.kind), (Value.string (str y168.op.frm)), (Value.string (str y168.op.to)), (i64 y168.op.amount), (Value.string (str y168.op.key)), (i64 y168.op.slot), (i64 y168.op.shard)] [(i64 o.kind), (Value.string (str o.frm)), (Value.string (str ((plainE o).to))), (i64 ((plainE o).amount)), (Value.string (str o.key)), (i64 0), (i64 0)]))) 68 (Runs.aggne (t := 24) (by kernel_rfl) (by kernel_rfl)) rfl ?_
       refine od ?_
       refine qcQ 68 (!(aggB [(i64 y168.op.kind), (Value.string (str y168.op.frm)), (Value.string (str y168.op.to)), (i64 y168.op.amount), (Value.string (str y168.op.key)), (i64 y168.op.slot), (i64 y168.op.shard)] [(i64 o.kind), (Value.string (str o.frm)), (Value.string (str ((plainE o).to))), (i64 ((plainE o).amount)), (Value.string (str o.key)), (i64 0), (i64 0)])) rfl (fun h206 => ?_) (fun h206 => ?_)
       ·rw [h206]
        have p207 := bnot_true h206
        refine qsg ?_
        refine og 1 [(0, ptr b), (3, ptr b1), (4, ptr b7), (6, i64 y24), (7, .bool true), (8, ptr b156), (9, ptr b197), (69, (agg [(i64 45), (i64 0), (Value.slice none 0 0)]))] 1 ?_
        refine oput 28 b7 [(i64 45), (i64 0), (Value.slice none 0 0)] H10 rfl (fun w208 H209 K210 => ?_)
        replace K0 := K0.t1 K210 fun _ => by show b7 = mb ∨ b7 = kb; omega
        replace Hm := Hm.k1 K210 (by omega)
        replace Hk := Hk.k1 K210 (by omega)
        refine od ?_
        refine qtQ ?_
        refine ⟨(agg [(i64 45), (i64 0), (Value.slice none 0 0)]), retv_cell rfl rfl (H209.loads (by kernel_rfl)), ?_⟩
        have e0 := do_other (S := S) (K := K) (o := o) hw (by omega) (by omega) (by omega) hk193 (bnot_true h206)
        obtain ⟨e1, e2, e3⟩ := e0
        rw [e1, e2, e3]
        exact ⟨_, none, 0, rfl, K0, Hm, Hk, hB, (OwnT.nil _ _ _ _ _)⟩
       ·rw [h206]
        have p211 := bnot_false h206
        refine qkQ ?_
        refine qsg ?_
        refine og 1 [(0, ptr b), (3, ptr b1), (4, ptr b7), (6, i64 y24), (7, .bool true), (8, ptr b156), (70, .pointer (some ⟨b197, 7, none⟩))] 1 ?_
        refine ogo (i64 y168.why) 71 (rld 25 b197 7 H204) rfl ?_
        refine og 1 [(0, ptr b), (3, ptr b1), (4, ptr b7), (6, i64 y24), (7, .bool true), (8, ptr b156), (72, (agg [(i64 y168.why), (i64 0), (Value.slice none 0 0)]))] 3 ?_
        refine oput 28 b7 [(i64 y168.why), (i64 0), (Value.slice none 0 0)] H10 rfl (fun w212 H213 K214 => ?_)
        replace K0 := K0.t1 K214 fun _ => by show b7 = mb ∨ b7 = kb; omega
        replace Hm := Hm.k1 K214 (by omega)
        replace Hk := Hk.k1 K214 (by omega)
        refine od ?_
        refine qtQ ?_
        refine ⟨(agg [(i64 y168.why), (i64 0), (Value.slice none 0 0)]), retv_cell rfl rfl (H213.loads (by kernel_rfl)), ?_⟩
        have e0 := do_again (S := S) (K := K) (o := o) hw (by omega) (by omega) (by omega) hk193 (bnot_false h206)
        obtain ⟨e1, e2, e3⟩ := e0
        rw [e1, e2, e3]
        exact ⟨_, none, 0, rfl, K0, Hm, Hk, hB, (OwnT.nil _ _ _ _ _)⟩
end Go.Proofs.YtnbcghbgeiocbaaDoor
namespace Go.Proofs.YtnbcghbgeiocbaaDoor
open Go.Q Go.RowKit
theorem MClone55_calls (w : World) (mb : Nat) (m : List ((List UInt8) × Int)) (Hm : HasMap w mb kstr ki64 m) : Calls Tryd.prog 55 ⟨[.map (some mb)]⟩ w (fun e w' => ∃ m2, e = .returned (.map (some m2)) ∧ Keeps none_ w w' ∧ HasMap w' m2 kstr ki64 m ∧ m2 = w.heap.size) := by
 obtain ⟨es, clock, hb, hs, he⟩ := Hm
 refine (Go.Proofs.AnyW.maps_Clone Go.Proofs.Tryd.clone55 mb es clock w hb).mono ?_
 rintro e w' ⟨rfl, rfl⟩
 exact ⟨_, rfl, Keeps.alloc _ _, ⟨es, clock, heap_alloc_new _ _, hs, he⟩, rfl⟩
theorem MClone56_calls (w : World) (mb : Nat) (m : List ((List UInt8 × List UInt8) × KeptM)) (Hm : HasMap w mb kpair keptv m) : Calls Tryd.prog 56 ⟨[.map (some mb)]⟩ w (fun e w' => ∃ m2, e = .returned (.map (some m2)) ∧ Keeps none_ w w' ∧ HasMap w' m2 kpair keptv m ∧ m2 = w.heap.size) := by
 obtain ⟨es, clock, hb, hs, he⟩ := Hm
 refine (Go.Proofs.AnyW.maps_Clone Go.Proofs.Tryd.clone56 mb es clock w hb).mono ?_
 rintro e w' ⟨rfl, rfl⟩
 exact ⟨_, rfl, Keeps.alloc _ _, ⟨es, clock, heap_alloc_new _ _, hs, he⟩, rfl⟩
theorem Copy_calls (w : World) (b mb kb : Nat) (m : List (List UInt8 × Int)) (S : List RowM) (K : List KeptM) (Hb : Has w b (rowL [.map (some mb), .map (some kb)] 110)) (Hm : HasMap w mb kstr ki64 m) (Hk : HasMap w kb kpair keptv (K.map KeptM.kv)) (hne : b ≠ mb ∧ b ≠ kb ∧ mb ≠ kb) (hB : LBook m S K) : Calls Tryd.prog 48 ⟨[(ptr b)]⟩ w (fun e w' => ∃ b2 mb2 kb2, e = .returned (ptr b2) ∧ Keeps none_ w w' ∧ Has w' b2 (rowL [.map (some mb2), .map (some kb2)] 110) ∧ HasMap w' mb2 kstr ki64 m ∧ HasMap w' kb2 kpair keptv (K.map KeptM.kv) ∧ w.heap.size ≤ b2 ∧ w.heap.size ≤ mb2 ∧ w.heap.size ≤ kb2 ∧ b2 ≠ mb2 ∧ b2 ≠ kb2 ∧ mb2 ≠ kb2) := by
 have Hbl := Hb.lt
 have Hml := Hm.lt
 have Hkl := Hk.lt
 have hL := hB.lmap
 have K0 : Keeps none_ w w := Keeps.refl w
 refine q_calls Tryd.func48 (by kernel_rfl) (by kernel_rfl) ?_
 refine qsg ?_
 refine odz 1 ?_
 refine qs ?_
 refine qsg ?_
 refine ogd 2 [(0, ptr b), (2, .pointer none), (4, .bool false)] ?_
 refine q_else (o := .tmp 4) (by kernel_rfl) rfl ?_
 refine qkQ ?_
 refine qs ?_
 refine q_draw (fun wz => Keeps none_ w wz) 13 (by kernel_rfl) (by kernel_rfl) (by kernel_rfl) (fun w1 K2 _ _ => ⟨K2, ?_⟩)
 replace K0 := K0.t0 K2
 replace Hb := Hb.kn K2
 replace Hm := Hm.kn K2
 replace Hk := Hk.kn K2
 refine Dr.strong (S' := (fun wz => Keeps none_ w1 wz)) (Keeps.refl w1) (fun wz hx => K2.trans hx (fun i _ h => h) (fun _ _ h => h)) ?_
 clear K2
 refine dkQ 10 [0, 1, 2] [(0, ptr b), (2, .pointer none), (7, ptr b)] ?_
 refine dtQ 3 (Value.map (some mb)) 8 (fun wz hS => rld 107 b 0 (Hb.keep hS (fun h => h))) rfl ?_
 refine dkQ 6 [5, 6, 7] [(2, .pointer none), (8, .map (some mb)), (12, .pointer (some ⟨b, 1, none⟩))] ?_
 refine dtQ 8 (Value.map (some kb)) 13 (fun wz hS => rld 108 b 1 (Hb.keep hS (fun h => h))) rfl ?_
 refine Dr.call (i := 4) (by kernel_rfl) (by kernel_rfl) (d := (some 9)) (by kernel_rfl) (fun _ => MClone55_calls _ mb m Hm) ?_
 rintro _ w4 ⟨mb3, rfl, K5, H6, hq7⟩
 have lmb3b : b < mb3 := by have := Hb.lt; omega
 have lmb3mb : mb < mb3 := by have := Hm.lt; omega
 have lmb3kb : kb < mb3 := by have := Hk.lt; omega
 have nmb3 : w.heap.size ≤ mb3 := by have := K0.size; omega
 replace K0 := K0.t0 K5
 replace Hb := Hb.kn K5
 replace Hm := Hm.kn K5
 replace Hk := Hk.kn K5
 refine ⟨_, _, rfl, rfl, K5, ?_⟩
 refine Dr.strong (S' := (fun wz => Keeps none_ w4 wz)) (Keeps.refl w4) (fun wz hx => K5.trans hx (fun i _ h => h) (fun _ _ h => h)) ?_
 clear K5
 refine Dr.call (i := 9) (by kernel_rfl) (by kernel_rfl) (d := (some 14)) (by kernel_rfl) (fun _ => MClone56_calls _ kb (K.map KeptM.kv) Hk) ?_
 rintro _ w9 ⟨mb8, rfl, K10, H11, hq12⟩
 have lmb8b : b < mb8 := by have := Hb.lt; omega
 have lmb8mb : mb < mb8 := by have := Hm.lt; omega
 have lmb8kb : kb < mb8 := by have := Hk.lt; omega
 have lmb8mb3 : mb3 < mb8 := by have := H6.lt; omega
 have nmb8 : w.heap.size ≤ mb8 := by have := K0.size; omega
 replace K0 := K0.t0 K10
 replace Hb := Hb.kn K10
 replace Hm := Hm.kn K10
 replace Hk := Hk.kn K10
 replace H6 := H6.kn K10
 refine ⟨_, _, rfl, rfl, K10, ?_⟩
 refine Dr.strong (S' := (fun wz => Keeps none_ w9 wz)) (Keeps.refl w9) (fun wz hx => K10.trans hx (fun i _ h => h) (fun _ _ h => h)) ?_
 refine dkQ 2 [10] [(2, .pointer none), (15, (agg [(Value.map (some mb3)), (Value.map (some mb8))]))] ?_
 refine Dr.new (i := 11) (o := rowL [(Value.map (some mb3)), (Value.map (some mb8))] 110) (V := fun b => (ptr b)) (by kernel_rfl) (by kernel_rfl) (d := (some 16)) (by kernel_rfl) (fun b => rfl) (fun b13 w14 hb15 H16 K17 hs18 => ?_)
 have lb13b : b < b13 := by have := Hb.lt; omega
 have lb13mb : mb < b13 := by have := Hm.lt; omega
 have lb13kb : kb < b13 := by have := Hk.lt; omega
 have lb13mb3 : mb3 < b13 := by have := H6.lt; omega
 have lb13mb8 : mb8 < b13 := by have := H11.lt; omega
 have nb13 : w.heap.size ≤ b13 := by have := K0.size; omega
 replace K0 := K0.t0 K17
 replace H6 := H6.kn K17
 replace H11 := H11.kn K17
 refine ⟨K17, ?_⟩
 refine Dr.strong (S' := (fun wz => Keeps none_ w14 wz)) (Keeps.refl w14) (fun wz hx => K17.trans hx (fun i _ h => h) (fun _ _ h => h)) ?_
 clear K17 hs18
 refine dkQ 0 [12] [(2, ptr b13)] ?_
 refine Dr.done (by kernel_rfl) ?_
 refine qtQ ?_
 refine ⟨(ptr b13), retv_tmp rfl rfl, ?_⟩
 exact ⟨b13, mb3, mb8, rfl, K0, H16, H6, H11, nb13, nmb3, nmb8, by omega, by omega, by omega⟩
end Go.Proofs.YtnbcghbgeiocbaaDoor
namespace Go.Proofs.YtnbcghbgeiocbaaDoor
open Go.Q Go.RowKit
set_option maxHeartbeats 4000000 in
theorem next_walk (w : World) (ln m0 b2 b3 : Nat) (LA : Option Addr) (lc : Nat) (l : List HC) (AA : Option Addr) (ac : Nat) (a : List Nat) (OA : Option Addr) (oc : Nat) (o : List Nat) (d : Nat) (lf : Int) (b mb kb : Nat) (m : List (List UInt8 × Int)) (S : List RowM) (K : List KeptM) (T G : Nat → Prop) (J : Nat → World → Prop) (Hx2 : Has w b2 (rowL [(Value.slice LA l.length lc), (Value.slice AA a.length ac)] 68)) (Hx3 : Has w b3 (rowL [(Value.slice OA o.length oc), (Value.int IntKind.u64 ((d : Nat) : Int)), (i64 lf), (ptr b)] 73)) (Hb : Has w b (rowL [.map (some mb), .map (some kb)] 110)) (Hm : HasMap w mb kstr ki64 m) (Hk : HasMap w kb kpair keptv (K.map KeptM.kv)) (hne : b ≠ mb ∧ b ≠ kb ∧ mb ≠ kb) (hB : LBook m S K) (hbs : b2 ≠ b3 ∧ b ≠ b2 ∧ b ≠ b3) (hRL : RdT w 13 HC.cells (Value.slice LA l.length lc) l) (hRA : RdT w 1 iN (Value.slice AA a.length ac) a) (hal : a.length = l.length) (hRO : RdT w 1 iN (Value.slice OA o.length oc) o) (hG : RowsE w HC.rv HC.rows G l) (ho : ∀ x ∈ l, -9223372036854775808 ≤ x.c.op.amount ∧ x.c.op.amount ≤ 9223372036854775807) (hT0 : ∀ i, T i → i ≠ b2 ∧ i ≠ b3 ∧ i ≠ b ∧ i ≠ mb ∧ i ≠ kb) (hF : ∀ i, (((Value.slice LA l.length lc)).ownBlock = some i ∨ ((Value.slice AA a.length ac)).ownBlock = some i ∨ ((Value.slice OA o.length oc)).ownBlock = some i ∨ G i) → i < w.heap.size ∧ ¬ T i) (h8 : l.length ≤ 8) (hok : SrOk (XS l a) (⟨o, d, lf, (S, K)⟩ : Sr LS_)) (hJ : ∀ k W W', J k W → Keeps none_ W W' → J k W') (hY : ∀ k v Wp W1, J k Wp → Keeps none_ Wp W1 → w.heap.size ≤ Wp.heap.size → k < ((probH (XS l a)).nexts (⟨o, d, lf, (S, K)⟩ : Sr LS_)).length → nextA 110 (XS l a) (⟨o, d, lf, (S, K)⟩ : Sr LS_) Wp.heap.size k v W1 → YieldAt Fence.wide m0 Tryd.prog ln #[v] W1 fun e W' => e = .returned (.bool true) ∧ J (k + 1) W' ∧ Keeps T W1 W') (h0 : J 0 w) : Calls Tryd.prog 47 ⟨[(Value.func (Fn.yield ln) #[] #[]), (ptr b2), (ptr b3)]⟩ w (fun e w' => (∃ v, e = .returned v) ∧ J ((probH (XS l a)).nexts (⟨o, d, lf, (S, K)⟩ : Sr LS_)).length w') := by
 have Hbl := Hb.lt
 have Hml := Hm.lt
 have Hkl := Hk.lt
 have hL := hB.lmap
 have Hx2l := Hx2.lt
 have Hx3l := Hx3.lt
 have hTb : ∀ i, T i → i ≠ b := fun i h => by have := hT0 i h; omega
 have hTmb : ∀ i, T i → i ≠ mb := fun i h => by have := hT0 i h; omega
 have hTkb : ∀ i, T i → i ≠ kb := fun i h => by have := hT0 i h; omega
 have hTb2 : ∀ i, T i → i ≠ b2 := fun i h => by have := hT0 i h; omega
 have hTb3 : ∀ i, T i → i ≠ b3 := fun i h => by have := hT0 i h; omega
 have hFL : ∀ i, Ow (.slice LA l.length lc) i → i < w.heap.size ∧ ¬ T i := fun i h => hF i (.inl h)
 have hFA : ∀ i, Ow (.slice AA a.length ac) i → i < w.heap.size ∧ ¬ T i := fun i h => hF i (.inr (.inl h))
 have hFO : ∀ i, Ow (.slice OA o.length oc) i → i < w.heap.size ∧ ¬ T i := fun i h => hF i (.inr (.inr (.inl h)))
 have hFG : ∀ i, G i → i < w.heap.size ∧ ¬ T i := fun i h => hF i (.inr (.inr (.inr h)))
 have hFA1 : ∀ i, Ow (.slice AA a.length ac) i → i < w.heap.size := fun i h => (hFA i h).1
 have hFO1 : ∀ i, Ow (.slice OA o.length oc) i → i < w.heap.size := fun i h => (hFO i h).1
 have hlen := hok.len
 rw [xs_len hal] at hlen
 simp only at hlen
 have hd64 : d < 18446744073709551616 := hok.d64 (by rw [xs_len hal]; exact h8)
 have hSle := hB.ledg.le
 have K0 : Keeps (fun i => T i) w w := (Keeps.refl w).mono (fun _ _ h => h.elim)
 refine qr_calls (m0 + 1) Tryd.func47 (by kernel_rfl) (by kernel_rfl) ?_
 refine qr_scope (by kernel_rfl) ?_
 refine rsQ ?_
 refine qr_label (by kernel_rfl) ?_
 refine rsg Open.wide ?_
 refine og 1 [(0, .func (Fn.yield ln) #[] #[]), (1, ptr b2), (2, ptr b3), (11, ptr b2)] 1 ?_
 refine ogo (Value.slice LA l.length lc) 12 (rld 33 b2 0 Hx2) rfl ?_
 refine ogd 2 [(0, .func (Fn.yield ln) #[] #[]), (1, ptr b2), (2, ptr b3), (12, .slice LA l.length lc), (13, i64 ↑l.length), (14, i64 0)] ?_
 refine qr_block (id := 0) (by kernel_rfl) ?_
 refine qr_keep (R := [(0, .func (Fn.yield ln) #[] #[]), (1, ptr b2), (2, ptr b3), (12, .slice LA l.length lc), (13, i64 ↑l.length), (14, i64 0)]) (by kernel_rfl) ?_
 refine qr_loop (fun (i : Nat) (ds : List Deferred) L (wx : World) => ds = [] ∧ L = [(0, (Value.func (Fn.yield ln) #[] #[])), (1, (ptr b2)), (2, (ptr b3)), (12, (Value.slice LA l.length lc)), (13, (i64 ((l.length : Nat) : Int))), (14, (i64 ((i : Nat) : Int)))] ∧ J ((probH (XS l a)).nth (⟨o, d, lf, (S, K)⟩ : Sr LS_) i) wx ∧ i ≤ l.length ∧ Keeps (fun i => T i) w wx ∧ Has wx b (rowL [(Value.map (some mb)), (Value.map (some kb))] 110) ∧ HasMap wx mb kstr ki64 m ∧ HasMap wx kb kpair keptv (K.map KeptM.kv) ∧ Has wx b2 (rowL [(Value.slice LA l.length lc), (Value.slice AA a.length ac)] 68) ∧ Has wx b3 (rowL [(Value.slice OA o.length oc), (Value.int IntKind.u64 ((d : Nat) : Int)), (i64 lf), (ptr b)] 73)) (fun (i : Nat) => l.length - i) 0 (by kernel_rfl) ⟨rfl, rfl, h0, Nat.zero_le _, K0, Hb, Hm, Hk, Hx2, Hx3⟩ ?_
 clear Hb Hm Hk Hx2 Hx3 K0
 rintro i _ _ w1 ⟨rfl, rfl, hj, hi, K2, H3, H4, H5, H6, H7⟩
 have hR8 := Rd.keep (by decide) hRL K2 (fun i hi => (hFL i hi).2)
 have hcx : Keeps none_ w1 w1 := Keeps.refl _
 have hWw : w.heap.size ≤ w1.heap.size := K2.size
 refine rsg Open.wide ?_
 refine ogd 1 [(0, .func (Fn.yield ln) #[] #[]), (1, ptr b2), (2, ptr b3), (12, .slice LA l.length lc), (13, i64 ↑l.length), (14, i64 ↑i), (15, (Value.bool (decide (((i : Nat) : Int) < ((l.length : Nat) : Int)))))] ?_
 refine rsQ ?_
 refine rcQ 15 (decide (((i : Nat) : Int) < ((l.length : Nat) : Int))) rfl (fun h11 => ?_) (fun h11 => ?_)
 ·rw [h11]
  have p12 := of_decide_eq_true h11
  refine rkQ ?_
  refine rsQ ?_
  refine qr_block (id := 1) (by kernel_rfl) ?_
  refine rsg Open.wide ?_
  refine og 1 [(0, .func (Fn.yield ln) #[] #[]), (1, ptr b2), (2, ptr b3), (12, .slice LA l.length lc), (13, i64 ↑l.length), (14, i64 ↑i), (16, i64 ↑i)] 1 ?_
  obtain ⟨x, hx⟩ : ∃ x, l[i]? = some x := ⟨_, List.getElem?_eq_getElem (by omega)⟩
  obtain ⟨rb13, ro14, hA15⟩ := Rd.addr hR8 (by omega)
  refine Ops.go (by kernel_rfl) (Runs.ixSliceE (k := IntKind.i64) (t := 33) (len := l.length) (cap := lc) (s := 13) (off' := ro14 + i * 13) (i := ((i : Nat) : Int)) hA15 (by kernel_rfl) (by kernel_rfl) (by omega) (by omega) (by omega)) (d := (some 17)) (by kernel_rfl) rfl ?_
  refine ogo (agg (HC.cells x)) 18 (Runs.load (t := 43) (a := ⟨rb13, ro14 + i * 13, none⟩) (by kernel_rfl) (RdT.ld (f := HC.cells) (x := x) HC.two hR8 (by kernel_rfl) (by kernel_rfl) hA15 hx)) rfl ?_
  refine onew (rowL [(i64 0), (Value.string ByteArray.empty), (Value.string ByteArray.empty), (i64 0), (Value.string ByteArray.empty), (i64 0), (i64 0), (i64 0), (i64 0), (Value.bool false), (i64 0), (i64 0), (Value.slice none 0 0)] 43) (fun b => (ptr b)) 5 (fun b => rfl) (fun b16 w17 hb18 H19 K20 hs21 => ?_)
  have lb16b : b < b16 := by have := H3.lt; omega
  have lb16mb : mb < b16 := by have := H4.lt; omega
  have lb16kb : kb < b16 := by have := H5.lt; omega
  have lb16b2 : b2 < b16 := by have := H6.lt; omega
  have lb16b3 : b3 < b16 := by have := H7.lt; omega
  have nb16 : w.heap.size ≤ b16 := by have := K2.size; omega
  have ox22 : w1.heap.size ≤ b16 := by have := hcx.size; omega
  replace K2 := K2.tn K20
  replace H3 := H3.kn K20
  replace H4 := H4.kn K20
  replace H5 := H5.kn K20
  replace H6 := H6.kn K20
  replace H7 := H7.kn K20
  replace hcx := hcx.trans K20 (fun _ _ h => h) (fun _ _ h => h)
  clear K20 hs21
  refine og 1 [(0, .func (Fn.yield ln) #[] #[]), (1, ptr b2), (2, ptr b3), (4, i64 ↑i), (5, ptr b16), (12, .slice LA l.length lc), (13, i64 ↑l.length), (14, i64 ↑i), (18, (agg (HC.cells x)))] 5 ?_
  refine oput 43 b16 (HC.cells x) H19 rfl (fun w23 H24 K25 => ?_)
  replace K2 := K2.t1 K25 fun _ => by omega
  replace H3 := H3.k1 K25 (by omega)
  replace H4 := H4.k1 K25 (by omega)
  replace H5 := H5.k1 K25 (by omega)
  replace H6 := H6.k1 K25 (by omega)
  replace H7 := H7.k1 K25 (by omega)
  replace hcx := Keeps.trans hcx K25 (U := none_) (fun _ _ h => h) (fun i hi hs => by have hs : i = b16 := hs; exfalso; have := ox22; omega)
  refine od ?_
  refine rsQ ?_
  refine rsg Open.wide ?_
  refine og 1 [(0, .func (Fn.yield ln) #[] #[]), (1, ptr b2), (2, ptr b3), (4, i64 ↑i), (5, ptr b16), (12, .slice LA l.length lc), (13, i64 ↑l.length), (14, i64 ↑i), (19, .pointer (some ⟨b3, 1, none⟩))] 1 ?_
  refine ogo (Value.int IntKind.u64 ((d : Nat) : Int)) 20 (rld 71 b3 1 H7) rfl ?_
  refine og 1 [(0, .func (Fn.yield ln) #[] #[]), (1, ptr b2), (2, ptr b3), (4, i64 ↑i), (5, ptr b16), (12, .slice LA l.length lc), (13, i64 ↑l.length), (14, i64 ↑i), (20, (Value.int IntKind.u64 ((d : Nat) : Int))), (21, i64 ↑i)] 3 ?_
  refine ogo (Value.int IntKind.u64 ((d / 2 ^ i : Nat) : Int)) 22 (Runs.int (op := .shr) (t := 71) (by kernel_rfl) (run_shrN (k := IntKind.i64) (i := i) (s := ((i : Nat) : Int)) rfl (by omega))) rfl ?_
  refine ogo (Value.int IntKind.u64 (((d / 2 ^ i) % 2 : Nat) : Int)) 23 (Runs.int (op := .and) (t := 71) (by kernel_rfl) (run_and1 (div_lt64 (by omega)))) rfl ?_
  refine ogd 1 [(0, .func (Fn.yield ln) #[] #[]), (1, ptr b2), (2, ptr b3), (4, i64 ↑i), (5, ptr b16), (12, .slice LA l.length lc), (13, i64 ↑l.length), (14, i64 ↑i), (24, (Value.bool ((((d / 2 ^ i) % 2 : Nat) : Int) == 1)))] ?_
  refine rcQ 24 ((((d / 2 ^ i) % 2 : Nat) : Int) == 1) rfl (fun h26 => ?_) (fun h26 => ?_)
  ·rw [h26]
   have p27 := of_beq_t h26
   have hbit : d.testBit i = true := bit_one.1 (by omega)
   refine qr_exit (id := 1) (by kernel_rfl) ?_
   refine rgQ Open.wide ?_
   refine oid 2 (fun z => [(0, .func (Fn.yield ln) #[] #[]), (1, ptr b2), (2, ptr b3), (12, .slice LA l.length lc), (13, i64 ↑l.length), (14, i64 z)]) i ?_
   exact ⟨i + 1, ⟨rfl, rfl, (by rw [Prob.nth_none (one_done hbit)]; exact hJ _ _ _ hj hcx), (by omega), K2, H3, H4, H5, H6, H7⟩, (show l.length - (i + 1) < l.length - i from by omega)⟩
  ·rw [h26]
   have p29 := of_beq_f h26
   have hbit : d.testBit i = false := bit_zero.1 (by omega)
   refine rkQ ?_
   refine rsQ ?_
   refine rsg Open.wide ?_
   refine og 1 [(0, .func (Fn.yield ln) #[] #[]), (1, ptr b2), (2, ptr b3), (4, i64 ↑i), (5, ptr b16), (12, .slice LA l.length lc), (13, i64 ↑l.length), (14, i64 ↑i), (25, ptr b2)] 1 ?_
   refine ogo (Value.slice LA l.length lc) 26 (rld 33 b2 0 H6) rfl ?_
   refine ogd 2 [(0, .func (Fn.yield ln) #[] #[]), (1, ptr b2), (2, ptr b3), (4, i64 ↑i), (5, ptr b16), (12, .slice LA l.length lc), (13, i64 ↑l.length), (14, i64 ↑i), (26, .slice LA l.length lc), (27, i64 ↑l.length), (28, i64 0)] ?_
   refine qr_block (id := 2) (by kernel_rfl) ?_
   refine qr_keep (R := [(0, .func (Fn.yield ln) #[] #[]), (1, ptr b2), (2, ptr b3), (4, i64 ↑i), (5, ptr b16), (12, .slice LA l.length lc), (13, i64 ↑l.length), (14, i64 ↑i), (26, .slice LA l.length lc), (27, i64 ↑l.length), (28, i64 0)]) (by kernel_rfl) ?_
   refine qr_loop (fun (kk : Nat) (ds : List Deferred) L (wx : World) => ds = [] ∧ L = [(0, (Value.func (Fn.yield ln) #[] #[])), (1, (ptr b2)), (2, (ptr b3)), (4, (i64 ((i : Nat) : Int))), (5, (ptr b16)), (12, (Value.slice LA l.length lc)), (13, (i64 ((l.length : Nat) : Int))), (14, (i64 ((i : Nat) : Int))), (26, (Value.slice LA l.length lc)), (27, (i64 ((l.length : Nat) : Int))), (28, (i64 ((kk : Nat) : Int)))] ∧ Keeps none_ w1 wx ∧ w1.heap.size ≤ b16 ∧ (∀ j z, j < kk → l[j]? = some z → j ≠ i → d.testBit j = false → aheadH z.c x.c = false) ∧ kk ≤ l.length ∧ Keeps (fun i => T i) w wx ∧ Has wx b (rowL [(Value.map (some mb)), (Value.map (some kb))] 110) ∧ HasMap wx mb kstr ki64 m ∧ HasMap wx kb kpair keptv (K.map KeptM.kv) ∧ Has wx b2 (rowL [(Value.slice LA l.length lc), (Value.slice AA a.length ac)] 68) ∧ Has wx b3 (rowL [(Value.slice OA o.length oc), (Value.int IntKind.u64 ((d : Nat) : Int)), (i64 lf), (ptr b)] 73) ∧ Has wx b16 (rowL (HC.cells x) 43)) (fun (kk : Nat) => l.length - kk) 0 (by kernel_rfl) ⟨rfl, rfl, hcx, ox22, (fun j z hj => absurd hj (Nat.not_lt_zero _)), Nat.zero_le _, K2, H3, H4, H5, H6, H7, H24⟩ ?_
   clear H3 H4 H5 H6 H7 H24 hcx hR8 K2
   rintro kk _ _ w30 ⟨rfl, rfl, hcx, ob5, hwt, hkk, K31, H32, H33, H34, H35, H36, H37⟩
   have hR38 := Rd.keep (by decide) hRL K31 (fun i hi => (hFL i hi).2)
   have hR39 := Rd.keep (by decide) hRA K31 (fun i hi => (hFA i hi).2)
   have hR40 := Rd.keep (by decide) hRO K31 (fun i hi => (hFO i hi).2)
   refine rsg Open.wide ?_
   refine ogd 1 [(0, .func (Fn.yield ln) #[] #[]), (1, ptr b2), (2, ptr b3), (4, i64 ↑i), (5, ptr b16), (12, .slice LA l.length lc), (13, i64 ↑l.length), (14, i64 ↑i), (26, .slice LA l.length lc), (27, i64 ↑l.length), (28, i64 ↑kk), (29, (Value.bool (decide (((kk : Nat) : Int) < ((l.length : Nat) : Int)))))] ?_
   refine rsQ ?_
   refine rcQ 29 (decide (((kk : Nat) : Int) < ((l.length : Nat) : Int))) rfl (fun h41 => ?_) (fun h41 => ?_)
   ·rw [h41]
    have p42 := of_decide_eq_true h41
    refine rkQ ?_
    refine rsQ ?_
    refine qr_block (id := 3) (by kernel_rfl) ?_
    refine rsg Open.wide ?_
    refine og 1 [(0, .func (Fn.yield ln) #[] #[]), (1, ptr b2), (2, ptr b3), (4, i64 ↑i), (5, ptr b16), (12, .slice LA l.length lc), (13, i64 ↑l.length), (14, i64 ↑i), (26, .slice LA l.length lc), (27, i64 ↑l.length), (28, i64 ↑kk), (30, i64 ↑kk)] 1 ?_
    obtain ⟨y, hy⟩ : ∃ x, l[kk]? = some x := ⟨_, List.getElem?_eq_getElem (by omega)⟩
    obtain ⟨rb43, ro44, hA45⟩ := Rd.addr hR38 (by omega)
    refine Ops.go (by kernel_rfl) (Runs.ixSliceE (k := IntKind.i64) (t := 33) (len := l.length) (cap := lc) (s := 13) (off' := ro44 + kk * 13) (i := ((kk : Nat) : Int)) hA45 (by kernel_rfl) (by kernel_rfl) (by omega) (by omega) (by omega)) (d := (some 31)) (by kernel_rfl) rfl ?_
    refine ogo (agg (HC.cells y)) 32 (Runs.load (t := 43) (a := ⟨rb43, ro44 + kk * 13, none⟩) (by kernel_rfl) (RdT.ld (f := HC.cells) (x := y) HC.two hR38 (by kernel_rfl) (by kernel_rfl) hA45 hy)) rfl ?_
    refine onew (rowL [(i64 0), (Value.string ByteArray.empty), (Value.string ByteArray.empty), (i64 0), (Value.string ByteArray.empty), (i64 0), (i64 0), (i64 0), (i64 0), (Value.bool false), (i64 0), (i64 0), (Value.slice none 0 0)] 43) (fun b => (ptr b)) 7 (fun b => rfl) (fun b46 w47 hb48 H49 K50 hs51 => ?_)
    have lb46b : b < b46 := by have := H32.lt; omega
    have lb46mb : mb < b46 := by have := H33.lt; omega
    have lb46kb : kb < b46 := by have := H34.lt; omega
    have lb46b2 : b2 < b46 := by have := H35.lt; omega
    have lb46b3 : b3 < b46 := by have := H36.lt; omega
    have lb46b16 : b16 < b46 := by have := H37.lt; omega
    have nb46 : w.heap.size ≤ b46 := by have := K31.size; omega
    have ox52 : w1.heap.size ≤ b46 := by have := hcx.size; omega
    replace K31 := K31.tn K50
    replace H32 := H32.kn K50
    replace H33 := H33.kn K50
    replace H34 := H34.kn K50
    replace H35 := H35.kn K50
    replace H36 := H36.kn K50
    replace H37 := H37.kn K50
    replace hcx := hcx.trans K50 (fun _ _ h => h) (fun _ _ h => h)
    clear K50 hs51
    refine og 1 [(0, .func (Fn.yield ln) #[] #[]), (1, ptr b2), (2, ptr b3), (4, i64 ↑i), (5, ptr b16), (6, i64 ↑kk), (7, ptr b46), (12, .slice LA l.length lc), (13, i64 ↑l.length), (14, i64 ↑i), (26, .slice LA l.length lc), (27, i64 ↑l.length), (28, i64 ↑kk), (32, (agg (HC.cells y)))] 5 ?_
    refine oput 43 b46 (HC.cells y) H49 rfl (fun w53 H54 K55 => ?_)
    replace K31 := K31.t1 K55 fun _ => by omega
    replace H32 := H32.k1 K55 (by omega)
    replace H33 := H33.k1 K55 (by omega)
    replace H34 := H34.k1 K55 (by omega)
    replace H35 := H35.k1 K55 (by omega)
    replace H36 := H36.k1 K55 (by omega)
    replace H37 := H37.k1 K55 (by omega)
    replace hcx := Keeps.trans hcx K55 (U := none_) (fun _ _ h => h) (fun i hi hs => by have hs : i = b46 := hs; exfalso; have := ox52; omega)
    refine od ?_
    refine rsg Open.wide ?_
    refine og 4 [(0, .func (Fn.yield ln) #[] #[]), (1, ptr b2), (2, ptr b3), (4, i64 ↑i), (5, ptr b16), (6, i64 ↑kk), (7, ptr b46), (12, .slice LA l.length lc), (13, i64 ↑l.length), (14, i64 ↑i), (26, .slice LA l.length lc), (27, i64 ↑l.length), (28, i64 ↑kk), (36, (Value.bool (((kk : Nat) : Int) != ((i : Nat) : Int))))] 4 ?_
    refine Ops.split (((kk : Nat) : Int) != ((i : Nat) : Int)) (fun h56 => ?_) (fun h56 => ?_)
    ·rw [h56]
     have p57 := of_bne_t h56
     refine og 1 [(0, .func (Fn.yield ln) #[] #[]), (1, ptr b2), (2, ptr b3), (4, i64 ↑i), (5, ptr b16), (6, i64 ↑kk), (7, ptr b46), (12, .slice LA l.length lc), (13, i64 ↑l.length), (14, i64 ↑i), (26, .slice LA l.length lc), (27, i64 ↑l.length), (28, i64 ↑kk), (36, .bool true), (37, .pointer (some ⟨b3, 1, none⟩))] 5 ?_
     refine ogo (Value.int IntKind.u64 ((d : Nat) : Int)) 38 (rld 71 b3 1 H36) rfl ?_
     refine og 1 [(0, .func (Fn.yield ln) #[] #[]), (1, ptr b2), (2, ptr b3), (4, i64 ↑i), (5, ptr b16), (7, ptr b46), (12, .slice LA l.length lc), (13, i64 ↑l.length), (14, i64 ↑i), (26, .slice LA l.length lc), (27, i64 ↑l.length), (28, i64 ↑kk), (36, .bool true), (38, (Value.int IntKind.u64 ((d : Nat) : Int))), (39, i64 ↑kk)] 7 ?_
     refine ogo (Value.int IntKind.u64 ((d / 2 ^ kk : Nat) : Int)) 40 (Runs.int (op := .shr) (t := 71) (by kernel_rfl) (run_shrN (k := IntKind.i64) (i := kk) (s := ((kk : Nat) : Int)) rfl (by omega))) rfl ?_
     refine ogo (Value.int IntKind.u64 (((d / 2 ^ kk) % 2 : Nat) : Int)) 41 (Runs.int (op := .and) (t := 71) (by kernel_rfl) (run_and1 (div_lt64 (by omega)))) rfl ?_
     refine og 3 [(0, .func (Fn.yield ln) #[] #[]), (1, ptr b2), (2, ptr b3), (4, i64 ↑i), (5, ptr b16), (7, ptr b46), (12, .slice LA l.length lc), (13, i64 ↑l.length), (14, i64 ↑i), (26, .slice LA l.length lc), (27, i64 ↑l.length), (28, i64 ↑kk), (44, (Value.bool ((((d / 2 ^ kk) % 2 : Nat) : Int) == 0)))] 12 ?_
     refine Ops.split ((((d / 2 ^ kk) % 2 : Nat) : Int) == 0) (fun h58 => ?_) (fun h58 => ?_)
     ·rw [h58]
      have p59 := of_beq_t h58
      have hbk : d.testBit kk = false := bit_zero.1 (by omega)
      refine ogo (agg (HC.cells y)) 45 (rld 43 b46 0 H54) rfl ?_
      refine ogo (agg (HC.cells x)) 46 (rld 43 b16 0 H37) rfl ?_
      refine ocQ 47 (AheadP_calls _ y x) ?_
      rintro _ w60 ⟨rfl, K61⟩
      refine ⟨_, _, rfl, rfl, ?_⟩
      replace K31 := K31.tn K61
      replace H32 := H32.kn K61
      replace H33 := H33.kn K61
      replace H34 := H34.kn K61
      replace H35 := H35.kn K61
      replace H36 := H36.kn K61
      replace H37 := H37.kn K61
      replace hcx := hcx.trans K61 (fun _ _ h => h) (fun _ _ h => h)
      refine ogd 1 [(0, .func (Fn.yield ln) #[] #[]), (1, ptr b2), (2, ptr b3), (4, i64 ↑i), (5, ptr b16), (12, .slice LA l.length lc), (13, i64 ↑l.length), (14, i64 ↑i), (26, .slice LA l.length lc), (27, i64 ↑l.length), (28, i64 ↑kk), (48, .bool (aheadH y.c x.c))] ?_
      refine rcQ 48 (aheadH y.c x.c) rfl (fun h62 => ?_) (fun h62 => ?_)
      ·rw [h62]
       have p63 : (aheadH y.c x.c) = true := h62
       refine qr_exit (id := 1) (by kernel_rfl) ?_
       refine rgQ Open.wide ?_
       refine oid 2 (fun z => [(0, .func (Fn.yield ln) #[] #[]), (1, ptr b2), (2, ptr b3), (12, .slice LA l.length lc), (13, i64 ↑l.length), (14, i64 z)]) i ?_
       exact ⟨i + 1, ⟨rfl, rfl, (by rw [Prob.nth_none (one_wait hal hx hy (by omega) hbk h62)]; exact hJ _ _ _ hj hcx), (by omega), K31, H32, H33, H34, H35, H36⟩, (show l.length - (i + 1) < l.length - i from by omega)⟩
      ·rw [h62]
       have p65 : (aheadH y.c x.c) = false := h62
       refine rkQ ?_
       refine rgQ Open.wide ?_
       refine oid 2 (fun z => [(0, .func (Fn.yield ln) #[] #[]), (1, ptr b2), (2, ptr b3), (4, i64 ↑i), (5, ptr b16), (12, .slice LA l.length lc), (13, i64 ↑l.length), (14, i64 ↑i), (26, .slice LA l.length lc), (27, i64 ↑l.length), (28, i64 z)]) kk ?_
       exact ⟨kk + 1, ⟨rfl, rfl, hcx, ob5, (fun j z hj hz => by rcases Nat.lt_succ_iff_lt_or_eq.1 hj with hj | hj; (exact hwt j z hj hz); (subst hj; obtain rfl : y = z := Option.some.inj (hy.symm.trans hz); exact fun q1 q2 => h62)), (by omega), K31, H32, H33, H34, H35, H36, H37⟩, (show l.length - (kk + 1) < l.length - kk from by omega)⟩
     ·rw [h58]
      have p67 := of_beq_f h58
      have hbk : d.testBit kk = true := bit_one.1 (by omega)
      refine ogd 4 [(0, .func (Fn.yield ln) #[] #[]), (1, ptr b2), (2, ptr b3), (4, i64 ↑i), (5, ptr b16), (12, .slice LA l.length lc), (13, i64 ↑l.length), (14, i64 ↑i), (26, .slice LA l.length lc), (27, i64 ↑l.length), (28, i64 ↑kk), (48, .bool false)] ?_
      refine qr_else (o := .tmp 48) (by kernel_rfl) rfl ?_
      refine rkQ ?_
      refine rgQ Open.wide ?_
      refine oid 2 (fun z => [(0, .func (Fn.yield ln) #[] #[]), (1, ptr b2), (2, ptr b3), (4, i64 ↑i), (5, ptr b16), (12, .slice LA l.length lc), (13, i64 ↑l.length), (14, i64 ↑i), (26, .slice LA l.length lc), (27, i64 ↑l.length), (28, i64 z)]) kk ?_
      exact ⟨kk + 1, ⟨rfl, rfl, hcx, ob5, (fun j z hj hz => by rcases Nat.lt_succ_iff_lt_or_eq.1 hj with hj | hj; (exact hwt j z hj hz); (subst hj; obtain rfl : y = z := Option.some.inj (hy.symm.trans hz); exact fun q1 q2 => absurd (hbk.symm.trans q2) (by decide))), (by omega), K31, H32, H33, H34, H35, H36, H37⟩, (show l.length - (kk + 1) < l.length - kk from by omega)⟩
    ·rw [h56]
     have p69 := of_bne_f h56
     refine ogd 12 [(0, .func (Fn.yield ln) #[] #[]), (1, ptr b2), (2, ptr b3), (4, i64 ↑i), (5, ptr b16), (12, .slice LA l.length lc), (13, i64 ↑l.length), (14, i64 ↑i), (26, .slice LA l.length lc), (27, i64 ↑l.length), (28, i64 ↑kk), (48, .bool false)] ?_
     refine qr_else (o := .tmp 48) (by kernel_rfl) rfl ?_
     refine rkQ ?_
     refine rgQ Open.wide ?_
     refine oid 2 (fun z => [(0, .func (Fn.yield ln) #[] #[]), (1, ptr b2), (2, ptr b3), (4, i64 ↑i), (5, ptr b16), (12, .slice LA l.length lc), (13, i64 ↑l.length), (14, i64 ↑i), (26, .slice LA l.length lc), (27, i64 ↑l.length), (28, i64 z)]) kk ?_
     exact ⟨kk + 1, ⟨rfl, rfl, hcx, ob5, (fun j z hj hz => by rcases Nat.lt_succ_iff_lt_or_eq.1 hj with hj | hj; (exact hwt j z hj hz); (subst hj; obtain rfl : y = z := Option.some.inj (hy.symm.trans hz); exact fun q1 q2 => (q1 (by omega)).elim)), (by omega), K31, H32, H33, H34, H35, H36, H37⟩, (show l.length - (kk + 1) < l.length - kk from by omega)⟩
   ·rw [h41]
    have p71 := of_decide_eq_false h41
    refine qr_exit (id := 2) (by kernel_rfl) ?_
    refine rsg Open.wide ?_
    refine og 1 [(0, .func (Fn.yield ln) #[] #[]), (1, ptr b2), (2, ptr b3), (4, i64 ↑i), (5, ptr b16), (12, .slice LA l.length lc), (13, i64 ↑l.length), (14, i64 ↑i), (28, i64 ↑kk), (50, .pointer (some ⟨b3, 3, none⟩))] 1 ?_
    refine ogo (ptr b) 51 (rld 69 b3 3 H36) rfl ?_
    refine ocQ 52 (Copy_calls _ b mb kb m S K H32 H33 H34 (by omega) hB) ?_
    rintro _ w75 ⟨b72, mb73, kb74, rfl, K76, H77, Hm78, Hk79, hb80, hb81, hb82, hb83, hb84, hb85⟩
    have lb72b : b < b72 := by have := H32.lt; omega
    have lmb73b : b < mb73 := by have := H32.lt; omega
    have lkb74b : b < kb74 := by have := H32.lt; omega
    have lb72mb : mb < b72 := by have := H33.lt; omega
    have lmb73mb : mb < mb73 := by have := H33.lt; omega
    have lkb74mb : mb < kb74 := by have := H33.lt; omega
    have lb72kb : kb < b72 := by have := H34.lt; omega
    have lmb73kb : kb < mb73 := by have := H34.lt; omega
    have lkb74kb : kb < kb74 := by have := H34.lt; omega
    have lb72b2 : b2 < b72 := by have := H35.lt; omega
    have lmb73b2 : b2 < mb73 := by have := H35.lt; omega
    have lkb74b2 : b2 < kb74 := by have := H35.lt; omega
    have lb72b3 : b3 < b72 := by have := H36.lt; omega
    have lmb73b3 : b3 < mb73 := by have := H36.lt; omega
    have lkb74b3 : b3 < kb74 := by have := H36.lt; omega
    have lb72b16 : b16 < b72 := by have := H37.lt; omega
    have lmb73b16 : b16 < mb73 := by have := H37.lt; omega
    have lkb74b16 : b16 < kb74 := by have := H37.lt; omega
    have nb72 : w.heap.size ≤ b72 := by have := K31.size; omega
    have nmb73 : w.heap.size ≤ mb73 := by have := K31.size; omega
    have nkb74 : w.heap.size ≤ kb74 := by have := K31.size; omega
    have ox86 : w1.heap.size ≤ b72 := by have := hcx.size; omega
    have ox87 : w1.heap.size ≤ mb73 := by have := hcx.size; omega
    have ox88 : w1.heap.size ≤ kb74 := by have := hcx.size; omega
    refine ⟨_, _, rfl, rfl, ?_⟩
    replace K31 := K31.tn K76
    replace H32 := H32.kn K76
    replace H33 := H33.kn K76
    replace H34 := H34.kn K76
    replace H35 := H35.kn K76
    replace H36 := H36.kn K76
    replace H37 := H37.kn K76
    replace hcx := hcx.trans K76 (fun _ _ h => h) (fun _ _ h => h)
    replace hR39 := Rd.keep0 (by decide) hR39 K76
    replace hR40 := Rd.keep0 (by decide) hR40 K76
    refine ogd 1 [(0, .func (Fn.yield ln) #[] #[]), (1, ptr b2), (2, ptr b3), (4, i64 ↑i), (5, ptr b16), (8, ptr b72), (12, .slice LA l.length lc), (13, i64 ↑l.length), (14, i64 ↑i), (28, i64 ↑kk)] ?_
    refine rsQ ?_
    refine rsQ ?_
    have hxa := ho x (List.mem_of_getElem? hx)
    refine rgQ Open.wide ?_
    refine og 2 [(0, .func (Fn.yield ln) #[] #[]), (1, ptr b2), (2, ptr b3), (4, i64 ↑i), (5, ptr b16), (8, ptr b72), (12, .slice LA l.length lc), (13, i64 ↑l.length), (14, i64 ↑i), (28, i64 ↑kk), (53, ptr b72), (54, ptr b16)] 2 ?_
    refine ogo (agg (Opm.cells x.c.op)) 55 (rld 24 b16 0 H37) rfl ?_
    refine ocQ 56 (Do_calls _ b72 mb73 kb74 m S K x.c.op H77 Hm78 Hk79 (by omega) hB (by first | omega | decide | exact ⟨(by decide : (-9223372036854775808 : Int) ≤ 0), (by decide : (0 : Int) ≤ 9223372036854775807)⟩) (by first | omega | decide)) ?_
    rintro _ w92 ⟨m89, A90, c91, rfl, K93, Hm94, Hk95, hB96, hO97⟩
    have O98 := own_base hO97 K31.size
    have hl99 := hB96.ledg.le
    have hl100 := doK_len S K x.c.op
    refine ⟨_, _, rfl, rfl, ?_⟩
    replace K31 := K31.trans K93 (U := (fun i => T i)) (fun i h1 h2 => h2) (fun i h1 h2 => by have h2 : i = mb73 ∨ i = kb74 := h2; rcases h2 with h2 | h2; (exfalso; omega); (exfalso; omega))
    replace H32 := H32.keep K93 (by intro h; change b = mb73 ∨ b = kb74 at h; omega)
    replace H33 := H33.keep K93 (by intro h; change mb = mb73 ∨ mb = kb74 at h; omega)
    replace H34 := H34.keep K93 (by intro h; change kb = mb73 ∨ kb = kb74 at h; omega)
    replace H35 := H35.keep K93 (by intro h; change b2 = mb73 ∨ b2 = kb74 at h; omega)
    replace H36 := H36.keep K93 (by intro h; change b3 = mb73 ∨ b3 = kb74 at h; omega)
    replace H37 := H37.keep K93 (by intro h; change b16 = mb73 ∨ b16 = kb74 at h; omega)
    replace H77 := H77.keep K93 (by intro h; change b72 = mb73 ∨ b72 = kb74 at h; omega)
    replace hcx := Keeps.trans hcx K93 (U := none_) (fun _ _ h => h) (fun i hi hs => by have hs : i = mb73 ∨ i = kb74 := hs; rcases hs with hs | hs; (exfalso; have := ox87; omega); (exfalso; have := ox88; omega))
    replace hR39 := (Rd.keep (by decide) hR39 K93 (fun i hi hs => by have hs : i = mb73 ∨ i = kb74 := hs; have := hFA1 i hi; omega))
    replace hR40 := (Rd.keep (by decide) hR40 K93 (fun i hi hs => by have hs : i = mb73 ∨ i = kb74 := hs; have := hFO1 i hi; omega))
    refine onew (rowL [(i64 0), (i64 0), (Value.slice none 0 0)] 28) (fun b => (ptr b)) 9 (fun b => rfl) (fun b110 w111 hb112 H113 K114 hs115 => ?_)
    have lb110b : b < b110 := by have := H32.lt; omega
    have lb110mb : mb < b110 := by have := H33.lt; omega
    have lb110kb : kb < b110 := by have := H34.lt; omega
    have lb110b2 : b2 < b110 := by have := H35.lt; omega
    have lb110b3 : b3 < b110 := by have := H36.lt; omega
    have lb110b16 : b16 < b110 := by have := H37.lt; omega
    have lb110b72 : b72 < b110 := by have := H77.lt; omega
    have lb110mb73 : mb73 < b110 := by have := Hm94.lt; omega
    have lb110kb74 : kb74 < b110 := by have := Hk95.lt; omega
    have nb110 : w.heap.size ≤ b110 := by have := K31.size; omega
    have ox116 : w1.heap.size ≤ b110 := by have := hcx.size; omega
    have ob117 : ∀ i, Ow (.slice A90 ((doR S K x.c.op).rows.length) c91) i → i < b110 := fun i hi => by have := (World.ownsRow.lt O98 i hi).2; omega
    replace K31 := K31.tn K114
    replace H32 := H32.kn K114
    replace H33 := H33.kn K114
    replace H34 := H34.kn K114
    replace H35 := H35.kn K114
    replace H36 := H36.kn K114
    replace H37 := H37.kn K114
    replace H77 := H77.kn K114
    replace Hm94 := Hm94.kn K114
    replace Hk95 := Hk95.kn K114
    replace hcx := hcx.trans K114 (fun _ _ h => h) (fun _ _ h => h)
    replace hR39 := Rd.keep0 (by decide) hR39 K114
    replace hR40 := Rd.keep0 (by decide) hR40 K114
    replace O98 := own_keep0 O98 K114
    clear K114 hs115
    refine oput 28 b110 [(i64 ((doR S K x.c.op).why)), (i64 ((doR S K x.c.op).amount)), (Value.slice A90 ((doR S K x.c.op).rows.length) c91)] H113 rfl (fun w118 H119 K120 => ?_)
    replace K31 := K31.t1 K120 fun _ => by omega
    replace H32 := H32.k1 K120 (by omega)
    replace H33 := H33.k1 K120 (by omega)
    replace H34 := H34.k1 K120 (by omega)
    replace H35 := H35.k1 K120 (by omega)
    replace H36 := H36.k1 K120 (by omega)
    replace H37 := H37.k1 K120 (by omega)
    replace H77 := H77.k1 K120 (by omega)
    replace Hm94 := Hm94.k1 K120 (by omega)
    replace Hk95 := Hk95.k1 K120 (by omega)
    replace hcx := Keeps.trans hcx K120 (U := none_) (fun _ _ h => h) (fun i hi hs => by have hs : i = b110 := hs; exfalso; have := ox116; omega)
    replace hR39 := (Rd.keep (by decide) hR39 K120 (fun i hi hs => by have hs : i = b110 := hs; have := hFA1 i hi; omega))
    replace hR40 := (Rd.keep (by decide) hR40 K120 (fun i hi hs => by have hs : i = b110 := hs; have := hFO1 i hi; omega))
    replace O98 := own_keep O98 K120 (fun i hi => by have := ob117 i hi; omega)
    refine od ?_
    refine rsQ ?_
    have hX121 : RdR w118 (Value.slice x.A x.c.rep.rows.length x.k) x.c.rep.rows := (RowsE.keep hG K31 (fun i hi => (hFG i hi).2)).1 x (List.mem_of_getElem? hx)
    refine qr_mono (Q := fun ds2 e2 L2 wm => ds2 = [] ∧ e2 = .normal ∧ ∃ t122 : Bool, L2 = [(0, (Value.func (Fn.yield ln) #[] #[])), (1, (ptr b2)), (2, (ptr b3)), (4, (i64 ((i : Nat) : Int))), (5, (ptr b16)), (8, (ptr b72)), (12, (Value.slice LA l.length lc)), (13, (i64 ((l.length : Nat) : Int))), (14, (i64 ((i : Nat) : Int))), (28, (i64 ((kk : Nat) : Int))), (65, (Value.bool t122))] ∧ Keeps none_ w118 wm ∧ (t122 = false → stepH x.c (S, K) = some (doS S K x.c.op, doK S K x.c.op)) ∧ (t122 = true → stepH x.c (S, K) = none)) ?_ ?_
    ·skip
     have hmid127 : Keeps none_ w118 w118 := Keeps.refl _
     refine rgQ Open.wide ?_
     refine og 1 [(0, .func (Fn.yield ln) #[] #[]), (1, ptr b2), (2, ptr b3), (4, i64 ↑i), (5, ptr b16), (8, ptr b72), (9, ptr b110), (12, .slice LA l.length lc), (13, i64 ↑l.length), (14, i64 ↑i), (28, i64 ↑kk), (57, .pointer (some ⟨b16, 9, none⟩))] 1 ?_
     refine ogo (Value.bool x.c.told) 58 (rld 4 b16 9 H37) rfl ?_
     refine og 1 [(0, .func (Fn.yield ln) #[] #[]), (1, ptr b2), (2, ptr b3), (4, i64 ↑i), (5, ptr b16), (8, ptr b72), (9, ptr b110), (12, .slice LA l.length lc), (13, i64 ↑l.length), (14, i64 ↑i), (28, i64 ↑kk), (59, .bool x.c.told)] 3 ?_
     refine Ops.split x.c.told (fun h128 => ?_) (fun h128 => ?_)
     ·rw [h128]
      have p129 : x.c.told = true := h128
      refine ogo (agg [(i64 ((doR S K x.c.op).why)), (i64 ((doR S K x.c.op).amount)), (Value.slice A90 ((doR S K x.c.op).rows.length) c91)]) 60 (rld 28 b110 0 H119) rfl ?_
      refine og 1 [(0, .func (Fn.yield ln) #[] #[]), (1, ptr b2), (2, ptr b3), (4, i64 ↑i), (5, ptr b16), (8, ptr b72), (12, .slice LA l.length lc), (13, i64 ↑l.length), (14, i64 ↑i), (28, i64 ↑kk), (59, .bool true), (60, (agg [(i64 ((doR S K x.c.op).why)), (i64 ((doR S K x.c.op).amount)), (Value.slice A90 ((doR S K x.c.op).rows.length) c91)])), (61, .pointer (some ⟨b16, 10, none⟩))] 5 ?_
      refine ogo (agg [(i64 x.c.rep.why), (i64 x.c.rep.amount), (Value.slice x.A x.c.rep.rows.length x.k)]) 62 (rld 28 b16 10 H37) rfl ?_
      refine ocQ 63 (sameH_calls _ A90 c91 (⟨(doR S K x.c.op).why, (doR S K x.c.op).amount, (doR S K x.c.op).rows⟩ : ReplyM) x.A x.k (⟨x.c.rep.why, x.c.rep.amount, x.c.rep.rows⟩ : ReplyM) (OwnT.rd O98) hX121) ?_
      rintro _ w133 ⟨t130, rfl, ht131, K132⟩
      refine ⟨_, _, rfl, rfl, ?_⟩
      replace hmid127 := hmid127.trans K132 (fun _ _ h => h) (fun _ _ h => h)
      refine ogd 2 [(0, .func (Fn.yield ln) #[] #[]), (1, ptr b2), (2, ptr b3), (4, i64 ↑i), (5, ptr b16), (8, ptr b72), (12, .slice LA l.length lc), (13, i64 ↑l.length), (14, i64 ↑i), (28, i64 ↑kk), (65, .bool (!t130))] ?_
      exact ⟨rfl, rfl, _, rfl, hmid127, fun q => stepH_yes (ht131.1 (by cases t130 with | true => rfl | false => cases q)), fun q => stepH_no h128 (fun q1 => by rw [ht131.2 q1] at q; cases q)⟩
     ·rw [h128]
      have p134 : x.c.told = false := h128
      refine ogd 6 [(0, .func (Fn.yield ln) #[] #[]), (1, ptr b2), (2, ptr b3), (4, i64 ↑i), (5, ptr b16), (8, ptr b72), (12, .slice LA l.length lc), (13, i64 ↑l.length), (14, i64 ↑i), (28, i64 ↑kk), (65, .bool false)] ?_
      exact ⟨rfl, rfl, _, rfl, hmid127, fun _ => stepH_not h128, fun q => by cases q⟩
    ·skip
     rintro _ _ _ w124 ⟨rfl, rfl, t122, rfl, K123, ha125, hb126⟩
     replace K31 := K31.tn K123
     replace H32 := H32.kn K123
     replace H33 := H33.kn K123
     replace H34 := H34.kn K123
     replace H35 := H35.kn K123
     replace H36 := H36.kn K123
     replace H37 := H37.kn K123
     replace H77 := H77.kn K123
     replace Hm94 := Hm94.kn K123
     replace Hk95 := Hk95.kn K123
     replace H119 := H119.kn K123
     replace hcx := hcx.trans K123 (fun _ _ h => h) (fun _ _ h => h)
     replace hR39 := Rd.keep0 (by decide) hR39 K123
     replace hR40 := Rd.keep0 (by decide) hR40 K123
     refine rcQ 65 t122 rfl (fun h135 => ?_) (fun h135 => ?_)
     ·rw [h135]
      have p136 : t122 = true := h135
      refine qr_exit (id := 1) (by kernel_rfl) ?_
      refine rgQ Open.wide ?_
      refine oid 2 (fun z => [(0, .func (Fn.yield ln) #[] #[]), (1, ptr b2), (2, ptr b3), (12, .slice LA l.length lc), (13, i64 ↑l.length), (14, i64 z)]) i ?_
      exact ⟨i + 1, ⟨rfl, rfl, (by rw [Prob.nth_none (one_refuse hal hx (hb126 h135))]; exact hJ _ _ _ hj hcx), (by omega), K31, H32, H33, H34, H35, H36⟩, (show l.length - (i + 1) < l.length - i from by omega)⟩
     ·rw [h135]
      have p138 : t122 = false := h135
      have hst := ha125 h135
      refine rkQ ?_
      refine rsQ ?_
      refine qr_drawS Open.wide 21 (by kernel_rfl) (by kernel_rfl) (by kernel_rfl) (by kernel_rfl) (fun w139 K140 _ _ => ?_)
      replace K31 := K31.tn K140
      replace H32 := H32.kn K140
      replace H33 := H33.kn K140
      replace H34 := H34.kn K140
      replace H35 := H35.kn K140
      replace H36 := H36.kn K140
      replace H37 := H37.kn K140
      replace H77 := H77.kn K140
      replace Hm94 := Hm94.kn K140
      replace Hk95 := Hk95.kn K140
      replace H119 := H119.kn K140
      replace hcx := hcx.trans K140 (fun _ _ h => h) (fun _ _ h => h)
      replace hR39 := Rd.keep0 (by decide) hR39 K140
      replace hR40 := Rd.keep0 (by decide) hR40 K140
      have Kb141 : Keeps none_ w139 w139 := Keeps.refl w139
      have zb := H32.lt
      have zmb := H33.lt
      have zkb := H34.lt
      have zb2 := H35.lt
      have zb3 := H36.lt
      have zb16 := H37.lt
      have zb72 := H77.lt
      have zmb73 := Hm94.lt
      have zkb74 := Hk95.lt
      have zb110 := H119.lt
      refine ⟨fun wz => Keeps none_ w139 wz, [], (SH.nil Kb141), ?_⟩
      refine skQ 20 [0] [(0, .func (Fn.yield ln) #[] #[]), (1, ptr b2), (2, ptr b3), (4, i64 ↑i), (5, ptr b16), (8, ptr b72), (12, .slice LA l.length lc), (13, i64 ↑l.length), (14, i64 ↑i), (28, i64 ↑kk), (66, ptr b3)] ?_
      refine stQ 1 (Value.slice OA o.length oc) 67 (fun wz hS => rld 35 b3 0 (H36.keep hS (fun h => h))) rfl ?_
      refine skQ 18 [3] [(0, .func (Fn.yield ln) #[] #[]), (1, ptr b2), (2, ptr b3), (4, i64 ↑i), (5, ptr b16), (8, ptr b72), (12, .slice LA l.length lc), (13, i64 ↑l.length), (14, i64 ↑i), (28, i64 ↑kk), (67, .slice OA o.length oc), (69, .pointer (some ⟨b2, 1, none⟩))] ?_
      refine stQ 4 (Value.slice AA a.length ac) 70 (fun wz hS => rld 35 b2 1 (H35.keep hS (fun h => h))) rfl ?_
      obtain ⟨rb142, ro143, na, hA144, hx145⟩ := RdT.open hR39 rfl (k := i) (by omega)
      have hna := hx145
      refine skQ 16 [5] [(0, .func (Fn.yield ln) #[] #[]), (1, ptr b2), (2, ptr b3), (4, i64 ↑i), (5, ptr b16), (8, ptr b72), (12, .slice LA l.length lc), (13, i64 ↑l.length), (14, i64 ↑i), (28, i64 ↑kk), (67, .slice OA o.length oc), (70, .slice AA a.length ac), (71, i64 ↑i)] ?_
      refine stQ 6 (Value.pointer (some ⟨rb142, ro143 + i, none⟩)) 72 (fun wz hS => Runs.ixSliceE (k := IntKind.i64) (t := 35) (len := a.length) (cap := ac) (s := 1) (off' := ro143 + i) (i := ((i : Nat) : Int)) hA144 (by kernel_rfl) (by kernel_rfl) (by omega) (by omega) (by omega)) rfl ?_
      refine stQ 7 (i64 ((na : Nat) : Int)) 73 (fun wz hS => Runs.load (t := 3) (a := ⟨rb142, ro143 + i, none⟩) (by kernel_rfl) (RdT.ldu (f := iN) (x := na) iN_one (Rd.keep0 (by omega) hR39 hS) (by kernel_rfl) hA144 hx145 rfl)) rfl ?_
      refine skQ 13 [10] [(0, .func (Fn.yield ln) #[] #[]), (1, ptr b2), (2, ptr b3), (4, i64 ↑i), (5, ptr b16), (8, ptr b72), (12, .slice LA l.length lc), (13, i64 ↑l.length), (14, i64 ↑i), (28, i64 ↑kk), (67, .slice OA o.length oc), (73, i64 ↑na), (76, .pointer (some ⟨b3, 1, none⟩))] ?_
      refine stQ 11 (Value.int IntKind.u64 ((d : Nat) : Int)) 77 (fun wz hS => rld 71 b3 1 (H36.keep hS (fun h => h))) rfl ?_
      refine skQ 11 [12] [(0, .func (Fn.yield ln) #[] #[]), (1, ptr b2), (2, ptr b3), (5, ptr b16), (8, ptr b72), (12, .slice LA l.length lc), (13, i64 ↑l.length), (14, i64 ↑i), (28, i64 ↑kk), (67, .slice OA o.length oc), (73, i64 ↑na), (77, (Value.int IntKind.u64 ((d : Nat) : Int))), (78, i64 ↑i)] ?_
      refine stQ 13 (Value.int IntKind.u64 ((1 <<< i : Nat) : Int)) 79 (fun wz hS => Runs.int (op := .shl) (t := 71) (by kernel_rfl) (run_shl1 (k := IntKind.i64) (i := i) (s := ((i : Nat) : Int)) rfl (by omega))) rfl ?_
      refine stQ 14 (Value.int IntKind.u64 ((d ||| 1 <<< i : Nat) : Int)) 80 (fun wz hS => Runs.int (op := .or) (t := 71) (by kernel_rfl) (run_orN (by omega) (shl_lt (by omega)))) rfl ?_
      refine skQ 8 [15] [(0, .func (Fn.yield ln) #[] #[]), (1, ptr b2), (2, ptr b3), (5, ptr b16), (8, ptr b72), (12, .slice LA l.length lc), (13, i64 ↑l.length), (14, i64 ↑i), (28, i64 ↑kk), (67, .slice OA o.length oc), (73, i64 ↑na), (80, (Value.int IntKind.u64 ((d ||| 1 <<< i : Nat) : Int))), (81, .pointer (some ⟨b3, 2, none⟩))] ?_
      refine stQ 16 (i64 lf) 82 (fun wz hS => rld 3 b3 2 (H36.keep hS (fun h => h))) rfl ?_
      refine skQ 6 [17] [(0, .func (Fn.yield ln) #[] #[]), (1, ptr b2), (2, ptr b3), (5, ptr b16), (12, .slice LA l.length lc), (13, i64 ↑l.length), (14, i64 ↑i), (28, i64 ↑kk), (67, .slice OA o.length oc), (73, i64 ↑na), (80, (Value.int IntKind.u64 ((d ||| 1 <<< i : Nat) : Int))), (82, i64 lf), (83, ptr b72)] ?_
      refine DrS.three (i := 2) (j := 8) (k := 19) (by kernel_rfl) ?_ ?_ ?_
      ·skip
       refine Dr1.call (by kernel_rfl) (d := (some 68)) (by kernel_rfl) (CloneI_calls _ OA oc o (Rd.keep0 (by decide) hR40 Kb141) (by omega)) ?_
       rintro _ w148 ⟨A146, c147, rfl, K149, hO150⟩
       have oy152 : ∀ i, Ow (.slice A146 o.length c147) i → w139.heap.size ≤ i := fun i hi => by have := (World.ownsRow.lt hO150 i hi).1; have := Kb141.size; omega
       have O151 := own_base hO150 (Nat.le_trans hcx.size Kb141.size)
       have Kb154 := Kb141.tn K149
       refine ⟨_, _, rfl, rfl, (SH.nil Kb154), ?_⟩
       refine DrS.two (i := 8) (j := 19) (by kernel_rfl) ?_ ?_
       ·skip
        refine Dr1.new (o := rowL [(i64 ((na : Nat) : Int))] 3) (V := fun b => (Value.slice (some ⟨b, 0, none⟩) 1 1)) (by kernel_rfl) (d := (some 74)) (by kernel_rfl) (fun b => rfl) (fun b155 w156 hb157 H158 K159 hs160 => ?_)
        have xb155 : w139.heap.size ≤ b155 := by have := Kb154.size; omega
        have nb155 : w.heap.size ≤ b155 := by have := K31.size; omega
        have ox161 : w1.heap.size ≤ b155 := by have := hcx.size; omega
        have ob162 : ∀ i, Ow (.slice A146 o.length c147) i → i < b155 := fun i hi => by have := (World.ownsRow.lt O151 i hi).2; omega
        replace O151 := own_keep0 O151 K159
        have Kb163 := Kb154.tn K159
        refine ⟨(SH.nil Kb163), ?_⟩
        clear K159 hs160
        refine DrS.two (i := 9) (j := 19) (by kernel_rfl) ?_ ?_
        ·skip
         obtain ⟨v164, w165, hr166, hO167, hK168, hg169⟩ := OwnT.app (ty := 35) iN_one iN_cells tyI O151 (show RdT _ 1 iN _ [na] from Rd.lit H158 (n := 1) rfl (by decide)) (by simp only [List.length_cons, List.length_nil]; omega) (by simp only [List.length_cons, List.length_nil]; omega) (Nat.le_trans hcx.size Kb163.size)
         obtain ⟨A171, c172, rfl⟩ := RdT.form iN_one (by decide) (OwnT.rd hO167)
         have K170 := hK168
         replace H158 := H158.keep K170 (by intro h; change Ow (.slice A146 o.length c147) b155 at h; have := ob162 b155 h; omega)
         have Kb174 := Kb163.trans K170 (U := none_) (fun _ _ h => h) (fun i h1 h2 => by have h2 : Ow (.slice A146 o.length c147) i := h2; exfalso; have := oy152 i h2; omega)
         refine Dr1.go (v := (Value.slice A171 ((o ++ [na]).length) c172)) (by kernel_rfl) (Runs.append (ts := #[35, 35]) (ty := 35) (vs := [(Value.slice A146 o.length c147), (Value.slice (some ⟨b155, 0, none⟩) 1 1)]) (by kernel_rfl) hr166) (d := (some 75)) (by kernel_rfl) rfl (SH.nil Kb174) ?_
         clear K170 hr166 hK168 hg169
         refine skQ 2 [18] [(0, .func (Fn.yield ln) #[] #[]), (1, ptr b2), (2, ptr b3), (5, ptr b16), (12, .slice LA l.length lc), (13, i64 ↑l.length), (14, i64 ↑i), (28, i64 ↑kk), (84, (agg [(Value.slice A171 ((o ++ [na]).length) c172), (Value.int IntKind.u64 ((d ||| 1 <<< i : Nat) : Int)), (i64 lf), (ptr b72)]))] ?_
         refine soQ 19 ?_
         refine Dr1.new (o := rowL [(Value.slice none 0 0), (Value.int IntKind.u64 0), (i64 0), (Value.pointer none)] 73) (V := fun b => (ptr b)) (by kernel_rfl) (d := (some 10)) (by kernel_rfl) (fun b => rfl) (fun b175 w176 hb177 H178 K179 hs180 => ?_)
         have xb175 : w139.heap.size ≤ b175 := by have := Kb174.size; omega
         have lb175b155 : b155 < b175 := by have := H158.lt; omega
         have nb175 : w.heap.size ≤ b175 := by have := K31.size; omega
         have ox181 : w1.heap.size ≤ b175 := by have := hcx.size; omega
         have ob182 : ∀ i, Ow (.slice A171 ((o ++ [na]).length) c172) i → i < b175 := fun i hi => by have := (World.ownsRow.lt hO167 i hi).2; omega
         replace hO167 := own_keep0 hO167 K179
         have Kb183 := Kb174.tn K179
         refine ⟨(SH.nil Kb183), ?_⟩
         clear K179 hs180
         refine soQ 20 ?_
         refine Dr1.put (t := 73) (b := b175) (off := 0) (v := (agg [(Value.slice A171 ((o ++ [na]).length) c172), (Value.int IntKind.u64 ((d ||| 1 <<< i : Nat) : Int)), (i64 lf), (ptr b72)])) (ys := [(Value.slice A171 ((o ++ [na]).length) c172), (Value.int IntKind.u64 ((d ||| 1 <<< i : Nat) : Int)), (i64 lf), (ptr b72)]) (by kernel_rfl) (by kernel_rfl) H178 (by kernel_rfl) (d := none) (by kernel_rfl) rfl (fun w184 H185 K186 => ?_)
         replace hO167 := own_keep hO167 K186 (fun i hi => by have := ob182 i hi; omega)
         have Kb187 := Kb183.t1 K186 fun _ => by have := xb175; omega
         refine ⟨(SH.nil Kb187), ?_⟩
         refine DrS.keep (R := [(0, .func (Fn.yield ln) #[] #[]), (1, ptr b2), (2, ptr b3), (5, ptr b16), (10, ptr b175), (12, .slice LA l.length lc), (13, i64 ↑l.length), (14, i64 ↑i)]) (by kernel_rfl) ?_
         refine DrS.done (by kernel_rfl) ?_
         replace K31 := K31.tn Kb187
         replace H32 := H32.kn Kb187
         replace H33 := H33.kn Kb187
         replace H34 := H34.kn Kb187
         replace H35 := H35.kn Kb187
         replace H36 := H36.kn Kb187
         replace H37 := H37.kn Kb187
         replace H77 := H77.kn Kb187
         replace Hm94 := Hm94.kn Kb187
         replace Hk95 := Hk95.kn Kb187
         replace hcx := hcx.trans Kb187 (fun _ _ h => h) (fun _ _ h => h)
         have hgo := one_go (t := (⟨o, d, lf, (S, K)⟩ : Sr LS_)) hal hx hna hbit (fun j z hz => hwt j z (by have := (List.getElem?_eq_some_iff.1 hz).1; omega) hz) hst
         have hq1 : (b72 ≠ mb73 ∧ b72 ≠ kb74 ∧ mb73 ≠ kb74) ∧ b72 ≠ b175 ∧ mb73 ≠ b175 ∧ kb74 ≠ b175 := by omega
         have hyA : ∀ z, StC.At w184 110 (fun i => w1.heap.size ≤ i ∧ i < w184.heap.size ∧ i ≠ b175) (⟨o ++ [na], A171, c172, d ||| 1 <<< i, z, b72, ((doS S K x.c.op), (doK S K x.c.op))⟩ : StC) := fun z => ⟨OwnT.rd hO167, fun i hi => ⟨(World.ownsRow.lt hO167 i hi).1, (World.ownsRow.lt hO167 i hi).2, by have := ob182 i hi; omega⟩, mb73, kb74, m89, H77, Hm94, Hk95, hq1.1, hB96, ⟨ox86, H77.lt, hq1.2.1⟩, ⟨ox87, Hm94.lt, hq1.2.2.1⟩, ⟨ox88, Hk95.lt, hq1.2.2.2⟩⟩
         refine next_tail w184 ln m0 b2 b3 b16 b175 i l.length LA lc x A171 (o ++ [na]).length c172 (d ||| 1 <<< i) b72 lf T (J ((probH (XS l a)).nth (⟨o, d, lf, (S, K)⟩ : Sr LS_) (i + 1))) H37 H185 (by omega) (by omega) (fun W1 k1 => ?_) (fun w9 hj9 k9 => ?_)
         ·rw [Prob.nth_some hgo]
          refine hY _ _ _ W1 hj (hcx.trans k1 (U := none_) (fun _ _ h => h) (fun i hi h => by have h : i = b175 := h; exfalso; omega)) hWw (Prob.nth_lt (by show i < (XS l a).length; rw [xs_len hal]; omega) hgo) ⟨(⟨o ++ [na], A171, c172, d ||| 1 <<< i, (if x.c.told then lf - 1 else lf), b72, ((doS S K x.c.op), (doK S K x.c.op))⟩ : StC), rfl, Prob.nth_at (by show i < (XS l a).length; rw [xs_len hal]; omega) hgo, ?_⟩
          exact ((hyA _).keep k1 (fun i hi h => hi.2.2 h)).mono (fun i hi => ⟨hi.1, Nat.lt_of_lt_of_le hi.2.1 k1.size⟩)
         clear H37 H77 Hm94 Hk95 H119 H158 H185
         replace K31 := K31.trans k9 (U := (fun i => T i)) (fun i h1 h2 => h2) (fun i h1 h2 => by have h2 : T i ∨ i = b175 := h2; rcases h2 with h2 | h2; (exact h2); (exfalso; omega))
         replace H35 := H35.keep k9 (by intro h; change T b2 ∨ b2 = b175 at h; rcases h with h | h; (have := hTb2 b2 h; omega); (omega))
         replace H36 := H36.keep k9 (by intro h; change T b3 ∨ b3 = b175 at h; rcases h with h | h; (have := hTb3 b3 h; omega); (omega))
         replace H32 := H32.keep k9 (by intro h; change T b ∨ b = b175 at h; rcases h with h | h; (have := hTb b h; omega); (omega))
         replace H33 := H33.keep k9 (by intro h; change T mb ∨ mb = b175 at h; rcases h with h | h; (have := hTmb mb h; omega); (omega))
         replace H34 := H34.keep k9 (by intro h; change T kb ∨ kb = b175 at h; rcases h with h | h; (have := hTkb kb h; omega); (omega))
         refine rgQ Open.wide ?_
         refine oid 2 (fun z => [(0, .func (Fn.yield ln) #[] #[]), (1, ptr b2), (2, ptr b3), (12, .slice LA l.length lc), (13, i64 ↑l.length), (14, i64 z)]) i ?_
         exact ⟨i + 1, ⟨rfl, rfl, hj9, (by omega), K31, H32, H33, H34, H35, H36⟩, (show l.length - (i + 1) < l.length - i from by omega)⟩
        ·skip
         refine Dr1.new (o := rowL [(Value.slice none 0 0), (Value.int IntKind.u64 0), (i64 0), (Value.pointer none)] 73) (V := fun b => (ptr b)) (by kernel_rfl) (d := (some 10)) (by kernel_rfl) (fun b => rfl) (fun b189 w190 hb191 H192 K193 hs194 => ?_)
         have xb189 : w139.heap.size ≤ b189 := by have := Kb163.size; omega
         have lb189b155 : b155 < b189 := by have := H158.lt; omega
         have nb189 : w.heap.size ≤ b189 := by have := K31.size; omega
         have ox195 : w1.heap.size ≤ b189 := by have := hcx.size; omega
         have ob196 : ∀ i, Ow (.slice A146 o.length c147) i → i < b189 := fun i hi => by have := (World.ownsRow.lt O151 i hi).2; omega
         replace H158 := H158.kn K193
         replace O151 := own_keep0 O151 K193
         have Kb197 := Kb163.tn K193
         refine ⟨(SH.nil Kb197), ?_⟩
         clear K193 hs194
         refine soQ 9 ?_
         obtain ⟨v198, w199, hr200, hO201, hK202, hg203⟩ := OwnT.app (ty := 35) iN_one iN_cells tyI O151 (show RdT _ 1 iN _ [na] from Rd.lit H158 (n := 1) rfl (by decide)) (by simp only [List.length_cons, List.length_nil]; omega) (by simp only [List.length_cons, List.length_nil]; omega) (Nat.le_trans hcx.size Kb197.size)
         obtain ⟨A205, c206, rfl⟩ := RdT.form iN_one (by decide) (OwnT.rd hO201)
         have ob208 : ∀ i, Ow (.slice A205 ((o ++ [na]).length) c206) i → i ≠ b189 := fun i hi => by rcases hg203 i hi with h | h; (have := ob196 i h; omega); (have := H192.lt; omega)
         have K204 := hK202
         replace H192 := H192.keep K204 (by intro h; change Ow (.slice A146 o.length c147) b189 at h; have := ob196 b189 h; omega)
         have Kb209 := Kb197.trans K204 (U := none_) (fun _ _ h => h) (fun i h1 h2 => by have h2 : Ow (.slice A146 o.length c147) i := h2; exfalso; have := oy152 i h2; omega)
         refine Dr1.go (v := (Value.slice A205 ((o ++ [na]).length) c206)) (by kernel_rfl) (Runs.append (ts := #[35, 35]) (ty := 35) (vs := [(Value.slice A146 o.length c147), (Value.slice (some ⟨b155, 0, none⟩) 1 1)]) (by kernel_rfl) hr200) (d := (some 75)) (by kernel_rfl) rfl (SH.nil Kb209) ?_
         clear K204 hr200 hK202 hg203
         refine skQ 1 [18] [(0, .func (Fn.yield ln) #[] #[]), (1, ptr b2), (2, ptr b3), (5, ptr b16), (10, ptr b189), (12, .slice LA l.length lc), (13, i64 ↑l.length), (14, i64 ↑i), (28, i64 ↑kk), (84, (agg [(Value.slice A205 ((o ++ [na]).length) c206), (Value.int IntKind.u64 ((d ||| 1 <<< i : Nat) : Int)), (i64 lf), (ptr b72)]))] ?_
         refine soQ 20 ?_
         refine Dr1.put (t := 73) (b := b189) (off := 0) (v := (agg [(Value.slice A205 ((o ++ [na]).length) c206), (Value.int IntKind.u64 ((d ||| 1 <<< i : Nat) : Int)), (i64 lf), (ptr b72)])) (ys := [(Value.slice A205 ((o ++ [na]).length) c206), (Value.int IntKind.u64 ((d ||| 1 <<< i : Nat) : Int)), (i64 lf), (ptr b72)]) (by kernel_rfl) (by kernel_rfl) H192 (by kernel_rfl) (d := none) (by kernel_rfl) rfl (fun w210 H211 K212 => ?_)
         replace hO201 := own_keep hO201 K212 (fun i hi => by have := ob208 i hi; omega)
         have Kb213 := Kb209.t1 K212 fun _ => by have := xb189; omega
         refine ⟨(SH.nil Kb213), ?_⟩
         refine DrS.keep (R := [(0, .func (Fn.yield ln) #[] #[]), (1, ptr b2), (2, ptr b3), (5, ptr b16), (10, ptr b189), (12, .slice LA l.length lc), (13, i64 ↑l.length), (14, i64 ↑i)]) (by kernel_rfl) ?_
         refine DrS.done (by kernel_rfl) ?_
         replace K31 := K31.tn Kb213
         replace H32 := H32.kn Kb213
         replace H33 := H33.kn Kb213
         replace H34 := H34.kn Kb213
         replace H35 := H35.kn Kb213
         replace H36 := H36.kn Kb213
         replace H37 := H37.kn Kb213
         replace H77 := H77.kn Kb213
         replace Hm94 := Hm94.kn Kb213
         replace Hk95 := Hk95.kn Kb213
         replace hcx := hcx.trans Kb213 (fun _ _ h => h) (fun _ _ h => h)
         have hgo := one_go (t := (⟨o, d, lf, (S, K)⟩ : Sr LS_)) hal hx hna hbit (fun j z hz => hwt j z (by have := (List.getElem?_eq_some_iff.1 hz).1; omega) hz) hst
         have hq1 : (b72 ≠ mb73 ∧ b72 ≠ kb74 ∧ mb73 ≠ kb74) ∧ b72 ≠ b189 ∧ mb73 ≠ b189 ∧ kb74 ≠ b189 := by omega
         have hyA : ∀ z, StC.At w210 110 (fun i => w1.heap.size ≤ i ∧ i < w210.heap.size ∧ i ≠ b189) (⟨o ++ [na], A205, c206, d ||| 1 <<< i, z, b72, ((doS S K x.c.op), (doK S K x.c.op))⟩ : StC) := fun z => ⟨OwnT.rd hO201, fun i hi => ⟨(World.ownsRow.lt hO201 i hi).1, (World.ownsRow.lt hO201 i hi).2, by have := ob208 i hi; omega⟩, mb73, kb74, m89, H77, Hm94, Hk95, hq1.1, hB96, ⟨ox86, H77.lt, hq1.2.1⟩, ⟨ox87, Hm94.lt, hq1.2.2.1⟩, ⟨ox88, Hk95.lt, hq1.2.2.2⟩⟩
         refine next_tail w210 ln m0 b2 b3 b16 b189 i l.length LA lc x A205 (o ++ [na]).length c206 (d ||| 1 <<< i) b72 lf T (J ((probH (XS l a)).nth (⟨o, d, lf, (S, K)⟩ : Sr LS_) (i + 1))) H37 H211 (by omega) (by omega) (fun W1 k1 => ?_) (fun w9 hj9 k9 => ?_)
         ·rw [Prob.nth_some hgo]
          refine hY _ _ _ W1 hj (hcx.trans k1 (U := none_) (fun _ _ h => h) (fun i hi h => by have h : i = b189 := h; exfalso; omega)) hWw (Prob.nth_lt (by show i < (XS l a).length; rw [xs_len hal]; omega) hgo) ⟨(⟨o ++ [na], A205, c206, d ||| 1 <<< i, (if x.c.told then lf - 1 else lf), b72, ((doS S K x.c.op), (doK S K x.c.op))⟩ : StC), rfl, Prob.nth_at (by show i < (XS l a).length; rw [xs_len hal]; omega) hgo, ?_⟩
          exact ((hyA _).keep k1 (fun i hi h => hi.2.2 h)).mono (fun i hi => ⟨hi.1, Nat.lt_of_lt_of_le hi.2.1 k1.size⟩)
         clear H37 H77 Hm94 Hk95 H119 H158 H211
         replace K31 := K31.trans k9 (U := (fun i => T i)) (fun i h1 h2 => h2) (fun i h1 h2 => by have h2 : T i ∨ i = b189 := h2; rcases h2 with h2 | h2; (exact h2); (exfalso; omega))
         replace H35 := H35.keep k9 (by intro h; change T b2 ∨ b2 = b189 at h; rcases h with h | h; (have := hTb2 b2 h; omega); (omega))
         replace H36 := H36.keep k9 (by intro h; change T b3 ∨ b3 = b189 at h; rcases h with h | h; (have := hTb3 b3 h; omega); (omega))
         replace H32 := H32.keep k9 (by intro h; change T b ∨ b = b189 at h; rcases h with h | h; (have := hTb b h; omega); (omega))
         replace H33 := H33.keep k9 (by intro h; change T mb ∨ mb = b189 at h; rcases h with h | h; (have := hTmb mb h; omega); (omega))
         replace H34 := H34.keep k9 (by intro h; change T kb ∨ kb = b189 at h; rcases h with h | h; (have := hTkb kb h; omega); (omega))
         refine rgQ Open.wide ?_
         refine oid 2 (fun z => [(0, .func (Fn.yield ln) #[] #[]), (1, ptr b2), (2, ptr b3), (12, .slice LA l.length lc), (13, i64 ↑l.length), (14, i64 z)]) i ?_
         exact ⟨i + 1, ⟨rfl, rfl, hj9, (by omega), K31, H32, H33, H34, H35, H36⟩, (show l.length - (i + 1) < l.length - i from by omega)⟩
       ·skip
        refine Dr1.new (o := rowL [(Value.slice none 0 0), (Value.int IntKind.u64 0), (i64 0), (Value.pointer none)] 73) (V := fun b => (ptr b)) (by kernel_rfl) (d := (some 10)) (by kernel_rfl) (fun b => rfl) (fun b215 w216 hb217 H218 K219 hs220 => ?_)
        have xb215 : w139.heap.size ≤ b215 := by have := Kb154.size; omega
        have nb215 : w.heap.size ≤ b215 := by have := K31.size; omega
        have ox221 : w1.heap.size ≤ b215 := by have := hcx.size; omega
        have ob222 : ∀ i, Ow (.slice A146 o.length c147) i → i < b215 := fun i hi => by have := (World.ownsRow.lt O151 i hi).2; omega
        replace O151 := own_keep0 O151 K219
        have Kb223 := Kb154.tn K219
        refine ⟨(SH.nil Kb223), ?_⟩
        clear K219 hs220
        refine soQ 8 ?_
        refine Dr1.new (o := rowL [(i64 ((na : Nat) : Int))] 3) (V := fun b => (Value.slice (some ⟨b, 0, none⟩) 1 1)) (by kernel_rfl) (d := (some 74)) (by kernel_rfl) (fun b => rfl) (fun b224 w225 hb226 H227 K228 hs229 => ?_)
        have xb224 : w139.heap.size ≤ b224 := by have := Kb223.size; omega
        have lb224b215 : b215 < b224 := by have := H218.lt; omega
        have nb224 : w.heap.size ≤ b224 := by have := K31.size; omega
        have ox230 : w1.heap.size ≤ b224 := by have := hcx.size; omega
        replace H218 := H218.kn K228
        replace O151 := own_keep0 O151 K228
        have Kb232 := Kb223.tn K228
        refine ⟨(SH.nil Kb232), ?_⟩
        clear K228 hs229
        refine soQ 9 ?_
        obtain ⟨v233, w234, hr235, hO236, hK237, hg238⟩ := OwnT.app (ty := 35) iN_one iN_cells tyI O151 (show RdT _ 1 iN _ [na] from Rd.lit H227 (n := 1) rfl (by decide)) (by simp only [List.length_cons, List.length_nil]; omega) (by simp only [List.length_cons, List.length_nil]; omega) (Nat.le_trans hcx.size Kb232.size)
        obtain ⟨A240, c241, rfl⟩ := RdT.form iN_one (by decide) (OwnT.rd hO236)
        have ob242 : ∀ i, Ow (.slice A240 ((o ++ [na]).length) c241) i → i ≠ b215 := fun i hi => by rcases hg238 i hi with h | h; (have := ob222 i h; omega); (have := H218.lt; omega)
        have K239 := hK237
        replace H218 := H218.keep K239 (by intro h; change Ow (.slice A146 o.length c147) b215 at h; have := ob222 b215 h; omega)
        have Kb244 := Kb232.trans K239 (U := none_) (fun _ _ h => h) (fun i h1 h2 => by have h2 : Ow (.slice A146 o.length c147) i := h2; exfalso; have := oy152 i h2; omega)
        refine Dr1.go (v := (Value.slice A240 ((o ++ [na]).length) c241)) (by kernel_rfl) (Runs.append (ts := #[35, 35]) (ty := 35) (vs := [(Value.slice A146 o.length c147), (Value.slice (some ⟨b224, 0, none⟩) 1 1)]) (by kernel_rfl) hr235) (d := (some 75)) (by kernel_rfl) rfl (SH.nil Kb244) ?_
        clear K239 hr235 hK237 hg238
        refine skQ 1 [18] [(0, .func (Fn.yield ln) #[] #[]), (1, ptr b2), (2, ptr b3), (5, ptr b16), (10, ptr b215), (12, .slice LA l.length lc), (13, i64 ↑l.length), (14, i64 ↑i), (28, i64 ↑kk), (84, (agg [(Value.slice A240 ((o ++ [na]).length) c241), (Value.int IntKind.u64 ((d ||| 1 <<< i : Nat) : Int)), (i64 lf), (ptr b72)]))] ?_
        refine soQ 20 ?_
        refine Dr1.put (t := 73) (b := b215) (off := 0) (v := (agg [(Value.slice A240 ((o ++ [na]).length) c241), (Value.int IntKind.u64 ((d ||| 1 <<< i : Nat) : Int)), (i64 lf), (ptr b72)])) (ys := [(Value.slice A240 ((o ++ [na]).length) c241), (Value.int IntKind.u64 ((d ||| 1 <<< i : Nat) : Int)), (i64 lf), (ptr b72)]) (by kernel_rfl) (by kernel_rfl) H218 (by kernel_rfl) (d := none) (by kernel_rfl) rfl (fun w245 H246 K247 => ?_)
        replace hO236 := own_keep hO236 K247 (fun i hi => by have := ob242 i hi; omega)
        have Kb248 := Kb244.t1 K247 fun _ => by have := xb215; omega
        refine ⟨(SH.nil Kb248), ?_⟩
        refine DrS.keep (R := [(0, .func (Fn.yield ln) #[] #[]), (1, ptr b2), (2, ptr b3), (5, ptr b16), (10, ptr b215), (12, .slice LA l.length lc), (13, i64 ↑l.length), (14, i64 ↑i)]) (by kernel_rfl) ?_
        refine DrS.done (by kernel_rfl) ?_
        replace K31 := K31.tn Kb248
        replace H32 := H32.kn Kb248
        replace H33 := H33.kn Kb248
        replace H34 := H34.kn Kb248
        replace H35 := H35.kn Kb248
        replace H36 := H36.kn Kb248
        replace H37 := H37.kn Kb248
        replace H77 := H77.kn Kb248
        replace Hm94 := Hm94.kn Kb248
        replace Hk95 := Hk95.kn Kb248
        replace hcx := hcx.trans Kb248 (fun _ _ h => h) (fun _ _ h => h)
        have hgo := one_go (t := (⟨o, d, lf, (S, K)⟩ : Sr LS_)) hal hx hna hbit (fun j z hz => hwt j z (by have := (List.getElem?_eq_some_iff.1 hz).1; omega) hz) hst
        have hq1 : (b72 ≠ mb73 ∧ b72 ≠ kb74 ∧ mb73 ≠ kb74) ∧ b72 ≠ b215 ∧ mb73 ≠ b215 ∧ kb74 ≠ b215 := by omega
        have hyA : ∀ z, StC.At w245 110 (fun i => w1.heap.size ≤ i ∧ i < w245.heap.size ∧ i ≠ b215) (⟨o ++ [na], A240, c241, d ||| 1 <<< i, z, b72, ((doS S K x.c.op), (doK S K x.c.op))⟩ : StC) := fun z => ⟨OwnT.rd hO236, fun i hi => ⟨(World.ownsRow.lt hO236 i hi).1, (World.ownsRow.lt hO236 i hi).2, by have := ob242 i hi; omega⟩, mb73, kb74, m89, H77, Hm94, Hk95, hq1.1, hB96, ⟨ox86, H77.lt, hq1.2.1⟩, ⟨ox87, Hm94.lt, hq1.2.2.1⟩, ⟨ox88, Hk95.lt, hq1.2.2.2⟩⟩
        refine next_tail w245 ln m0 b2 b3 b16 b215 i l.length LA lc x A240 (o ++ [na]).length c241 (d ||| 1 <<< i) b72 lf T (J ((probH (XS l a)).nth (⟨o, d, lf, (S, K)⟩ : Sr LS_) (i + 1))) H37 H246 (by omega) (by omega) (fun W1 k1 => ?_) (fun w9 hj9 k9 => ?_)
        ·rw [Prob.nth_some hgo]
         refine hY _ _ _ W1 hj (hcx.trans k1 (U := none_) (fun _ _ h => h) (fun i hi h => by have h : i = b215 := h; exfalso; omega)) hWw (Prob.nth_lt (by show i < (XS l a).length; rw [xs_len hal]; omega) hgo) ⟨(⟨o ++ [na], A240, c241, d ||| 1 <<< i, (if x.c.told then lf - 1 else lf), b72, ((doS S K x.c.op), (doK S K x.c.op))⟩ : StC), rfl, Prob.nth_at (by show i < (XS l a).length; rw [xs_len hal]; omega) hgo, ?_⟩
         exact ((hyA _).keep k1 (fun i hi h => hi.2.2 h)).mono (fun i hi => ⟨hi.1, Nat.lt_of_lt_of_le hi.2.1 k1.size⟩)
        clear H37 H77 Hm94 Hk95 H119 H246 H227
        replace K31 := K31.trans k9 (U := (fun i => T i)) (fun i h1 h2 => h2) (fun i h1 h2 => by have h2 : T i ∨ i = b215 := h2; rcases h2 with h2 | h2; (exact h2); (exfalso; omega))
        replace H35 := H35.keep k9 (by intro h; change T b2 ∨ b2 = b215 at h; rcases h with h | h; (have := hTb2 b2 h; omega); (omega))
        replace H36 := H36.keep k9 (by intro h; change T b3 ∨ b3 = b215 at h; rcases h with h | h; (have := hTb3 b3 h; omega); (omega))
        replace H32 := H32.keep k9 (by intro h; change T b ∨ b = b215 at h; rcases h with h | h; (have := hTb b h; omega); (omega))
        replace H33 := H33.keep k9 (by intro h; change T mb ∨ mb = b215 at h; rcases h with h | h; (have := hTmb mb h; omega); (omega))
        replace H34 := H34.keep k9 (by intro h; change T kb ∨ kb = b215 at h; rcases h with h | h; (have := hTkb kb h; omega); (omega))
        refine rgQ Open.wide ?_
        refine oid 2 (fun z => [(0, .func (Fn.yield ln) #[] #[]), (1, ptr b2), (2, ptr b3), (12, .slice LA l.length lc), (13, i64 ↑l.length), (14, i64 z)]) i ?_
        exact ⟨i + 1, ⟨rfl, rfl, hj9, (by omega), K31, H32, H33, H34, H35, H36⟩, (show l.length - (i + 1) < l.length - i from by omega)⟩
      ·skip
       refine Dr1.new (o := rowL [(i64 ((na : Nat) : Int))] 3) (V := fun b => (Value.slice (some ⟨b, 0, none⟩) 1 1)) (by kernel_rfl) (d := (some 74)) (by kernel_rfl) (fun b => rfl) (fun b250 w251 hb252 H253 K254 hs255 => ?_)
       have xb250 : w139.heap.size ≤ b250 := by have := Kb141.size; omega
       have nb250 : w.heap.size ≤ b250 := by have := K31.size; omega
       have ox256 : w1.heap.size ≤ b250 := by have := hcx.size; omega
       have Kb257 := Kb141.tn K254
       refine ⟨(SH.nil Kb257), ?_⟩
       clear K254 hs255
       refine DrS.two (i := 2) (j := 19) (by kernel_rfl) ?_ ?_
       ·skip
        refine Dr1.call (by kernel_rfl) (d := (some 68)) (by kernel_rfl) (CloneI_calls _ OA oc o (Rd.keep0 (by decide) hR40 Kb257) (by omega)) ?_
        rintro _ w260 ⟨A258, c259, rfl, K261, hO262⟩
        have ob264 : ∀ i, Ow (.slice A258 o.length c259) i → i ≠ b250 := fun i hi => by have := (World.ownsRow.lt hO262 i hi).1; have := H253.lt; omega
        have oy265 : ∀ i, Ow (.slice A258 o.length c259) i → w139.heap.size ≤ i := fun i hi => by have := (World.ownsRow.lt hO262 i hi).1; have := Kb257.size; omega
        have O263 := own_base hO262 (Nat.le_trans hcx.size Kb257.size)
        replace H253 := H253.kn K261
        have Kb267 := Kb257.tn K261
        refine ⟨_, _, rfl, rfl, (SH.nil Kb267), ?_⟩
        refine DrS.two (i := 9) (j := 19) (by kernel_rfl) ?_ ?_
        ·skip
         obtain ⟨v268, w269, hr270, hO271, hK272, hg273⟩ := OwnT.app (ty := 35) iN_one iN_cells tyI O263 (show RdT _ 1 iN _ [na] from Rd.lit H253 (n := 1) rfl (by decide)) (by simp only [List.length_cons, List.length_nil]; omega) (by simp only [List.length_cons, List.length_nil]; omega) (Nat.le_trans hcx.size Kb267.size)
         obtain ⟨A275, c276, rfl⟩ := RdT.form iN_one (by decide) (OwnT.rd hO271)
         have K274 := hK272
         replace H253 := H253.keep K274 (by intro h; change Ow (.slice A258 o.length c259) b250 at h; have := ob264 b250 h; omega)
         have Kb278 := Kb267.trans K274 (U := none_) (fun _ _ h => h) (fun i h1 h2 => by have h2 : Ow (.slice A258 o.length c259) i := h2; exfalso; have := oy265 i h2; omega)
         refine Dr1.go (v := (Value.slice A275 ((o ++ [na]).length) c276)) (by kernel_rfl) (Runs.append (ts := #[35, 35]) (ty := 35) (vs := [(Value.slice A258 o.length c259), (Value.slice (some ⟨b250, 0, none⟩) 1 1)]) (by kernel_rfl) hr270) (d := (some 75)) (by kernel_rfl) rfl (SH.nil Kb278) ?_
         clear K274 hr270 hK272 hg273
         refine skQ 2 [18] [(0, .func (Fn.yield ln) #[] #[]), (1, ptr b2), (2, ptr b3), (5, ptr b16), (12, .slice LA l.length lc), (13, i64 ↑l.length), (14, i64 ↑i), (28, i64 ↑kk), (84, (agg [(Value.slice A275 ((o ++ [na]).length) c276), (Value.int IntKind.u64 ((d ||| 1 <<< i : Nat) : Int)), (i64 lf), (ptr b72)]))] ?_
         refine soQ 19 ?_
         refine Dr1.new (o := rowL [(Value.slice none 0 0), (Value.int IntKind.u64 0), (i64 0), (Value.pointer none)] 73) (V := fun b => (ptr b)) (by kernel_rfl) (d := (some 10)) (by kernel_rfl) (fun b => rfl) (fun b279 w280 hb281 H282 K283 hs284 => ?_)
         have xb279 : w139.heap.size ≤ b279 := by have := Kb278.size; omega
         have lb279b250 : b250 < b279 := by have := H253.lt; omega
         have nb279 : w.heap.size ≤ b279 := by have := K31.size; omega
         have ox285 : w1.heap.size ≤ b279 := by have := hcx.size; omega
         have ob286 : ∀ i, Ow (.slice A275 ((o ++ [na]).length) c276) i → i < b279 := fun i hi => by have := (World.ownsRow.lt hO271 i hi).2; omega
         replace hO271 := own_keep0 hO271 K283
         have Kb287 := Kb278.tn K283
         refine ⟨(SH.nil Kb287), ?_⟩
         clear K283 hs284
         refine soQ 20 ?_
         refine Dr1.put (t := 73) (b := b279) (off := 0) (v := (agg [(Value.slice A275 ((o ++ [na]).length) c276), (Value.int IntKind.u64 ((d ||| 1 <<< i : Nat) : Int)), (i64 lf), (ptr b72)])) (ys := [(Value.slice A275 ((o ++ [na]).length) c276), (Value.int IntKind.u64 ((d ||| 1 <<< i : Nat) : Int)), (i64 lf), (ptr b72)]) (by kernel_rfl) (by kernel_rfl) H282 (by kernel_rfl) (d := none) (by kernel_rfl) rfl (fun w288 H289 K290 => ?_)
         replace hO271 := own_keep hO271 K290 (fun i hi => by have := ob286 i hi; omega)
         have Kb291 := Kb287.t1 K290 fun _ => by have := xb279; omega
         refine ⟨(SH.nil Kb291), ?_⟩
         refine DrS.keep (R := [(0, .func (Fn.yield ln) #[] #[]), (1, ptr b2), (2, ptr b3), (5, ptr b16), (10, ptr b279), (12, .slice LA l.length lc), (13, i64 ↑l.length), (14, i64 ↑i)]) (by kernel_rfl) ?_
         refine DrS.done (by kernel_rfl) ?_
         replace K31 := K31.tn Kb291
         replace H32 := H32.kn Kb291
         replace H33 := H33.kn Kb291
         replace H34 := H34.kn Kb291
         replace H35 := H35.kn Kb291
         replace H36 := H36.kn Kb291
         replace H37 := H37.kn Kb291
         replace H77 := H77.kn Kb291
         replace Hm94 := Hm94.kn Kb291
         replace Hk95 := Hk95.kn Kb291
         replace hcx := hcx.trans Kb291 (fun _ _ h => h) (fun _ _ h => h)
         have hgo := one_go (t := (⟨o, d, lf, (S, K)⟩ : Sr LS_)) hal hx hna hbit (fun j z hz => hwt j z (by have := (List.getElem?_eq_some_iff.1 hz).1; omega) hz) hst
         have hq1 : (b72 ≠ mb73 ∧ b72 ≠ kb74 ∧ mb73 ≠ kb74) ∧ b72 ≠ b279 ∧ mb73 ≠ b279 ∧ kb74 ≠ b279 := by omega
         have hyA : ∀ z, StC.At w288 110 (fun i => w1.heap.size ≤ i ∧ i < w288.heap.size ∧ i ≠ b279) (⟨o ++ [na], A275, c276, d ||| 1 <<< i, z, b72, ((doS S K x.c.op), (doK S K x.c.op))⟩ : StC) := fun z => ⟨OwnT.rd hO271, fun i hi => ⟨(World.ownsRow.lt hO271 i hi).1, (World.ownsRow.lt hO271 i hi).2, by have := ob286 i hi; omega⟩, mb73, kb74, m89, H77, Hm94, Hk95, hq1.1, hB96, ⟨ox86, H77.lt, hq1.2.1⟩, ⟨ox87, Hm94.lt, hq1.2.2.1⟩, ⟨ox88, Hk95.lt, hq1.2.2.2⟩⟩
         refine next_tail w288 ln m0 b2 b3 b16 b279 i l.length LA lc x A275 (o ++ [na]).length c276 (d ||| 1 <<< i) b72 lf T (J ((probH (XS l a)).nth (⟨o, d, lf, (S, K)⟩ : Sr LS_) (i + 1))) H37 H289 (by omega) (by omega) (fun W1 k1 => ?_) (fun w9 hj9 k9 => ?_)
         ·rw [Prob.nth_some hgo]
          refine hY _ _ _ W1 hj (hcx.trans k1 (U := none_) (fun _ _ h => h) (fun i hi h => by have h : i = b279 := h; exfalso; omega)) hWw (Prob.nth_lt (by show i < (XS l a).length; rw [xs_len hal]; omega) hgo) ⟨(⟨o ++ [na], A275, c276, d ||| 1 <<< i, (if x.c.told then lf - 1 else lf), b72, ((doS S K x.c.op), (doK S K x.c.op))⟩ : StC), rfl, Prob.nth_at (by show i < (XS l a).length; rw [xs_len hal]; omega) hgo, ?_⟩
          exact ((hyA _).keep k1 (fun i hi h => hi.2.2 h)).mono (fun i hi => ⟨hi.1, Nat.lt_of_lt_of_le hi.2.1 k1.size⟩)
         clear H37 H77 Hm94 Hk95 H119 H253 H289
         replace K31 := K31.trans k9 (U := (fun i => T i)) (fun i h1 h2 => h2) (fun i h1 h2 => by have h2 : T i ∨ i = b279 := h2; rcases h2 with h2 | h2; (exact h2); (exfalso; omega))
         replace H35 := H35.keep k9 (by intro h; change T b2 ∨ b2 = b279 at h; rcases h with h | h; (have := hTb2 b2 h; omega); (omega))
         replace H36 := H36.keep k9 (by intro h; change T b3 ∨ b3 = b279 at h; rcases h with h | h; (have := hTb3 b3 h; omega); (omega))
         replace H32 := H32.keep k9 (by intro h; change T b ∨ b = b279 at h; rcases h with h | h; (have := hTb b h; omega); (omega))
         replace H33 := H33.keep k9 (by intro h; change T mb ∨ mb = b279 at h; rcases h with h | h; (have := hTmb mb h; omega); (omega))
         replace H34 := H34.keep k9 (by intro h; change T kb ∨ kb = b279 at h; rcases h with h | h; (have := hTkb kb h; omega); (omega))
         refine rgQ Open.wide ?_
         refine oid 2 (fun z => [(0, .func (Fn.yield ln) #[] #[]), (1, ptr b2), (2, ptr b3), (12, .slice LA l.length lc), (13, i64 ↑l.length), (14, i64 z)]) i ?_
         exact ⟨i + 1, ⟨rfl, rfl, hj9, (by omega), K31, H32, H33, H34, H35, H36⟩, (show l.length - (i + 1) < l.length - i from by omega)⟩
        ·skip
         refine Dr1.new (o := rowL [(Value.slice none 0 0), (Value.int IntKind.u64 0), (i64 0), (Value.pointer none)] 73) (V := fun b => (ptr b)) (by kernel_rfl) (d := (some 10)) (by kernel_rfl) (fun b => rfl) (fun b293 w294 hb295 H296 K297 hs298 => ?_)
         have xb293 : w139.heap.size ≤ b293 := by have := Kb267.size; omega
         have lb293b250 : b250 < b293 := by have := H253.lt; omega
         have nb293 : w.heap.size ≤ b293 := by have := K31.size; omega
         have ox299 : w1.heap.size ≤ b293 := by have := hcx.size; omega
         have ob300 : ∀ i, Ow (.slice A258 o.length c259) i → i < b293 := fun i hi => by have := (World.ownsRow.lt O263 i hi).2; omega
         replace H253 := H253.kn K297
         replace O263 := own_keep0 O263 K297
         have Kb301 := Kb267.tn K297
         refine ⟨(SH.nil Kb301), ?_⟩
         clear K297 hs298
         refine soQ 9 ?_
         obtain ⟨v302, w303, hr304, hO305, hK306, hg307⟩ := OwnT.app (ty := 35) iN_one iN_cells tyI O263 (show RdT _ 1 iN _ [na] from Rd.lit H253 (n := 1) rfl (by decide)) (by simp only [List.length_cons, List.length_nil]; omega) (by simp only [List.length_cons, List.length_nil]; omega) (Nat.le_trans hcx.size Kb301.size)
         obtain ⟨A309, c310, rfl⟩ := RdT.form iN_one (by decide) (OwnT.rd hO305)
         have ob312 : ∀ i, Ow (.slice A309 ((o ++ [na]).length) c310) i → i ≠ b293 := fun i hi => by rcases hg307 i hi with h | h; (have := ob300 i h; omega); (have := H296.lt; omega)
         have K308 := hK306
         replace H296 := H296.keep K308 (by intro h; change Ow (.slice A258 o.length c259) b293 at h; have := ob300 b293 h; omega)
         have Kb313 := Kb301.trans K308 (U := none_) (fun _ _ h => h) (fun i h1 h2 => by have h2 : Ow (.slice A258 o.length c259) i := h2; exfalso; have := oy265 i h2; omega)
         refine Dr1.go (v := (Value.slice A309 ((o ++ [na]).length) c310)) (by kernel_rfl) (Runs.append (ts := #[35, 35]) (ty := 35) (vs := [(Value.slice A258 o.length c259), (Value.slice (some ⟨b250, 0, none⟩) 1 1)]) (by kernel_rfl) hr304) (d := (some 75)) (by kernel_rfl) rfl (SH.nil Kb313) ?_
         clear K308 hr304 hK306 hg307
         refine skQ 1 [18] [(0, .func (Fn.yield ln) #[] #[]), (1, ptr b2), (2, ptr b3), (5, ptr b16), (10, ptr b293), (12, .slice LA l.length lc), (13, i64 ↑l.length), (14, i64 ↑i), (28, i64 ↑kk), (84, (agg [(Value.slice A309 ((o ++ [na]).length) c310), (Value.int IntKind.u64 ((d ||| 1 <<< i : Nat) : Int)), (i64 lf), (ptr b72)]))] ?_
         refine soQ 20 ?_
         refine Dr1.put (t := 73) (b := b293) (off := 0) (v := (agg [(Value.slice A309 ((o ++ [na]).length) c310), (Value.int IntKind.u64 ((d ||| 1 <<< i : Nat) : Int)), (i64 lf), (ptr b72)])) (ys := [(Value.slice A309 ((o ++ [na]).length) c310), (Value.int IntKind.u64 ((d ||| 1 <<< i : Nat) : Int)), (i64 lf), (ptr b72)]) (by kernel_rfl) (by kernel_rfl) H296 (by kernel_rfl) (d := none) (by kernel_rfl) rfl (fun w314 H315 K316 => ?_)
         replace hO305 := own_keep hO305 K316 (fun i hi => by have := ob312 i hi; omega)
         have Kb317 := Kb313.t1 K316 fun _ => by have := xb293; omega
         refine ⟨(SH.nil Kb317), ?_⟩
         refine DrS.keep (R := [(0, .func (Fn.yield ln) #[] #[]), (1, ptr b2), (2, ptr b3), (5, ptr b16), (10, ptr b293), (12, .slice LA l.length lc), (13, i64 ↑l.length), (14, i64 ↑i)]) (by kernel_rfl) ?_
         refine DrS.done (by kernel_rfl) ?_
         replace K31 := K31.tn Kb317
         replace H32 := H32.kn Kb317
         replace H33 := H33.kn Kb317
         replace H34 := H34.kn Kb317
         replace H35 := H35.kn Kb317
         replace H36 := H36.kn Kb317
         replace H37 := H37.kn Kb317
         replace H77 := H77.kn Kb317
         replace Hm94 := Hm94.kn Kb317
         replace Hk95 := Hk95.kn Kb317
         replace hcx := hcx.trans Kb317 (fun _ _ h => h) (fun _ _ h => h)
         have hgo := one_go (t := (⟨o, d, lf, (S, K)⟩ : Sr LS_)) hal hx hna hbit (fun j z hz => hwt j z (by have := (List.getElem?_eq_some_iff.1 hz).1; omega) hz) hst
         have hq1 : (b72 ≠ mb73 ∧ b72 ≠ kb74 ∧ mb73 ≠ kb74) ∧ b72 ≠ b293 ∧ mb73 ≠ b293 ∧ kb74 ≠ b293 := by omega
         have hyA : ∀ z, StC.At w314 110 (fun i => w1.heap.size ≤ i ∧ i < w314.heap.size ∧ i ≠ b293) (⟨o ++ [na], A309, c310, d ||| 1 <<< i, z, b72, ((doS S K x.c.op), (doK S K x.c.op))⟩ : StC) := fun z => ⟨OwnT.rd hO305, fun i hi => ⟨(World.ownsRow.lt hO305 i hi).1, (World.ownsRow.lt hO305 i hi).2, by have := ob312 i hi; omega⟩, mb73, kb74, m89, H77, Hm94, Hk95, hq1.1, hB96, ⟨ox86, H77.lt, hq1.2.1⟩, ⟨ox87, Hm94.lt, hq1.2.2.1⟩, ⟨ox88, Hk95.lt, hq1.2.2.2⟩⟩
         refine next_tail w314 ln m0 b2 b3 b16 b293 i l.length LA lc x A309 (o ++ [na]).length c310 (d ||| 1 <<< i) b72 lf T (J ((probH (XS l a)).nth (⟨o, d, lf, (S, K)⟩ : Sr LS_) (i + 1))) H37 H315 (by omega) (by omega) (fun W1 k1 => ?_) (fun w9 hj9 k9 => ?_)
         ·rw [Prob.nth_some hgo]
          refine hY _ _ _ W1 hj (hcx.trans k1 (U := none_) (fun _ _ h => h) (fun i hi h => by have h : i = b293 := h; exfalso; omega)) hWw (Prob.nth_lt (by show i < (XS l a).length; rw [xs_len hal]; omega) hgo) ⟨(⟨o ++ [na], A309, c310, d ||| 1 <<< i, (if x.c.told then lf - 1 else lf), b72, ((doS S K x.c.op), (doK S K x.c.op))⟩ : StC), rfl, Prob.nth_at (by show i < (XS l a).length; rw [xs_len hal]; omega) hgo, ?_⟩
          exact ((hyA _).keep k1 (fun i hi h => hi.2.2 h)).mono (fun i hi => ⟨hi.1, Nat.lt_of_lt_of_le hi.2.1 k1.size⟩)
         clear H37 H77 Hm94 Hk95 H119 H253 H315
         replace K31 := K31.trans k9 (U := (fun i => T i)) (fun i h1 h2 => h2) (fun i h1 h2 => by have h2 : T i ∨ i = b293 := h2; rcases h2 with h2 | h2; (exact h2); (exfalso; omega))
         replace H35 := H35.keep k9 (by intro h; change T b2 ∨ b2 = b293 at h; rcases h with h | h; (have := hTb2 b2 h; omega); (omega))
         replace H36 := H36.keep k9 (by intro h; change T b3 ∨ b3 = b293 at h; rcases h with h | h; (have := hTb3 b3 h; omega); (omega))
         replace H32 := H32.keep k9 (by intro h; change T b ∨ b = b293 at h; rcases h with h | h; (have := hTb b h; omega); (omega))
         replace H33 := H33.keep k9 (by intro h; change T mb ∨ mb = b293 at h; rcases h with h | h; (have := hTmb mb h; omega); (omega))
         replace H34 := H34.keep k9 (by intro h; change T kb ∨ kb = b293 at h; rcases h with h | h; (have := hTkb kb h; omega); (omega))
         refine rgQ Open.wide ?_
         refine oid 2 (fun z => [(0, .func (Fn.yield ln) #[] #[]), (1, ptr b2), (2, ptr b3), (12, .slice LA l.length lc), (13, i64 ↑l.length), (14, i64 z)]) i ?_
         exact ⟨i + 1, ⟨rfl, rfl, hj9, (by omega), K31, H32, H33, H34, H35, H36⟩, (show l.length - (i + 1) < l.length - i from by omega)⟩
       ·skip
        refine Dr1.new (o := rowL [(Value.slice none 0 0), (Value.int IntKind.u64 0), (i64 0), (Value.pointer none)] 73) (V := fun b => (ptr b)) (by kernel_rfl) (d := (some 10)) (by kernel_rfl) (fun b => rfl) (fun b319 w320 hb321 H322 K323 hs324 => ?_)
        have xb319 : w139.heap.size ≤ b319 := by have := Kb257.size; omega
        have lb319b250 : b250 < b319 := by have := H253.lt; omega
        have nb319 : w.heap.size ≤ b319 := by have := K31.size; omega
        have ox325 : w1.heap.size ≤ b319 := by have := hcx.size; omega
        replace H253 := H253.kn K323
        have Kb326 := Kb257.tn K323
        refine ⟨(SH.nil Kb326), ?_⟩
        clear K323 hs324
        refine soQ 2 ?_
        refine Dr1.call (by kernel_rfl) (d := (some 68)) (by kernel_rfl) (CloneI_calls _ OA oc o (Rd.keep0 (by decide) hR40 Kb326) (by omega)) ?_
        rintro _ w329 ⟨A327, c328, rfl, K330, hO331⟩
        have ob334 : ∀ i, Ow (.slice A327 o.length c328) i → i ≠ b319 := fun i hi => by have := (World.ownsRow.lt hO331 i hi).1; have := H322.lt; omega
        have oy335 : ∀ i, Ow (.slice A327 o.length c328) i → w139.heap.size ≤ i := fun i hi => by have := (World.ownsRow.lt hO331 i hi).1; have := Kb326.size; omega
        have O332 := own_base hO331 (Nat.le_trans hcx.size Kb326.size)
        replace H253 := H253.kn K330
        replace H322 := H322.kn K330
        have Kb337 := Kb326.tn K330
        refine ⟨_, _, rfl, rfl, (SH.nil Kb337), ?_⟩
        refine soQ 9 ?_
        obtain ⟨v338, w339, hr340, hO341, hK342, hg343⟩ := OwnT.app (ty := 35) iN_one iN_cells tyI O332 (show RdT _ 1 iN _ [na] from Rd.lit H253 (n := 1) rfl (by decide)) (by simp only [List.length_cons, List.length_nil]; omega) (by simp only [List.length_cons, List.length_nil]; omega) (Nat.le_trans hcx.size Kb337.size)
        obtain ⟨A345, c346, rfl⟩ := RdT.form iN_one (by decide) (OwnT.rd hO341)
        have ob348 : ∀ i, Ow (.slice A345 ((o ++ [na]).length) c346) i → i ≠ b319 := fun i hi => by rcases hg343 i hi with h | h; (have := ob334 i h; omega); (have := H322.lt; omega)
        have K344 := hK342
        replace H322 := H322.keep K344 (by intro h; change Ow (.slice A327 o.length c328) b319 at h; have := ob334 b319 h; omega)
        have Kb349 := Kb337.trans K344 (U := none_) (fun _ _ h => h) (fun i h1 h2 => by have h2 : Ow (.slice A327 o.length c328) i := h2; exfalso; have := oy335 i h2; omega)
        refine Dr1.go (v := (Value.slice A345 ((o ++ [na]).length) c346)) (by kernel_rfl) (Runs.append (ts := #[35, 35]) (ty := 35) (vs := [(Value.slice A327 o.length c328), (Value.slice (some ⟨b250, 0, none⟩) 1 1)]) (by kernel_rfl) hr340) (d := (some 75)) (by kernel_rfl) rfl (SH.nil Kb349) ?_
        clear K344 hr340 hK342 hg343
        refine skQ 1 [18] [(0, .func (Fn.yield ln) #[] #[]), (1, ptr b2), (2, ptr b3), (5, ptr b16), (10, ptr b319), (12, .slice LA l.length lc), (13, i64 ↑l.length), (14, i64 ↑i), (28, i64 ↑kk), (84, (agg [(Value.slice A345 ((o ++ [na]).length) c346), (Value.int IntKind.u64 ((d ||| 1 <<< i : Nat) : Int)), (i64 lf), (ptr b72)]))] ?_
        refine soQ 20 ?_
        refine Dr1.put (t := 73) (b := b319) (off := 0) (v := (agg [(Value.slice A345 ((o ++ [na]).length) c346), (Value.int IntKind.u64 ((d ||| 1 <<< i : Nat) : Int)), (i64 lf), (ptr b72)])) (ys := [(Value.slice A345 ((o ++ [na]).length) c346), (Value.int IntKind.u64 ((d ||| 1 <<< i : Nat) : Int)), (i64 lf), (ptr b72)]) (by kernel_rfl) (by kernel_rfl) H322 (by kernel_rfl) (d := none) (by kernel_rfl) rfl (fun w350 H351 K352 => ?_)
        replace hO341 := own_keep hO341 K352 (fun i hi => by have := ob348 i hi; omega)
        have Kb353 := Kb349.t1 K352 fun _ => by have := xb319; omega
        refine ⟨(SH.nil Kb353), ?_⟩
        refine DrS.keep (R := [(0, .func (Fn.yield ln) #[] #[]), (1, ptr b2), (2, ptr b3), (5, ptr b16), (10, ptr b319), (12, .slice LA l.length lc), (13, i64 ↑l.length), (14, i64 ↑i)]) (by kernel_rfl) ?_
        refine DrS.done (by kernel_rfl) ?_
        replace K31 := K31.tn Kb353
        replace H32 := H32.kn Kb353
        replace H33 := H33.kn Kb353
        replace H34 := H34.kn Kb353
        replace H35 := H35.kn Kb353
        replace H36 := H36.kn Kb353
        replace H37 := H37.kn Kb353
        replace H77 := H77.kn Kb353
        replace Hm94 := Hm94.kn Kb353
        replace Hk95 := Hk95.kn Kb353
        replace hcx := hcx.trans Kb353 (fun _ _ h => h) (fun _ _ h => h)
        have hgo := one_go (t := (⟨o, d, lf, (S, K)⟩ : Sr LS_)) hal hx hna hbit (fun j z hz => hwt j z (by have := (List.getElem?_eq_some_iff.1 hz).1; omega) hz) hst
        have hq1 : (b72 ≠ mb73 ∧ b72 ≠ kb74 ∧ mb73 ≠ kb74) ∧ b72 ≠ b319 ∧ mb73 ≠ b319 ∧ kb74 ≠ b319 := by omega
        have hyA : ∀ z, StC.At w350 110 (fun i => w1.heap.size ≤ i ∧ i < w350.heap.size ∧ i ≠ b319) (⟨o ++ [na], A345, c346, d ||| 1 <<< i, z, b72, ((doS S K x.c.op), (doK S K x.c.op))⟩ : StC) := fun z => ⟨OwnT.rd hO341, fun i hi => ⟨(World.ownsRow.lt hO341 i hi).1, (World.ownsRow.lt hO341 i hi).2, by have := ob348 i hi; omega⟩, mb73, kb74, m89, H77, Hm94, Hk95, hq1.1, hB96, ⟨ox86, H77.lt, hq1.2.1⟩, ⟨ox87, Hm94.lt, hq1.2.2.1⟩, ⟨ox88, Hk95.lt, hq1.2.2.2⟩⟩
        refine next_tail w350 ln m0 b2 b3 b16 b319 i l.length LA lc x A345 (o ++ [na]).length c346 (d ||| 1 <<< i) b72 lf T (J ((probH (XS l a)).nth (⟨o, d, lf, (S, K)⟩ : Sr LS_) (i + 1))) H37 H351 (by omega) (by omega) (fun W1 k1 => ?_) (fun w9 hj9 k9 => ?_)
        ·rw [Prob.nth_some hgo]
         refine hY _ _ _ W1 hj (hcx.trans k1 (U := none_) (fun _ _ h => h) (fun i hi h => by have h : i = b319 := h; exfalso; omega)) hWw (Prob.nth_lt (by show i < (XS l a).length; rw [xs_len hal]; omega) hgo) ⟨(⟨o ++ [na], A345, c346, d ||| 1 <<< i, (if x.c.told then lf - 1 else lf), b72, ((doS S K x.c.op), (doK S K x.c.op))⟩ : StC), rfl, Prob.nth_at (by show i < (XS l a).length; rw [xs_len hal]; omega) hgo, ?_⟩
         exact ((hyA _).keep k1 (fun i hi h => hi.2.2 h)).mono (fun i hi => ⟨hi.1, Nat.lt_of_lt_of_le hi.2.1 k1.size⟩)
        clear H37 H77 Hm94 Hk95 H119 H253 H351
        replace K31 := K31.trans k9 (U := (fun i => T i)) (fun i h1 h2 => h2) (fun i h1 h2 => by have h2 : T i ∨ i = b319 := h2; rcases h2 with h2 | h2; (exact h2); (exfalso; omega))
        replace H35 := H35.keep k9 (by intro h; change T b2 ∨ b2 = b319 at h; rcases h with h | h; (have := hTb2 b2 h; omega); (omega))
        replace H36 := H36.keep k9 (by intro h; change T b3 ∨ b3 = b319 at h; rcases h with h | h; (have := hTb3 b3 h; omega); (omega))
        replace H32 := H32.keep k9 (by intro h; change T b ∨ b = b319 at h; rcases h with h | h; (have := hTb b h; omega); (omega))
        replace H33 := H33.keep k9 (by intro h; change T mb ∨ mb = b319 at h; rcases h with h | h; (have := hTmb mb h; omega); (omega))
        replace H34 := H34.keep k9 (by intro h; change T kb ∨ kb = b319 at h; rcases h with h | h; (have := hTkb kb h; omega); (omega))
        refine rgQ Open.wide ?_
        refine oid 2 (fun z => [(0, .func (Fn.yield ln) #[] #[]), (1, ptr b2), (2, ptr b3), (12, .slice LA l.length lc), (13, i64 ↑l.length), (14, i64 z)]) i ?_
        exact ⟨i + 1, ⟨rfl, rfl, hj9, (by omega), K31, H32, H33, H34, H35, H36⟩, (show l.length - (i + 1) < l.length - i from by omega)⟩
      ·skip
       refine Dr1.new (o := rowL [(Value.slice none 0 0), (Value.int IntKind.u64 0), (i64 0), (Value.pointer none)] 73) (V := fun b => (ptr b)) (by kernel_rfl) (d := (some 10)) (by kernel_rfl) (fun b => rfl) (fun b355 w356 hb357 H358 K359 hs360 => ?_)
       have xb355 : w139.heap.size ≤ b355 := by have := Kb141.size; omega
       have nb355 : w.heap.size ≤ b355 := by have := K31.size; omega
       have ox361 : w1.heap.size ≤ b355 := by have := hcx.size; omega
       have Kb362 := Kb141.tn K359
       refine ⟨(SH.nil Kb362), ?_⟩
       clear K359 hs360
       refine DrS.two (i := 2) (j := 8) (by kernel_rfl) ?_ ?_
       ·skip
        refine Dr1.call (by kernel_rfl) (d := (some 68)) (by kernel_rfl) (CloneI_calls _ OA oc o (Rd.keep0 (by decide) hR40 Kb362) (by omega)) ?_
        rintro _ w365 ⟨A363, c364, rfl, K366, hO367⟩
        have ob369 : ∀ i, Ow (.slice A363 o.length c364) i → i ≠ b355 := fun i hi => by have := (World.ownsRow.lt hO367 i hi).1; have := H358.lt; omega
        have oy370 : ∀ i, Ow (.slice A363 o.length c364) i → w139.heap.size ≤ i := fun i hi => by have := (World.ownsRow.lt hO367 i hi).1; have := Kb362.size; omega
        have O368 := own_base hO367 (Nat.le_trans hcx.size Kb362.size)
        replace H358 := H358.kn K366
        have Kb372 := Kb362.tn K366
        refine ⟨_, _, rfl, rfl, (SH.nil Kb372), ?_⟩
        refine soQ 8 ?_
        refine Dr1.new (o := rowL [(i64 ((na : Nat) : Int))] 3) (V := fun b => (Value.slice (some ⟨b, 0, none⟩) 1 1)) (by kernel_rfl) (d := (some 74)) (by kernel_rfl) (fun b => rfl) (fun b373 w374 hb375 H376 K377 hs378 => ?_)
        have xb373 : w139.heap.size ≤ b373 := by have := Kb372.size; omega
        have lb373b355 : b355 < b373 := by have := H358.lt; omega
        have nb373 : w.heap.size ≤ b373 := by have := K31.size; omega
        have ox379 : w1.heap.size ≤ b373 := by have := hcx.size; omega
        replace H358 := H358.kn K377
        replace O368 := own_keep0 O368 K377
        have Kb381 := Kb372.tn K377
        refine ⟨(SH.nil Kb381), ?_⟩
        clear K377 hs378
        refine soQ 9 ?_
        obtain ⟨v382, w383, hr384, hO385, hK386, hg387⟩ := OwnT.app (ty := 35) iN_one iN_cells tyI O368 (show RdT _ 1 iN _ [na] from Rd.lit H376 (n := 1) rfl (by decide)) (by simp only [List.length_cons, List.length_nil]; omega) (by simp only [List.length_cons, List.length_nil]; omega) (Nat.le_trans hcx.size Kb381.size)
        obtain ⟨A389, c390, rfl⟩ := RdT.form iN_one (by decide) (OwnT.rd hO385)
        have ob391 : ∀ i, Ow (.slice A389 ((o ++ [na]).length) c390) i → i ≠ b355 := fun i hi => by rcases hg387 i hi with h | h; (have := ob369 i h; omega); (have := H358.lt; omega)
        have K388 := hK386
        replace H358 := H358.keep K388 (by intro h; change Ow (.slice A363 o.length c364) b355 at h; have := ob369 b355 h; omega)
        have Kb393 := Kb381.trans K388 (U := none_) (fun _ _ h => h) (fun i h1 h2 => by have h2 : Ow (.slice A363 o.length c364) i := h2; exfalso; have := oy370 i h2; omega)
        refine Dr1.go (v := (Value.slice A389 ((o ++ [na]).length) c390)) (by kernel_rfl) (Runs.append (ts := #[35, 35]) (ty := 35) (vs := [(Value.slice A363 o.length c364), (Value.slice (some ⟨b373, 0, none⟩) 1 1)]) (by kernel_rfl) hr384) (d := (some 75)) (by kernel_rfl) rfl (SH.nil Kb393) ?_
        clear K388 hr384 hK386 hg387
        refine skQ 1 [18] [(0, .func (Fn.yield ln) #[] #[]), (1, ptr b2), (2, ptr b3), (5, ptr b16), (10, ptr b355), (12, .slice LA l.length lc), (13, i64 ↑l.length), (14, i64 ↑i), (28, i64 ↑kk), (84, (agg [(Value.slice A389 ((o ++ [na]).length) c390), (Value.int IntKind.u64 ((d ||| 1 <<< i : Nat) : Int)), (i64 lf), (ptr b72)]))] ?_
        refine soQ 20 ?_
        refine Dr1.put (t := 73) (b := b355) (off := 0) (v := (agg [(Value.slice A389 ((o ++ [na]).length) c390), (Value.int IntKind.u64 ((d ||| 1 <<< i : Nat) : Int)), (i64 lf), (ptr b72)])) (ys := [(Value.slice A389 ((o ++ [na]).length) c390), (Value.int IntKind.u64 ((d ||| 1 <<< i : Nat) : Int)), (i64 lf), (ptr b72)]) (by kernel_rfl) (by kernel_rfl) H358 (by kernel_rfl) (d := none) (by kernel_rfl) rfl (fun w394 H395 K396 => ?_)
        replace hO385 := own_keep hO385 K396 (fun i hi => by have := ob391 i hi; omega)
        have Kb397 := Kb393.t1 K396 fun _ => by have := xb355; omega
        refine ⟨(SH.nil Kb397), ?_⟩
        refine DrS.keep (R := [(0, .func (Fn.yield ln) #[] #[]), (1, ptr b2), (2, ptr b3), (5, ptr b16), (10, ptr b355), (12, .slice LA l.length lc), (13, i64 ↑l.length), (14, i64 ↑i)]) (by kernel_rfl) ?_
        refine DrS.done (by kernel_rfl) ?_
        replace K31 := K31.tn Kb397
        replace H32 := H32.kn Kb397
        replace H33 := H33.kn Kb397
        replace H34 := H34.kn Kb397
        replace H35 := H35.kn Kb397
        replace H36 := H36.kn Kb397
        replace H37 := H37.kn Kb397
        replace H77 := H77.kn Kb397
        replace Hm94 := Hm94.kn Kb397
        replace Hk95 := Hk95.kn Kb397
        replace hcx := hcx.trans Kb397 (fun _ _ h => h) (fun _ _ h => h)
        have hgo := one_go (t := (⟨o, d, lf, (S, K)⟩ : Sr LS_)) hal hx hna hbit (fun j z hz => hwt j z (by have := (List.getElem?_eq_some_iff.1 hz).1; omega) hz) hst
        have hq1 : (b72 ≠ mb73 ∧ b72 ≠ kb74 ∧ mb73 ≠ kb74) ∧ b72 ≠ b355 ∧ mb73 ≠ b355 ∧ kb74 ≠ b355 := by omega
        have hyA : ∀ z, StC.At w394 110 (fun i => w1.heap.size ≤ i ∧ i < w394.heap.size ∧ i ≠ b355) (⟨o ++ [na], A389, c390, d ||| 1 <<< i, z, b72, ((doS S K x.c.op), (doK S K x.c.op))⟩ : StC) := fun z => ⟨OwnT.rd hO385, fun i hi => ⟨(World.ownsRow.lt hO385 i hi).1, (World.ownsRow.lt hO385 i hi).2, by have := ob391 i hi; omega⟩, mb73, kb74, m89, H77, Hm94, Hk95, hq1.1, hB96, ⟨ox86, H77.lt, hq1.2.1⟩, ⟨ox87, Hm94.lt, hq1.2.2.1⟩, ⟨ox88, Hk95.lt, hq1.2.2.2⟩⟩
        refine next_tail w394 ln m0 b2 b3 b16 b355 i l.length LA lc x A389 (o ++ [na]).length c390 (d ||| 1 <<< i) b72 lf T (J ((probH (XS l a)).nth (⟨o, d, lf, (S, K)⟩ : Sr LS_) (i + 1))) H37 H395 (by omega) (by omega) (fun W1 k1 => ?_) (fun w9 hj9 k9 => ?_)
        ·rw [Prob.nth_some hgo]
         refine hY _ _ _ W1 hj (hcx.trans k1 (U := none_) (fun _ _ h => h) (fun i hi h => by have h : i = b355 := h; exfalso; omega)) hWw (Prob.nth_lt (by show i < (XS l a).length; rw [xs_len hal]; omega) hgo) ⟨(⟨o ++ [na], A389, c390, d ||| 1 <<< i, (if x.c.told then lf - 1 else lf), b72, ((doS S K x.c.op), (doK S K x.c.op))⟩ : StC), rfl, Prob.nth_at (by show i < (XS l a).length; rw [xs_len hal]; omega) hgo, ?_⟩
         exact ((hyA _).keep k1 (fun i hi h => hi.2.2 h)).mono (fun i hi => ⟨hi.1, Nat.lt_of_lt_of_le hi.2.1 k1.size⟩)
        clear H37 H77 Hm94 Hk95 H119 H395 H376
        replace K31 := K31.trans k9 (U := (fun i => T i)) (fun i h1 h2 => h2) (fun i h1 h2 => by have h2 : T i ∨ i = b355 := h2; rcases h2 with h2 | h2; (exact h2); (exfalso; omega))
        replace H35 := H35.keep k9 (by intro h; change T b2 ∨ b2 = b355 at h; rcases h with h | h; (have := hTb2 b2 h; omega); (omega))
        replace H36 := H36.keep k9 (by intro h; change T b3 ∨ b3 = b355 at h; rcases h with h | h; (have := hTb3 b3 h; omega); (omega))
        replace H32 := H32.keep k9 (by intro h; change T b ∨ b = b355 at h; rcases h with h | h; (have := hTb b h; omega); (omega))
        replace H33 := H33.keep k9 (by intro h; change T mb ∨ mb = b355 at h; rcases h with h | h; (have := hTmb mb h; omega); (omega))
        replace H34 := H34.keep k9 (by intro h; change T kb ∨ kb = b355 at h; rcases h with h | h; (have := hTkb kb h; omega); (omega))
        refine rgQ Open.wide ?_
        refine oid 2 (fun z => [(0, .func (Fn.yield ln) #[] #[]), (1, ptr b2), (2, ptr b3), (12, .slice LA l.length lc), (13, i64 ↑l.length), (14, i64 z)]) i ?_
        exact ⟨i + 1, ⟨rfl, rfl, hj9, (by omega), K31, H32, H33, H34, H35, H36⟩, (show l.length - (i + 1) < l.length - i from by omega)⟩
       ·skip
        refine Dr1.new (o := rowL [(i64 ((na : Nat) : Int))] 3) (V := fun b => (Value.slice (some ⟨b, 0, none⟩) 1 1)) (by kernel_rfl) (d := (some 74)) (by kernel_rfl) (fun b => rfl) (fun b399 w400 hb401 H402 K403 hs404 => ?_)
        have xb399 : w139.heap.size ≤ b399 := by have := Kb362.size; omega
        have lb399b355 : b355 < b399 := by have := H358.lt; omega
        have nb399 : w.heap.size ≤ b399 := by have := K31.size; omega
        have ox405 : w1.heap.size ≤ b399 := by have := hcx.size; omega
        replace H358 := H358.kn K403
        have Kb406 := Kb362.tn K403
        refine ⟨(SH.nil Kb406), ?_⟩
        clear K403 hs404
        refine soQ 2 ?_
        refine Dr1.call (by kernel_rfl) (d := (some 68)) (by kernel_rfl) (CloneI_calls _ OA oc o (Rd.keep0 (by decide) hR40 Kb406) (by omega)) ?_
        rintro _ w409 ⟨A407, c408, rfl, K410, hO411⟩
        have ob413 : ∀ i, Ow (.slice A407 o.length c408) i → i ≠ b355 := fun i hi => by have := (World.ownsRow.lt hO411 i hi).1; have := H358.lt; omega
        have oy415 : ∀ i, Ow (.slice A407 o.length c408) i → w139.heap.size ≤ i := fun i hi => by have := (World.ownsRow.lt hO411 i hi).1; have := Kb406.size; omega
        have O412 := own_base hO411 (Nat.le_trans hcx.size Kb406.size)
        replace H358 := H358.kn K410
        replace H402 := H402.kn K410
        have Kb417 := Kb406.tn K410
        refine ⟨_, _, rfl, rfl, (SH.nil Kb417), ?_⟩
        refine soQ 9 ?_
        obtain ⟨v418, w419, hr420, hO421, hK422, hg423⟩ := OwnT.app (ty := 35) iN_one iN_cells tyI O412 (show RdT _ 1 iN _ [na] from Rd.lit H402 (n := 1) rfl (by decide)) (by simp only [List.length_cons, List.length_nil]; omega) (by simp only [List.length_cons, List.length_nil]; omega) (Nat.le_trans hcx.size Kb417.size)
        obtain ⟨A425, c426, rfl⟩ := RdT.form iN_one (by decide) (OwnT.rd hO421)
        have ob427 : ∀ i, Ow (.slice A425 ((o ++ [na]).length) c426) i → i ≠ b355 := fun i hi => by rcases hg423 i hi with h | h; (have := ob413 i h; omega); (have := H358.lt; omega)
        have K424 := hK422
        replace H358 := H358.keep K424 (by intro h; change Ow (.slice A407 o.length c408) b355 at h; have := ob413 b355 h; omega)
        have Kb429 := Kb417.trans K424 (U := none_) (fun _ _ h => h) (fun i h1 h2 => by have h2 : Ow (.slice A407 o.length c408) i := h2; exfalso; have := oy415 i h2; omega)
        refine Dr1.go (v := (Value.slice A425 ((o ++ [na]).length) c426)) (by kernel_rfl) (Runs.append (ts := #[35, 35]) (ty := 35) (vs := [(Value.slice A407 o.length c408), (Value.slice (some ⟨b399, 0, none⟩) 1 1)]) (by kernel_rfl) hr420) (d := (some 75)) (by kernel_rfl) rfl (SH.nil Kb429) ?_
        clear K424 hr420 hK422 hg423
        refine skQ 1 [18] [(0, .func (Fn.yield ln) #[] #[]), (1, ptr b2), (2, ptr b3), (5, ptr b16), (10, ptr b355), (12, .slice LA l.length lc), (13, i64 ↑l.length), (14, i64 ↑i), (28, i64 ↑kk), (84, (agg [(Value.slice A425 ((o ++ [na]).length) c426), (Value.int IntKind.u64 ((d ||| 1 <<< i : Nat) : Int)), (i64 lf), (ptr b72)]))] ?_
        refine soQ 20 ?_
        refine Dr1.put (t := 73) (b := b355) (off := 0) (v := (agg [(Value.slice A425 ((o ++ [na]).length) c426), (Value.int IntKind.u64 ((d ||| 1 <<< i : Nat) : Int)), (i64 lf), (ptr b72)])) (ys := [(Value.slice A425 ((o ++ [na]).length) c426), (Value.int IntKind.u64 ((d ||| 1 <<< i : Nat) : Int)), (i64 lf), (ptr b72)]) (by kernel_rfl) (by kernel_rfl) H358 (by kernel_rfl) (d := none) (by kernel_rfl) rfl (fun w430 H431 K432 => ?_)
        replace hO421 := own_keep hO421 K432 (fun i hi => by have := ob427 i hi; omega)
        have Kb433 := Kb429.t1 K432 fun _ => by have := xb355; omega
        refine ⟨(SH.nil Kb433), ?_⟩
        refine DrS.keep (R := [(0, .func (Fn.yield ln) #[] #[]), (1, ptr b2), (2, ptr b3), (5, ptr b16), (10, ptr b355), (12, .slice LA l.length lc), (13, i64 ↑l.length), (14, i64 ↑i)]) (by kernel_rfl) ?_
        refine DrS.done (by kernel_rfl) ?_
        replace K31 := K31.tn Kb433
        replace H32 := H32.kn Kb433
        replace H33 := H33.kn Kb433
        replace H34 := H34.kn Kb433
        replace H35 := H35.kn Kb433
        replace H36 := H36.kn Kb433
        replace H37 := H37.kn Kb433
        replace H77 := H77.kn Kb433
        replace Hm94 := Hm94.kn Kb433
        replace Hk95 := Hk95.kn Kb433
        replace hcx := hcx.trans Kb433 (fun _ _ h => h) (fun _ _ h => h)
        have hgo := one_go (t := (⟨o, d, lf, (S, K)⟩ : Sr LS_)) hal hx hna hbit (fun j z hz => hwt j z (by have := (List.getElem?_eq_some_iff.1 hz).1; omega) hz) hst
        have hq1 : (b72 ≠ mb73 ∧ b72 ≠ kb74 ∧ mb73 ≠ kb74) ∧ b72 ≠ b355 ∧ mb73 ≠ b355 ∧ kb74 ≠ b355 := by omega
        have hyA : ∀ z, StC.At w430 110 (fun i => w1.heap.size ≤ i ∧ i < w430.heap.size ∧ i ≠ b355) (⟨o ++ [na], A425, c426, d ||| 1 <<< i, z, b72, ((doS S K x.c.op), (doK S K x.c.op))⟩ : StC) := fun z => ⟨OwnT.rd hO421, fun i hi => ⟨(World.ownsRow.lt hO421 i hi).1, (World.ownsRow.lt hO421 i hi).2, by have := ob427 i hi; omega⟩, mb73, kb74, m89, H77, Hm94, Hk95, hq1.1, hB96, ⟨ox86, H77.lt, hq1.2.1⟩, ⟨ox87, Hm94.lt, hq1.2.2.1⟩, ⟨ox88, Hk95.lt, hq1.2.2.2⟩⟩
        refine next_tail w430 ln m0 b2 b3 b16 b355 i l.length LA lc x A425 (o ++ [na]).length c426 (d ||| 1 <<< i) b72 lf T (J ((probH (XS l a)).nth (⟨o, d, lf, (S, K)⟩ : Sr LS_) (i + 1))) H37 H431 (by omega) (by omega) (fun W1 k1 => ?_) (fun w9 hj9 k9 => ?_)
        ·rw [Prob.nth_some hgo]
         refine hY _ _ _ W1 hj (hcx.trans k1 (U := none_) (fun _ _ h => h) (fun i hi h => by have h : i = b355 := h; exfalso; omega)) hWw (Prob.nth_lt (by show i < (XS l a).length; rw [xs_len hal]; omega) hgo) ⟨(⟨o ++ [na], A425, c426, d ||| 1 <<< i, (if x.c.told then lf - 1 else lf), b72, ((doS S K x.c.op), (doK S K x.c.op))⟩ : StC), rfl, Prob.nth_at (by show i < (XS l a).length; rw [xs_len hal]; omega) hgo, ?_⟩
         exact ((hyA _).keep k1 (fun i hi h => hi.2.2 h)).mono (fun i hi => ⟨hi.1, Nat.lt_of_lt_of_le hi.2.1 k1.size⟩)
        clear H37 H77 Hm94 Hk95 H119 H431 H402
        replace K31 := K31.trans k9 (U := (fun i => T i)) (fun i h1 h2 => h2) (fun i h1 h2 => by have h2 : T i ∨ i = b355 := h2; rcases h2 with h2 | h2; (exact h2); (exfalso; omega))
        replace H35 := H35.keep k9 (by intro h; change T b2 ∨ b2 = b355 at h; rcases h with h | h; (have := hTb2 b2 h; omega); (omega))
        replace H36 := H36.keep k9 (by intro h; change T b3 ∨ b3 = b355 at h; rcases h with h | h; (have := hTb3 b3 h; omega); (omega))
        replace H32 := H32.keep k9 (by intro h; change T b ∨ b = b355 at h; rcases h with h | h; (have := hTb b h; omega); (omega))
        replace H33 := H33.keep k9 (by intro h; change T mb ∨ mb = b355 at h; rcases h with h | h; (have := hTmb mb h; omega); (omega))
        replace H34 := H34.keep k9 (by intro h; change T kb ∨ kb = b355 at h; rcases h with h | h; (have := hTkb kb h; omega); (omega))
        refine rgQ Open.wide ?_
        refine oid 2 (fun z => [(0, .func (Fn.yield ln) #[] #[]), (1, ptr b2), (2, ptr b3), (12, .slice LA l.length lc), (13, i64 ↑l.length), (14, i64 z)]) i ?_
        exact ⟨i + 1, ⟨rfl, rfl, hj9, (by omega), K31, H32, H33, H34, H35, H36⟩, (show l.length - (i + 1) < l.length - i from by omega)⟩
 ·rw [h11]
  have p435 := of_decide_eq_false h11
  refine qr_exit (id := 0) (by kernel_rfl) ?_
  refine retR_norm (v := (Value.tuple #[])) (retv_none rfl) ?_
  exact ⟨⟨_, rfl⟩, by rw [← Prob.nth_end (P := (probH (XS l a))) (t := (⟨o, d, lf, (S, K)⟩ : Sr LS_)) (i := i) (by show i = (XS l a).length; rw [xs_len hal]; omega)]; exact hJ _ _ _ hj hcx⟩
end Go.Proofs.YtnbcghbgeiocbaaDoor
namespace Go.Q
open Go.RowKit
section
variable {α : Type} {f : α → List Value} {sz : Nat}
theorem OwnT.flat (hf : ∀ x, (f x).length = sz) {w : World} {base e n c : Nat} {A : Option Addr} {l : List α} (h : OwnT w base e sz f (.slice A n c) l) (h0 : l ≠ []) :
  ∃ g rest, A = some ⟨g, 0, none⟩ ∧ base ≤ g ∧ Has w g (rowL (l.flatMap f ++ rest) e) ∧ ∀ (m : List α) w', m.length = l.length → Has w' g (rowL (m.flatMap f ++ rest) e) → OwnT w' base e sz f (.slice A n c) m := by
 obtain ⟨hl, h⟩ := h
 rcases h with ⟨_, hn⟩ | ⟨g, cap, cur, hv, hb, hg, h1, h2, h3, h4⟩
 ·exact absurd (List.eq_nil_of_length_eq_zero hn) h0
 ·injection hv with e1 e2 e3
  subst e1; subst e2; subst e3
  refine ⟨g, cur.toList.drop (l.length * sz), rfl, hb, ?_, fun m w' hm H => ?_⟩
  ·rw [← h4, List.take_append_drop]; exact hg
  ·refine ⟨by rw [flat_len hf, hm], .inr ⟨g, c, ⟨m.flatMap f ++ cur.toList.drop (l.length * sz)⟩, by rw [hm], hb, H, by rw [hm]; exact h1, h2, ?_, ?_⟩⟩
   ·have : (l.flatMap f).length = l.length * sz := flat_len hf l
    have h5 : cur.toList.length = c * sz := by simpa using h3
    have h6 : l.length * sz ≤ c * sz := Nat.mul_le_mul_right _ h1
    show (m.flatMap f ++ cur.toList.drop (l.length * sz)).length = _
    rw [List.length_append, flat_len hf, List.length_drop, hm, h5]; omega
   ·show List.take (m.length * sz) (m.flatMap f ++ _) = _
    rw [← flat_len hf m, List.take_left]
theorem flat_len_at (hf : ∀ x, (f x).length = sz) {l : List α} {k : Nat} {x : α} {rest : List Value} (h : l[k]? = some x) : k * sz + (f x).length ≤ (l.flatMap f ++ rest).length := by
 have hk := (List.getElem?_eq_some_iff.1 h).1
 have : (k + 1) * sz ≤ l.length * sz := Nat.mul_le_mul_right _ hk
 rw [List.length_append, flat_len hf, hf]
 rw [Nat.add_mul] at this
 omega
theorem flat_len_set (hf : ∀ x, (f x).length = sz) {l : List α} {k : Nat} {x : α} {rest : List Value} (y : α) (h : l[k]? = some x) : k * sz + (f y).length ≤ (l.flatMap f ++ rest).length := by
 have := flat_len_at hf (rest := rest) h
 rw [hf] at this ⊢; exact this
theorem flat_load (hf : ∀ x, (f x).length = sz) {l : List α} {k : Nat} {x : α} {rest : List Value} (h : l[k]? = some x) : ((l.flatMap f ++ rest).drop (k * sz)).take (f x).length = f x := by
 have hk := (List.getElem?_eq_some_iff.1 h).1
 rw [flat_split h]
 have e : k * sz = ((l.take k).flatMap f).length := by rw [flat_len hf, List.length_take]; congr 1; omega
 rw [e, List.append_assoc, List.append_assoc, List.drop_left, List.take_left]
theorem flat_store (hf : ∀ x, (f x).length = sz) {l : List α} {k : Nat} {x : α} {rest : List Value} (y : α) (h : l[k]? = some x) : (l.flatMap f ++ rest).take (k * sz) ++ f y ++ (l.flatMap f ++ rest).drop (k * sz + (f y).length) = (l.set k y).flatMap f ++ rest := by
 have hk := (List.getElem?_eq_some_iff.1 h).1
 rw [flat_setx h, flat_split h]
 have e : k * sz = ((l.take k).flatMap f).length := by rw [flat_len hf, List.length_take]; congr 1; omega
 have e2 : k * sz + (f y).length = ((l.take k).flatMap f ++ f x).length := by rw [List.length_append, e, hf, hf]
 rw [e2, e]
 simp only [List.append_assoc]
 rw [List.take_left, ← List.append_assoc (List.flatMap f (List.take k l)) (f x), List.drop_left]
end
section
variable {α : Type}
def RevI (l m : List α) (i : Nat) : Prop := m.length = l.length ∧ ∀ k, k < l.length → m[k]? = if k < i ∨ l.length ≤ k + i then l[l.length - 1 - k]? else l[k]?
theorem RevI.zero (l : List α) : RevI l l 0 := ⟨rfl, fun k hk => by rw [if_neg (by omega)]⟩
theorem RevI.step {l m : List α} {i j : Nat} {x y : α} (h : RevI l m i) (hj : i + j + 1 = l.length) (hij : i < j) (hx : m[i]? = some x) (hy : m[j]? = some y) : RevI l ((m.set i y).set j x) (i + 1) := by
 refine ⟨by rw [List.length_set, List.length_set]; exact h.1, fun k hk => ?_⟩
 have hml := h.1
 have hxi := h.2 i (by omega)
 have hyj := h.2 j (by omega)
 rw [hx, if_neg (by omega)] at hxi
 rw [hy, if_neg (by omega)] at hyj
 by_cases h1 : k = j
 ·subst h1
  rw [List.getElem?_set_self (by rw [List.length_set]; omega), if_pos (by omega), hxi]
  congr 1; omega
 ·rw [List.getElem?_set_ne (fun q => h1 q.symm)]
  by_cases h2 : k = i
  ·subst h2
   rw [List.getElem?_set_self (by omega), if_pos (by omega), hyj]
   congr 1; omega
  ·rw [List.getElem?_set_ne (fun q => h2 q.symm), h.2 k hk]
   by_cases h3 : k < i ∨ l.length ≤ k + i
   ·rw [if_pos h3, if_pos (by omega)]
   ·rw [if_neg h3, if_neg (by omega)]
theorem RevI.done {l m : List α} {i : Nat} (h : RevI l m i) (hi : l.length ≤ 2 * i + 1) : m = l.reverse := by
 apply List.ext_getElem?
 intro k
 by_cases hk : k < l.length
 ·rw [h.2 k hk, List.getElem?_reverse hk]
  by_cases h3 : k < i ∨ l.length ≤ k + i
  ·rw [if_pos h3]
  ·rw [if_neg h3]; congr 1; omega
 ·rw [List.getElem?_eq_none (by rw [h.1]; omega), List.getElem?_eq_none (by rw [List.length_reverse]; omega)]
end
def StC.led (x : StC) : List Value := [.pointer (some ⟨x.b, 0, none⟩)]
theorem StC.led1 (x : StC) : x.led.length = 1 := rfl
theorem StC.led1c (x : StC) : oneCells x.led = true := rfl
noncomputable def sameB (a b : LS_) : Bool := @decide (sameL a b) (Classical.propDecidable _)
theorem sameB_iff (a b : LS_) : sameB a b = true ↔ sameL a b := by unfold sameB; exact @decide_eq_true_iff _ (Classical.propDecidable _)
section
variable {σ : Type} {P : Prob σ} {same : σ → σ → Bool} {f : Nat} {t : Sr σ} {st : List (Sr σ)} {D : List (Nat × σ)} {R : List Nat × Bool}
theorem run_end (h : P.run same f [] D = some R) : R = ([], false) := by
 cases f with
 | zero => cases h
 | succ f => exact (Option.some.inj h).symm
theorem run_left0 (h : P.run same f (t :: st) D = some R) (h0 : t.left = 0) : R = (t.order, true) := by
 cases f with
 | zero => cases h
 | succ f =>
  have h : (if t.left = 0 then some (t.order, true) else if dullS same D t then P.run same f st D else P.run same f (P.nexts t ++ st) ((t.done, t.s) :: D)) = some R := h
  rw [if_pos h0] at h
  exact (Option.some.inj h).symm
theorem run_dull (h : P.run same f (t :: st) D = some R) (h0 : t.left ≠ 0) (hd : dullS same D t = true) : ∃ f', f' < f ∧ P.run same f' st D = some R := by
 cases f with
 | zero => cases h
 | succ f =>
  have h : (if t.left = 0 then some (t.order, true) else if dullS same D t then P.run same f st D else P.run same f (P.nexts t ++ st) ((t.done, t.s) :: D)) = some R := h
  rw [if_neg h0, if_pos hd] at h
  exact ⟨f, Nat.lt_succ_self _, h⟩
theorem run_go (h : P.run same f (t :: st) D = some R) (h0 : t.left ≠ 0) (hd : ¬ dullS same D t = true) : ∃ f', f' < f ∧ P.run same f' (P.nexts t ++ st) ((t.done, t.s) :: D) = some R := by
 cases f with
 | zero => cases h
 | succ f =>
  have h : (if t.left = 0 then some (t.order, true) else if dullS same D t then P.run same f st D else P.run same f (P.nexts t ++ st) ((t.done, t.s) :: D)) = some R := h
  rw [if_neg h0, if_neg hd] at h
  exact ⟨f, Nat.lt_succ_self _, h⟩
end
theorem eq_nil_or_snoc {α : Type} : ∀ l : List α, l = [] ∨ ∃ m x, l = m ++ [x]
 | [] => .inl rfl
 | a :: l => .inr ⟨(a :: l).dropLast, (a :: l).getLast (by simp), (List.dropLast_concat_getLast (by simp)).symm⟩
theorem ownN {A : Option Addr} {n m c d : Nat} : (Value.slice A n c).ownBlock = (Value.slice A m d).ownBlock := by cases A <;> rfl
end Go.Q
