/- What the claim stands on, part 13: rules of the walk, contracts of the functions, plain laws. -/
import Derived.Test.YtnbcghbgeiocbaaDoorKHTurns11
import Derived.Test.YtnbcghbgeiocbaaDoorKHTurns12
import Derived.Shelf.SlicesE.Index
import Derived.Test.YtnbcghbgeiocbaaDoorKHTurns10
import Derived.Test.YtnbcghbgeiocbaaDoorKHTurns4
import Derived.Test.YtnbcghbgeiocbaaDoorProg
import Derived.Test.YtnbcghbgeiocbaaDoorKHTurns6
import Derived.Test.YtnbcghbgeiocbaaDoorKHTurns9
import Derived.Test.YtnbcghbgeiocbaaDoorKHTurns7
set_option linter.unusedVariables false
namespace Go.Q
open Go.RowKit
def kone (x : Int) : List Value := [i64 x]
/-- The errors of a right operation of a kind. -/
def mayL (k : Int) : List Int := if k = 1 then [41, 45] else if k = 2 then [40, 43, 45] else if k = 3 then [40, 42, 45] else if k = 4 then [40, 42, 43, 45] else if k = 5 then [40] else []
def AdjP (l : List RowM) (j : Nat) : Prop := ∀ x, l[j]? = some x → 0 ≤ x.amount ∧ ∀ y, 0 < j → l[j - 1]? = some y → y.name < x.name
def AscP (l : List RowM) : Prop := ∀ j, j < l.length → AdjP l j
def FitsP (o : Opm) (r : ReplyM) : Prop :=
  if wrongE o ≠ 0 then r.why = wrongE o ∧ r.amount = 0 ∧ r.rows.length = 0
  else if r.why ≠ 0 then r.why ∈ mayL o.kind ∧ r.amount = 0 ∧ r.rows.length = 0
  else if o.kind = 5 then 0 ≤ r.amount ∧ r.rows.length = 0
  else if o.kind ≠ 6 then r.amount = 0 ∧ r.rows.length = 0
  else r.amount = 0 ∧ AscP r.rows
theorem AscP.zero {l : List RowM} (h : l.length = 0) : AscP l := fun j hj => absurd hj (by omega)
/-- What is kept is kept with an error of its kind. -/
def MayK (K : List KeptM) : Prop := ∀ k ∈ K, k.why = 0 ∨ k.why ∈ mayL k.op.kind
theorem MayK.nil : MayK [] := fun k h => by cases h
end Go.Q
namespace Go.Q
open Go.RowKit
/-- What an operation that is done adds to the sum. -/
def deltaE (o : Opm) : Int := if o.kind = 2 then o.amount else if o.kind = 3 then -o.amount else 0
def SameP (a b : Opm) : Prop := a.frm = b.frm ∧ a.key = b.key ∧ a.kind = b.kind ∧ a.amount = b.amount
/-- What is kept, of the first i operations. -/
structure SumInv (l : List Opm) (i : Nat) (K : List KeptM) : Prop where
  came : ∀ x ∈ K, ∃ j y, j < i ∧ l[j]? = some y ∧ plainE y = x.op
  went : ∀ j y, j < i → l[j]? = some y → wrongE y = 0 → 1 ≤ y.kind ∧ y.kind ≤ 4 → findK K y.frm y.key ≠ none
theorem SumInv.nil (l : List Opm) : SumInv l 0 [] := ⟨fun x h => (by cases h), fun j y h => absurd h (Nat.not_lt_zero _)⟩
theorem SumInv.step {l : List Opm} {i : Nat} {S : List RowM} {K : List KeptM} {o : Opm} (h : SumInv l i K) (ho : l[i]? = some o) : SumInv l (i + 1) (doK S K o) := by
  refine ⟨fun x hx => ?_, fun j y hj hy hw hk => ?_⟩
  · unfold doK at hx
    split at hx
    · rcases List.mem_append.1 hx with hx | hx
      · obtain ⟨j, y, h1, h2⟩ := h.came x hx; exact ⟨j, y, by omega, h2⟩
      · rw [List.mem_singleton.1 hx]; exact ⟨i, o, by omega, ho, rfl⟩
    · obtain ⟨j, y, h1, h2⟩ := h.came x hx; exact ⟨j, y, by omega, h2⟩
  · have key : ∀ z, findK K y.frm y.key = some z → findK (doK S K o) y.frm y.key ≠ none := fun z hz => by rw [findK_pre (doK_pre S K o) hz]; exact fun q => by cases q
    by_cases hji : j < i
    · cases hz : findK K y.frm y.key with
      | none => exact absurd hz (h.went j y hji hy hw hk)
      | some z => exact key z hz
    · obtain rfl : j = i := by omega
      rw [ho] at hy
      obtain rfl := Option.some.inj hy
      cases hz : findK K o.frm o.key with
      | some z => exact key z hz
      | none =>
        have hf : Fresh K o := ⟨hw, by omega, by omega, by omega, hz⟩
        rw [show doK S K o = K ++ [⟨plainE o, actE S (plainE o)⟩] from if_pos hf]
        have e : findK (K ++ [⟨plainE o, actE S (plainE o)⟩]) o.frm o.key = some ⟨plainE o, actE S (plainE o)⟩ := findK_last (x := ⟨plainE o, actE S (plainE o)⟩) hz
        rw [e]
        exact fun q => by cases q
end Go.Q
namespace Go.Q
def heldB (O : List UInt8) : Nat := if O = [] then 0 else 1
def heldL (l : List (List UInt8 × AccV)) : Nat := (l.map fun x => heldB x.2.2).sum
end Go.Q
namespace Go.Q
def cntS (S : List AccM) (k : Nat) : Nat := (S.filter fun a => decide (slotB a.name < k)).length
def restS (S : List AccM) (k : Nat) : List AccM := S.filter fun a => decide (k ≤ slotB a.name)
end Go.Q
namespace Go.Q
section
variable {α : Type} {f : α → List Value} {sz : Nat} {P : Program} {w : World} {t e : TypeId} {A : Option Addr} {c k : Nat} {l : List α}
end
def keepS (S : List AccM) (k : Int) : List AccM := S.filter fun a => decide (((slotB a.name : Nat) : Int) ≠ k)
end Go.Q
namespace Go.Q
open Go.RowKit
def kref (x : KeptM) : List Value := [i64 x.op.kind, .string (str x.op.frm), .string (str x.op.to), i64 x.op.amount, .string (str x.op.key), i64 x.op.slot, i64 x.op.shard, i64 x.why, i64 0, .slice none 0 0]
def posW (S : List RowM) (n : List UInt8) : Nat := (S.takeWhile fun a => decide (a.name < n)).length
def hasW (S : List RowM) (n : List UInt8) : Bool := match S[posW S n]? with | some a => a.name == n | none => false
def posK (l : List KeptM) (x : KeptM) : Nat := (l.takeWhile fun y => decide (ltI y.id x.id)).length
end Go.Q
namespace Go.Proofs.YtnbcghbgeiocbaaDoor
open Go.Q Go.RowKit

end Go.Proofs.YtnbcghbgeiocbaaDoor
namespace Go.Proofs.YtnbcghbgeiocbaaDoor
open Go.Q Go.RowKit
end Go.Proofs.YtnbcghbgeiocbaaDoor
namespace Go.Proofs.YtnbcghbgeiocbaaDoor
open Go.Q Go.RowKit

end Go.Proofs.YtnbcghbgeiocbaaDoor
namespace Go.Proofs.YtnbcghbgeiocbaaDoor
open Go.Q Go.RowKit

end Go.Proofs.YtnbcghbgeiocbaaDoor
namespace Go.Proofs.YtnbcghbgeiocbaaDoor
open Go.Q Go.RowKit
theorem tyHR : ElemTy Tryd.prog 22 30 13 144 := elemTy (by kernel_rfl)

end Go.Proofs.YtnbcghbgeiocbaaDoor
namespace Go.Proofs.YtnbcghbgeiocbaaDoor
open Go.Q Go.RowKit
theorem tySt : ElemTy Tryd.prog 75 73 4 48 := elemTy (by kernel_rfl)

theorem push_calls (w : World) (s base : Nat) (A : Option Addr) (c : Nat) (l : List StC) (XA : Option Addr) (xn xc : Nat) (xs : List StC) (Hs : Has w s (rowL [(Value.slice A l.length c)] 77)) (hO : OwnT w base 73 4 StC.cells ((Value.slice A l.length c)) l) (hbs : base ≤ w.heap.size) (hVs : ∀ i, ((Value.slice A l.length c)).ownBlock = some i → i ≠ s) (hX : RdT w 4 StC.cells (.slice XA xn xc) xs) (hl : l.length + xs.length ≤ 1000000000) : Calls Tryd.prog 29 ⟨[(ptr s), (Value.slice XA xn xc)]⟩ w (fun e w' => ∃ v A' c', e = .returned v ∧ Keeps (fun i => i = s ∨ ((Value.slice A l.length c)).ownBlock = some i) w w' ∧ Has w' s (rowL [.slice A' (l ++ xs).length c'] 77) ∧ OwnT w' base 73 4 StC.cells (.slice A' (l ++ xs).length c') (l ++ xs) ∧ ∀ i, (Value.slice A' (l ++ xs).length c').ownBlock = some i → ((Value.slice A l.length c)).ownBlock = some i ∨ w.heap.size ≤ i) := by
 have Hsl := Hs.lt
 have K0 : Keeps (fun i => i = s ∨ ((Value.slice A l.length c)).ownBlock = some i) w w := (Keeps.refl w).mono (fun _ _ h => h.elim)
 refine q_calls Tryd.func29 (by kernel_rfl) (by kernel_rfl) ?_
 refine qg ?_
 refine og 4 [(1, (Value.slice XA xn xc)), (4, (ptr s)), (7, (ptr s))] 4 ?_
 refine Ops.go (v := (Value.slice A l.length c)) (by kernel_rfl) (Runs.load (t := 75) (a := ⟨s, 0, none⟩) (by kernel_rfl) (Hs.loads (by kernel_rfl))) (d := (some 8)) (by kernel_rfl) rfl ?_
 refine og 1 [(4, (ptr s)), (8, (Value.slice A l.length c)), (9, (Value.slice XA xn xc))] 6 ?_
 obtain ⟨v1, w2, hr3, hO4, hK5, hg6⟩ := OwnT.app (ty := 75) StC.two StC.one tySt hO hX (by first | omega | (simp only [List.length_nil]; omega)) (by first | omega | (simp only [List.length_nil]; omega)) (Nat.le_trans hbs K0.size)
 obtain ⟨A8, c9, rfl⟩ := RdT.form StC.two (by decide) (OwnT.rd hO4)
 have ob10 : ∀ i, ((Value.slice A8 ((l ++ xs).length) c9)).ownBlock = some i → i ≠ s := fun i hi => by rcases hg6 i hi with h | h; (have := hVs i h; omega); (have := Hs.lt; omega)
 have K7 := hK5
 refine Ops.go (v := (Value.slice A8 ((l ++ xs).length) c9)) (by kernel_rfl) (Runs.append (ts := #[75, 75]) (ty := 75) (vs := [(Value.slice A l.length c), (Value.slice XA xn xc)]) (by kernel_rfl) hr3) (d := (some 10)) (by kernel_rfl) rfl ?_
 replace K0 := K0.trans K7 (U := (fun i => i = s ∨ ((Value.slice A l.length c)).ownBlock = some i)) (fun i h1 h2 => h2) (fun i h1 h2 => by have h2 : ((Value.slice A l.length c)).ownBlock = some i := h2; exact .inr (h2))
 replace Hs := Hs.keep K7 (by intro h; change ((Value.slice A l.length c)).ownBlock = some s at h; have := hVs s h; omega)
 clear hO
 clear hX
 clear K7 hr3 hK5
 refine og 2 [(10, (Value.slice A8 ((l ++ xs).length) c9)), (12, (ptr s))] 9 ?_
 refine Ops.put (t := 75) (b := s) (off := 0) (v := (Value.slice A8 ((l ++ xs).length) c9)) (ys := [(Value.slice A8 ((l ++ xs).length) c9)]) (by kernel_rfl) (by kernel_rfl) Hs (by kernel_rfl) (d := none) (by kernel_rfl) rfl (fun w11 H12 K13 => ?_)
 clear Hs
 replace K0 := K0.trans K13 (U := (fun i => i = s ∨ ((Value.slice A l.length c)).ownBlock = some i)) (fun i h1 h2 => h2) (fun i h1 h2 => by have h2 : i = s := h2; exact .inl h2)
 replace hO4 := own_keep hO4 K13 (fun i hi => by have := ob10 i hi; omega)
 clear K13
 refine od ?_
 refine ⟨(Value.tuple #[]), retv_none rfl, ?_⟩
 exact ⟨_, _, _, rfl, K0, H12, hO4, hg6⟩
end Go.Proofs.YtnbcghbgeiocbaaDoor
namespace Go.Q
open Go.RowKit
/-- As 'Tells', of elements of whose memory is known where it begins: behind all that there was ahead of the call. -/
def TellsW (P : Program) (m : Nat) (gf : Nat) (lb : List Value) (A : Nat → Nat → Value → World → Prop) (T : Nat → Prop) (N : Nat) (w0 : World) : Prop :=
  ∀ (l : Nat) (J : Nat → World → Prop) (W : World), Keeps T w0 W → (∀ k W W', J k W → Keeps none_ W W' → J k W') →
    (∀ k v Wp W1, J k Wp → Keeps none_ Wp W1 → W.heap.size ≤ Wp.heap.size → k < N → A Wp.heap.size k v W1 → YieldAt Fence.wide m P l #[v] W1 fun e W' => e = .returned (.bool true) ∧ J (k + 1) W' ∧ Keeps T W1 W') →
    J 0 W → Calls P gf ⟨.func (.yield l) #[] #[] :: lb⟩ W fun e W' => (∃ v, e = .returned v) ∧ J N W'
/-- A loop 'for x := range seq' that is never left ahead of its end. -/
theorem qr_eachW {P : Program} {m n : Nat} {Q : List Deferred → Exit → Loc → World → Prop} {L : Loc} {w : World} {f : Func} {p : List Nat} {ds : List Deferred} {g : Operand} {t : Tmp}
    (hc : isRange (cd f p) = some (g, #[t])) (h1 : 1 ≤ m) {gf : Nat} {lb : List Value} (hg : evo L g = some (.func (.func gf) #[] ⟨lb⟩)) (eg : ∀ args w, (callFunc gf args).run P w = .ok (.enter gf args) w)
    {A : Nat → Nat → Value → World → Prop} {T : Nat → Prop} {N : Nat} {w0 : World} (hseq : TellsW P (m - 1 - 1) gf lb A T N w0) (hT : ∀ i, w.heap.size ≤ i → T i) (hw0 : Keeps T w0 w)
    (I : Nat → World → Prop) (hI : ∀ k W W', I k W → Keeps (fun i => i = w.heap.size ∨ i = w.heap.size + 1) W W' → I k W') (hA : ∀ b k v W W', w.heap.size + 2 ≤ b → A b k v W → Keeps (fun i => i = w.heap.size ∨ i = w.heap.size + 1) W W' → A b k v W') (h0 : I 0 w) (La : Value → Loc) (hLa : ∀ v, setL n (some t) v L = some (La v))
    (Ax : Nat → Value → Loc → World → Prop) (hAx : ∀ b v L W W', w.heap.size + 2 ≤ b → Ax b v L W → Keeps (fun i => i = w.heap.size ∨ i = w.heap.size + 1) W W' → Ax b v L W')
    (hassign : ∀ (l b k : Nat) (v : Value) (W : World), k < N → A b k v W → w.heap.size + 2 ≤ b → b ≤ W.heap.size → wpR (Fence.wide.inRound l) P (m - 1 - 1) n (cd f (0 :: p)) (fun ds e L' W' => e = .normal ∧ ds = [] ∧ Keeps none_ W W' ∧ Ax b v L' W') [] (La v) W)
    (hbody : ∀ (l k : Nat) (v : Value) (L1 : Loc) (Wp W : World), I k Wp → Keeps (fun i => i = w.heap.size ∨ i = w.heap.size + 1) Wp W → w.heap.size + 2 ≤ Wp.heap.size → k < N → A Wp.heap.size k v W → Ax Wp.heap.size v L1 W → wpR (Fence.wide.inRound l) P (m - 1 - 1) n (cd f (1 :: p)) (fun _ e _ W' => e = .normal ∧ KeepsFrom w.heap.size W W' ∧ Keeps T W W' ∧ I (k + 1) W') [] L1 W)
    (hdone : ∀ (D : Nat) (W : World), w.heap.size ≤ D → I N W → W.heap[D]? = some (.deferred (some [])) → Q ({ target := .collected D, args := #[] } :: ds) .normal L W) :
    wpR Fence.wide P m n (cd f p) Q ds L w := by
  intro a ha
  simp only [cd] at hassign hbody
  cases e : cd f p with
  | rangeFunc g' ps assign body =>
    rw [e] at hc hassign hbody
    simp only [isRange, Option.some.injEq, Prod.mk.injEq] at hc
    obtain ⟨rfl, rfl⟩ := hc
    simp only [sub] at hassign hbody
    refine wpIn_rangeFunc fun fn hfn => ?_
    obtain ⟨rec, hrec⟩ : ∃ rec : LoopState → Loop, rec = fun st => { state := st, pending := none, fn, tmps := (wd ds a).tmps, params := #[t], assign, body, defers := w.heap.size } := ⟨_, rfl⟩
    have hev : (wd ds a).eval g' = .func (.func gf) #[] ⟨lb⟩ := ha.ev hg
    obtain ⟨W1, hW1⟩ : ∃ W1, (w.alloc (.deferred (some []))).alloc (.loop (rec .ready)) = W1 := ⟨_, rfl⟩
    have hK1 : Keeps none_ w W1 := by rw [← hW1]; exact (Keeps.alloc w _).trans (Keeps.alloc _ _) (fun _ _ h => h) (fun _ _ h => h)
    have hl1 : W1.heap[w.heap.size + 1]? = some (.loop (rec .ready)) := by
      rw [← hW1]; have := World.alloc_heap_new (w.alloc (.deferred (some []))) (.loop (rec .ready)); rwa [World.size_alloc] at this
    have hd1 : W1.heap[w.heap.size]? = some (.deferred (some [])) := by
      rw [← hW1]; exact ((Keeps.alloc (w.alloc (.deferred (some []))) (.loop (rec .ready))).blk _ (by simp) (fun h => h)).trans (World.alloc_heap_new w _)
    refine ⟨w.heap.size + 1, [{ target := .collected w.heap.size, args := #[] }], W1, { target := .fn (.func gf) ⟨lb⟩, args := #[.func (.yield (w.heap.size + 1)) #[] #[]] }, W1, gf,
      #[.func (.yield (w.heap.size + 1)) #[] #[]] ++ ⟨lb⟩, W1, ?_, ?_, fun f' hf' => True.intro, ?_, fun _ => h1, ?_⟩
    · rw [← hW1, hrec]; exact run_enterLoop_outer _ _ _ _ _
    · simp only [resolve, hev]
      simp [go_sem]
    · simp [invoke, go_sem, eg]
    · refine callsIn_wide.2 ?_
      have hs1 : W1.heap.size = w.heap.size + 2 := by rw [← hW1]; simp
      have harr : (#[.func (.yield (w.heap.size + 1)) #[] #[]] ++ ⟨lb⟩ : Array Value) = ⟨.func (.yield (w.heap.size + 1)) #[] #[] :: lb⟩ := by simp
      rw [harr]
      refine (hseq (w.heap.size + 1) (fun k W => I k W ∧ W.heap[w.heap.size + 1]? = some (.loop (rec .ready)) ∧ W.heap[w.heap.size]? = some (.deferred (some []))) _
        (hw0.trans hK1 (fun _ _ h => h) (fun _ _ h => h.elim)) ?_ ?_ ⟨hI 0 _ _ h0 (hK1.mono fun _ _ h => h.elim), hl1, hd1⟩).mono ?_
      · rintro k W W' ⟨hi, hl, hd⟩ hk
        exact ⟨hI _ _ _ hi (hk.mono fun _ _ h => h.elim), (hk.blk _ (Array.getElem?_eq_some_iff.1 hl).1 (fun h => h)).trans hl, (hk.blk _ (Array.getElem?_eq_some_iff.1 hd).1 (fun h => h)).trans hd⟩
      · rintro k v Wp W ⟨hi, hlp, hdp⟩ hkp hbp hkN hAv
        rw [hs1] at hbp
        have hl := (hkp.blk _ (Array.getElem?_eq_some_iff.1 hlp).1 (fun h => h)).trans hlp
        have hd := (hkp.blk _ (Array.getElem?_eq_some_iff.1 hdp).1 (fun h => h)).trans hdp
        have hy := run_yield (P := P) (args := #[v]) hl (by rw [hrec]; rfl)
        refine ⟨_, _, _, _, hy, roundIn_of_wpIn trivial ?_⟩
        have hlt : w.heap.size + 1 < W.heap.size := (Array.getElem?_eq_some_iff.1 hl).1
        have hr : Rep n (a.put (some t) v) (La v) := ha.setL (hLa v)
        have ea : ({ tmps := ((rec .ready).params.zip #[v]).foldl (fun t (p, v) => t.setIfInBounds p v) (rec .ready).tmps, defers := [] } : Act) = wd [] (a.put (some t) v) := by rw [hrec]; simp [wd, Act.put]
        have easg : (rec .ready).assign = assign := by rw [hrec]
        have ebdy : (rec .ready).body = body := by rw [hrec]
        rw [easg, ebdy]
        refine (congrArg (fun z => Code.wpIn _ _ P assign _ z W) ea).mpr ?_
        refine wpIn_mono (hassign _ _ k v W hkN hAv hbp hkp.size _ hr) ?_
        rintro ex a' W' ⟨ds2, a2, L', rfl, r, rfl, rfl, hka, hax⟩
        have hlA := (hka.blk _ hlt (fun h => h)).trans hl
        have hdA := (hka.blk _ (by omega) (fun h => h)).trans hd
        have hltA : w.heap.size + 1 < W'.heap.size := Nat.lt_of_lt_of_le hlt hka.size
        have hpk : ∀ (X : World) (o : Obj), Keeps (fun i => i = w.heap.size ∨ i = w.heap.size + 1) X (X.putObj (w.heap.size + 1) o) := fun X o => ⟨rfl, rfl, rfl, by simp, fun i _ hn => World.putObj_heap_other (fun e => hn (.inr e))⟩
        have hkm : Keeps (fun i => i = w.heap.size ∨ i = w.heap.size + 1) W W' := hka.mono fun _ _ h => h.elim
        have hp2 := hpk W' (.loop { rec .ready with state := .busy })
        have hl2 : (W'.putObj (w.heap.size + 1) (.loop { rec .ready with state := .busy })).heap[w.heap.size + 1]? = some (.loop { rec .ready with state := .busy }) := World.putObj_heap_same hltA
        have hd2 : (W'.putObj (w.heap.size + 1) (.loop { rec .ready with state := .busy })).heap[w.heap.size]? = some (.deferred (some [])) := (World.putObj_heap_other (by omega)).trans hdA
        refine ⟨_, run_beginRound hlA (by rw [hrec]), ?_⟩
        refine wpIn_mono (hbody _ k v _ Wp _ hi (((hkp.mono fun _ _ h => h.elim).trans hkm (fun _ _ h => h) (fun _ _ h => h)).trans hp2 (fun _ _ h => h) (fun _ _ h => h)) hbp hkN (hA _ _ _ _ _ hbp (hA _ _ _ _ _ hbp hAv hkm) hp2) (hAx _ _ _ _ _ hbp hax hp2) _ r) ?_
        rintro ex3 a3 W3 ⟨_, _, _, _, _, rfl, hkf, hkT, hi3⟩
        have hl3 := hkf.same _ _ (by omega) hl2 rfl
        have hd3 := hkf.same _ _ (Nat.le_refl _) hd2 rfl
        have hlt3 : w.heap.size + 1 < W3.heap.size := (Array.getElem?_eq_some_iff.1 hl3).1
        refine ⟨_, _, run_endRound none hl3, rfl, ⟨hI _ _ _ hi3 (hpk _ _), ?_, (World.putObj_heap_other (by omega)).trans hd3⟩, ?_⟩
        · rw [World.putObj_heap_same hlt3, hrec]; rfl
        · have kT : ∀ (X : World) (o : Obj), Keeps T X (X.putObj (w.heap.size + 1) o) := fun X o => (hpk X o).mono fun i _ h => hT i (by rcases h with h | h <;> omega)
          exact ((hka.trans (kT _ _) (fun _ _ h => h.elim) (fun _ _ h => h)).trans hkT (fun _ _ h => h) (fun _ _ h => h)).trans (kT _ _) (fun _ _ h => h) (fun _ _ h => h)
      · rintro ex W ⟨⟨v, rfl⟩, hi, hl, hd⟩
        have hel := run_endLoop (P := P) hl (by rw [hrec]; simp)
        rw [show (rec .ready).pending = none from by rw [hrec]] at hel
        refine ⟨none, _, hel, ?_⟩
        exact ⟨_, a, L, rfl, ha, hdone _ _ (Nat.le_refl _) (hI _ _ _ hi ⟨rfl, rfl, rfl, by simp, fun i _ hn => World.putObj_heap_other (fun e => hn (.inr e))⟩) ((World.putObj_heap_other (by omega)).trans hd)⟩
  | _ => rw [e] at hc; cases hc
end Go.Q
namespace Go.Q
open Go.RowKit
/-- What the reference's try does. -/
def tryR (l : List HCall) : Nat → List Bool → Int → LS_ → List Nat → Option (List Nat)
  | 0, done, left, s, order => if left = 0 then some order else none
  | k + 1, done, left, s, order => if left = 0 then some order else (List.range l.length).findSome? fun i => match l[i]? with
    | none => none
    | some c => if done.getD i false || !countsH c then none
      else if (List.range l.length).any (fun j => match l[j]? with | some d => !done.getD j false && decide (j ≠ i) && countsH d && aheadH d c | none => false) then none
      else match stepH c s with
        | none => none
        | some s' => tryR l k ((List.range l.length).map fun j => done.getD j false || decide (j = i)) (if c.told then left - 1 else left) s' (order ++ [i])
theorem any_congr' {α : Type} {f g : α → Bool} : ∀ {l : List α}, (∀ a ∈ l, f a = g a) → l.any f = l.any g
  | [], _ => rfl
  | a :: l, h => by rw [List.any_cons, List.any_cons, h a (List.mem_cons_self ..), any_congr' fun b hb => h b (List.mem_cons_of_mem _ hb)]
theorem zip_mem {α : Type} {l : List α} {p : α × Nat} (h : p ∈ l.zipIdx) : l[p.2]? = some p.1 := by
  obtain ⟨i, hi⟩ := List.getElem?_of_mem h
  rw [List.getElem?_zipIdx] at hi
  obtain ⟨a, ha, rfl⟩ := Option.map_eq_some_iff.1 hi
  simpa using ha
theorem looked_mem {l : List HCall} {c : HCall × Nat} (h : c ∈ lookedH l) : l[c.2]? = some c.1 ∧ countsH c.1 = true := by
  obtain ⟨h1, h2⟩ := List.mem_filter.1 h
  exact ⟨zip_mem h1, h2⟩
/-- What is done, said of all calls and of those that count. -/
def DoneC (l : List HCall) (done : List Bool) (d : Nat) : Prop := ∀ j c, (lookedH l)[j]? = some c → done.getD c.2 false = d.testBit j
/-- What the reference's Order tells. -/
def orderR (l : List HCall) : List Nat × Bool × Int :=
  if 8 < l.countP countsH then ([], false, 3)
  else if l.any (fun c => countsH c && (c.told && decide (c.en < c.bg))) then ([], false, 1)
  else match tryR l l.length (List.replicate l.length false) ((l.countP fun c => countsH c && c.told : Nat) : Int) ([], []) [] with | some o => (o, true, 0) | none => ([], false, 0)
/-- What the program's stack makes of calls. -/
theorem stack_law {l : List HCall} (hl : ∀ c ∈ l, -9223372036854775808 ≤ c.op.amount ∧ c.op.amount ≤ 9223372036854775807) {same : LS_ → LS_ → Bool} (hs : ∀ a b, same a b = true → sameL a b) :
    ∃ c, c ≤ bdS (lookedH l).length ((lookedH l).length - (probH (lookedH l)).pc 0) + 1 ∧ (probH (lookedH l)).run same c [startH (lookedH l)] [] = some (match (probH (lookedH l)).sv (startH (lookedH l)) with | some o => (o, true) | none => ([], false)) :=
  Prob.run_start (probH_like fun c hc => hl c.1 (List.mem_of_getElem? (looked_mem hc).1)) hs (startH_V _)
end Go.Q
namespace Go.Q
open Go.RowKit
/-! ### bits of what is done -/
section
variable {P : Program} {w : World} {t : TypeId} {k : IntKind}
theorem run_shrN {d i : Nat} {s : Int} (hs : s = (i : Int)) (hi : i ≤ 64) : (binOp .shr t (.int .u64 ((d : Nat) : Int)) (.int k s)).run P w = .ok (.int .u64 ((d / 2 ^ i : Nat) : Int)) w := by
  have h1 : ¬ s < 0 := by omega
  have h2 : min s.toNat IntKind.u64.bits = i := by
    have : IntKind.u64.bits = 64 := rfl
    rw [this]; omega
  simp only [binOp, Op.shift, h1, if_false, h2]
  have e : ((d : Nat) : Int).fdiv (2 ^ i) = ((d / 2 ^ i : Nat) : Int) := by
    rw [show ((2 : Int) ^ i) = ((2 ^ i : Nat) : Int) from by simp]
    exact fdiv_nat d (2 ^ i)
  rw [e]
  rfl
theorem run_shl1 {i : Nat} {s : Int} (hs : s = (i : Int)) (hi : i ≤ 63) : (binOp .shl t (.int .u64 1) (.int k s)).run P w = .ok (.int .u64 ((1 <<< i : Nat) : Int)) w := by
  have h1 : ¬ s < 0 := by omega
  have h2 : min s.toNat IntKind.u64.bits = i := by
    have : IntKind.u64.bits = 64 := rfl
    rw [this]; omega
  have hp : (2 : Nat) ^ i ≤ 2 ^ 63 := Nat.pow_le_pow_right (by decide) hi
  have h63 : (2 : Nat) ^ 63 = 9223372036854775808 := by decide
  simp only [binOp, Op.shift, h1, if_false, h2]
  have h3 : (1 <<< i : Nat) = 2 ^ i := Nat.one_shiftLeft i
  have e : (1 : Int) * (2 : Int) ^ i = ((1 <<< i : Nat) : Int) := by rw [h3, Int.one_mul]; simp
  have h5 : ∀ x : Nat, x ≤ 9223372036854775808 → IntKind.u64.wrap ((x : Nat) : Int) = ((x : Nat) : Int) := fun x hx => wrap_u64 (by omega) (by omega)
  rw [e, h5 _ (by rw [h3]; exact h63 ▸ hp)]
  rfl
theorem run_orN {a b : Nat} (ha : a < 18446744073709551616) (hb : b < 18446744073709551616) : (binOp .or t (.int .u64 ((a : Nat) : Int)) (.int .u64 ((b : Nat) : Int))).run P w = .ok (.int .u64 ((a ||| b : Nat) : Int)) w := by
  have e1 : (BitVec.ofInt 64 ((a : Nat) : Int)).toNat = a := by simp only [BitVec.toNat_ofInt]; omega
  have e2 : (BitVec.ofInt 64 ((b : Nat) : Int)).toNat = b := by simp only [BitVec.toNat_ofInt]; omega
  have hlt : a ||| b < 2 ^ 64 := Nat.or_lt_two_pow ha hb
  have h64 : (2 : Nat) ^ 64 = 18446744073709551616 := by decide
  have key : ((BitVec.ofInt IntKind.u64.bits ((a : Nat) : Int)) ||| (BitVec.ofInt IntKind.u64.bits ((b : Nat) : Int))).toNat = a ||| b := by
    show ((BitVec.ofInt 64 ((a : Nat) : Int)) ||| (BitVec.ofInt 64 ((b : Nat) : Int))).toNat = _
    rw [BitVec.toNat_or, e1, e2]
  have h5 : ∀ x : Nat, x < 18446744073709551616 → IntKind.u64.wrap ((x : Nat) : Int) = ((x : Nat) : Int) := fun x hx => wrap_u64 (by omega) (by omega)
  simp only [binOp, ne_eq, not_true, if_false, Op.intBits]
  rw [key, h5 _ (h64 ▸ hlt)]
  rfl
end
theorem bit_one {d i : Nat} : (d / 2 ^ i % 2 = 1) ↔ d.testBit i = true := by
  rw [Nat.testBit_eq_decide_div_mod_eq, decide_eq_true_iff]
theorem bit_zero {d i : Nat} : (d / 2 ^ i % 2 = 0) ↔ d.testBit i = false := by
  rw [Nat.testBit_eq_decide_div_mod_eq, decide_eq_false_iff_not]
  omega
theorem or_lt {d i n : Nat} (hd : d < 2 ^ n) (hi : i < n) : d ||| (1 <<< i) < 2 ^ n := by
  refine Nat.or_lt_two_pow hd ?_
  rw [Nat.one_shiftLeft]
  exact Nat.pow_lt_pow_right (by decide) hi
/-! ### states -/
/-- A ledger of the program, all of its blocks in F. -/
def LedW (w : World) (tL : Nat) (F : Nat → Prop) (b : Nat) (s : LS_) : Prop :=
  ∃ mb kb m, Has w b (rowL [.map (some mb), .map (some kb)] tL) ∧ HasMap w mb kstr ki64 m ∧ HasMap w kb kpair keptv (s.2.map KeptM.kv) ∧ (b ≠ mb ∧ b ≠ kb ∧ mb ≠ kb) ∧ LBook m s.1 s.2 ∧ F b ∧ F mb ∧ F kb
theorem LedW.keep {w w' : World} {tL b : Nat} {F S : Nat → Prop} {s : LS_} (h : LedW w tL F b s) (K : Keeps S w w') (hS : ∀ i, F i → ¬ S i) : LedW w' tL F b s := by
  obtain ⟨mb, kb, m, h1, h2, h3, h4, h5, h6, h7, h8⟩ := h
  exact ⟨mb, kb, m, h1.keep K (hS _ h6), h2.keep K (hS _ h7), h3.keep K (hS _ h8), h4, h5, h6, h7, h8⟩
theorem LedW.mono {w : World} {tL b : Nat} {F G : Nat → Prop} {s : LS_} (h : LedW w tL F b s) (hF : ∀ i, F i → G i) : LedW w tL G b s := by
  obtain ⟨mb, kb, m, h1, h2, h3, h4, h5, h6, h7, h8⟩ := h
  exact ⟨mb, kb, m, h1, h2, h3, h4, h5, hF _ h6, hF _ h7, hF _ h8⟩
structure StC.At (w : World) (tL : Nat) (F : Nat → Prop) (x : StC) : Prop where
  row : RdT w 1 iN (.slice x.A x.order.length x.k) x.order
  inF : ∀ i, (Value.slice x.A x.order.length x.k).ownBlock = some i → F i
  led : LedW w tL F x.b x.s
theorem StC.At.keep {w w' : World} {tL : Nat} {F S : Nat → Prop} {x : StC} (h : x.At w tL F) (K : Keeps S w w') (hS : ∀ i, F i → ¬ S i) : x.At w' tL F :=
  ⟨Rd.keep (by decide) h.row K fun b hb => hS b (h.inF b hb), h.inF, h.led.keep K hS⟩
theorem StC.At.mono {w : World} {tL : Nat} {F G : Nat → Prop} {x : StC} (h : x.At w tL F) (hF : ∀ i, F i → G i) : x.At w tL G := ⟨h.row, fun i hi => hF i (h.inF i hi), h.led.mono hF⟩
/-- States whose memory lies in F. -/
structure Pool (w : World) (tL : Nat) (F : Nat → Prop) (l : List StC) : Prop where
  at_ : ∀ x ∈ l, x.At w tL F
  lt : ∀ i, F i → i < w.heap.size
theorem Pool.keep {w w' : World} {tL : Nat} {F S : Nat → Prop} {l : List StC} (h : Pool w tL F l) (K : Keeps S w w') (hS : ∀ i, F i → ¬ S i) : Pool w' tL F l :=
  ⟨fun x hx => (h.at_ x hx).keep K hS, fun i hi => Nat.lt_of_lt_of_le (h.lt i hi) K.size⟩
theorem Pool.sub {w : World} {tL : Nat} {F : Nat → Prop} {l m : List StC} (h : Pool w tL F l) (hm : ∀ x ∈ m, x ∈ l) : Pool w tL F m := ⟨fun x hx => h.at_ x (hm x hx), h.lt⟩
theorem Pool.nil (w : World) (tL : Nat) : Pool w tL none_ [] := ⟨fun x hx => (by cases hx), fun i hi => hi.elim⟩
theorem Pool.mono {w : World} {tL : Nat} {F G : Nat → Prop} {l : List StC} (h : Pool w tL F l) (hF : ∀ i, F i → G i) (hG : ∀ i, G i → i < w.heap.size) : Pool w tL G l := ⟨fun x hx => (h.at_ x hx).mono hF, hG⟩
theorem Pool.app {w : World} {tL : Nat} {F : Nat → Prop} {l m : List StC} (h : Pool w tL F l) (hm : Pool w tL F m) : Pool w tL F (l ++ m) :=
  ⟨fun x hx => (List.mem_append.1 hx).elim (h.at_ x) (hm.at_ x), h.lt⟩
/-- The first ones of an own row. -/
theorem OwnT.init {α : Type} {f : α → List Value} {sz : Nat} (hf : ∀ x, (f x).length = sz) {w : World} {base e n c : Nat} {A : Option Addr} {l m : List α} (h : OwnT w base e sz f (.slice A n c) (l ++ m)) (h0 : 0 < m.length) : OwnT w base e sz f (.slice A l.length c) l := by
  obtain ⟨hl, h⟩ := h
  refine ⟨flat_len hf l, ?_⟩
  rcases h with ⟨_, hn⟩ | ⟨g, cap, cur, hv, hb, hg, h1, h2, h3, h4⟩
  · rw [List.length_append] at hn; omega
  · injection hv with e1 e2 e3
    subst e1; subst e3
    have hle : l.length ≤ (l ++ m).length := by rw [List.length_append]; omega
    refine .inr ⟨g, c, cur, rfl, hb, hg, by omega, h2, h3, ?_⟩
    have hm : l.length * sz ≤ (l ++ m).length * sz := Nat.mul_le_mul_right _ hle
    have : cur.toList.take (l.length * sz) = (cur.toList.take ((l ++ m).length * sz)).take (l.length * sz) := by rw [List.take_take, Nat.min_eq_left hm]
    rw [this, h4, List.flatMap_append, ← flat_len hf l, List.take_left]
end Go.Q
namespace Go.Q
open Go.RowKit
/-- Calls and their numbers, out of their rows. -/
def XS (l : List HC) (a : List Nat) : List (HCall × Nat) := (l.map HC.c).zip a
section
variable {l : List HC} {a : List Nat} {t : Sr LS_} {i j n : Nat} {x y : HC}
theorem xs_len (ha : a.length = l.length) : (XS l a).length = l.length := by unfold XS; rw [List.length_zip, List.length_map]; omega
theorem xs_at (hx : l[i]? = some x) (hn : a[i]? = some n) : (XS l a)[i]? = some (x.c, n) := by
  unfold XS
  rw [List.getElem?_zip_eq_some]
  exact ⟨by rw [List.getElem?_map, hx]; rfl, hn⟩
theorem xs_some (ha : a.length = l.length) (hx : l[i]? = some x) : ∃ n, a[i]? = some n ∧ (XS l a)[i]? = some (x.c, n) := by
  have h := (List.getElem?_eq_some_iff.1 hx).1
  exact ⟨_, List.getElem?_eq_getElem (by omega), xs_at hx (List.getElem?_eq_getElem (by omega))⟩
theorem one_done {σ : Type} {P : Prob σ} {t : Sr σ} (h : t.done.testBit i = true) : P.one t i = none := by
  unfold Prob.one; rw [h]; rfl
theorem xs_wait (hx : l[i]? = some x) (ha : a.length = l.length) (d : Nat) : (probH (XS l a)).wait d i = (XS l a).zipIdx.any fun p => decide (p.2 ≠ i) && !d.testBit p.2 && aheadH p.1.1 x.c := by
  obtain ⟨n, hn, h⟩ := xs_some ha hx
  show (match (XS l a)[i]? with | some c => (XS l a).zipIdx.any fun p => decide (p.2 ≠ i) && !d.testBit p.2 && aheadH p.1.1 c.1 | none => true) = _
  rw [h]
theorem one_wait (ha : a.length = l.length) (hx : l[i]? = some x) (hy : l[j]? = some y) (hji : j ≠ i) (hb : t.done.testBit j = false) (hah : aheadH y.c x.c = true) : (probH (XS l a)).one t i = none := by
  obtain ⟨n, hn, h⟩ := xs_some ha hy
  have hw : (probH (XS l a)).wait t.done i = true := by
    rw [xs_wait hx ha, List.any_eq_true]
    refine ⟨((y.c, n), j), List.mem_of_getElem? (i := j) (by rw [List.getElem?_zipIdx, h]; simp), ?_⟩
    show (decide (j ≠ i) && !t.done.testBit j && aheadH y.c x.c) = true
    rw [hb, hah, decide_eq_true hji]; rfl
  unfold Prob.one
  rw [hw, Bool.or_true]; rfl
theorem xs_step (hx : l[i]? = some x) (ha : a.length = l.length) (s : LS_) : (probH (XS l a)).step i s = stepH x.c s := by
  obtain ⟨n, hn, h⟩ := xs_some ha hx
  show (match (XS l a)[i]? with | some c => stepH c.1 s | none => none) = _
  rw [h]
theorem one_refuse (ha : a.length = l.length) (hx : l[i]? = some x) (h : stepH x.c t.s = none) : (probH (XS l a)).one t i = none := by
  unfold Prob.one
  rw [xs_step hx ha, h]
  split <;> rfl
theorem one_go (ha : a.length = l.length) (hx : l[i]? = some x) (hn : a[i]? = some n) (hb : t.done.testBit i = false) (hw : ∀ j y, l[j]? = some y → j ≠ i → t.done.testBit j = false → aheadH y.c x.c = false) {s' : LS_} (hs : stepH x.c t.s = some s') :
    (probH (XS l a)).one t i = some ⟨t.order ++ [n], t.done ||| (1 <<< i), if x.c.told then t.left - 1 else t.left, s'⟩ := by
  have hw2 : (probH (XS l a)).wait t.done i = false := by
    rw [xs_wait hx ha, List.any_eq_false]
    intro p hp hq
    obtain ⟨⟨c, m⟩, k⟩ := p
    have hk := zip_mem hp
    rw [Bool.and_eq_true, Bool.and_eq_true] at hq
    obtain ⟨⟨q1, q2⟩, q3⟩ := hq
    have hlt := (List.getElem?_eq_some_iff.1 hk).1
    have hkl : k < l.length := by have : k < (XS l a).length := hlt; rwa [xs_len ha] at this
    obtain ⟨n2, _, h2⟩ := xs_some ha (List.getElem?_eq_getElem hkl)
    have h2' : some (c, m) = some ((l[k]).c, n2) := hk.symm.trans h2
    injection h2' with h2'
    injection h2' with e1 e2
    have := hw k l[k] (List.getElem?_eq_getElem hkl) (of_decide_eq_true q1) (by simpa using q2)
    rw [← e1] at this
    rw [show aheadH c x.c = true from q3] at this
    cases this
  have h := xs_at hx hn
  unfold Prob.one
  rw [hb, hw2, xs_step hx ha, hs]
  show some _ = _
  have e1 : (probH (XS l a)).num i = n := by show (match (XS l a)[i]? with | some c => c.2 | none => 0) = _; rw [h]
  have e2 : (probH (XS l a)).told i = x.c.told := by show (match (XS l a)[i]? with | some c => c.1.told | none => false) = _; rw [h]
  rw [e1, e2]
theorem stepH_not {c : HCall} {s : LS_} (h : c.told = false) : stepH c s = some (doS s.1 s.2 c.op, doK s.1 s.2 c.op) := by
  unfold stepH; rw [h]; rfl
theorem stepH_yes {c : HCall} {s : LS_} (h : doR s.1 s.2 c.op = c.rep) : stepH c s = some (doS s.1 s.2 c.op, doK s.1 s.2 c.op) := by
  unfold stepH; rw [decide_eq_false (fun q => q h), Bool.and_false]; rfl
theorem stepH_no {c : HCall} {s : LS_} (h0 : c.told = true) (h : doR s.1 s.2 c.op ≠ c.rep) : stepH c s = none := by
  unfold stepH; rw [h0, decide_eq_true h]; rfl
end
section
variable {σ : Type} {P : Prob σ} {t y : Sr σ} {i : Nat}
/-- How many of the first i calls can be done behind t. -/
def Prob.nth (P : Prob σ) (t : Sr σ) (i : Nat) : Nat := ((List.range i).filterMap (P.one t)).length
theorem Prob.nth_none (h : P.one t i = none) : P.nth t (i + 1) = P.nth t i := by
  unfold Prob.nth; rw [List.range_succ, List.filterMap_append, List.length_append, List.filterMap_cons, h]; rfl
theorem Prob.nth_some (h : P.one t i = some y) : P.nth t (i + 1) = P.nth t i + 1 := by
  unfold Prob.nth; rw [List.range_succ, List.filterMap_append, List.length_append, List.filterMap_cons, h]; rfl
theorem Prob.nth_at (hi : i < P.n) (h : P.one t i = some y) : (P.nexts t)[P.nth t i]? = some y := by
  unfold Prob.nexts Prob.nth
  obtain ⟨k, hk⟩ : ∃ k, P.n = i + (k + 1) := ⟨P.n - i - 1, by omega⟩
  have e : List.range P.n = List.range i ++ (i :: (List.range' (i + 1) k)) := by
    rw [hk, List.range_eq_range', List.range_eq_range', ← List.range'_append_1, Nat.zero_add, List.range'_succ]
  rw [e, List.filterMap_append, List.filterMap_cons, h, List.getElem?_append_right (Nat.le_refl _), Nat.sub_self]
  rfl
theorem Prob.nth_lt (hi : i < P.n) (h : P.one t i = some y) : P.nth t i < (P.nexts t).length := (List.getElem?_eq_some_iff.1 (P.nth_at hi h)).1
theorem Prob.nth_end (h : i = P.n) : P.nth t i = (P.nexts t).length := by subst h; rfl
end
/-- What is so of each state that the search comes to. -/
structure SrOk (X : List (HCall × Nat)) (t : Sr LS_) : Prop where
  v : (probH X).V t
  kle : t.s.2.length ≤ (probH X).pc t.done
  ole : t.order.length = (probH X).pc t.done
  dlt : t.done < 2 ^ X.length
theorem doK_le (S : List RowM) (K : List KeptM) (o : Opm) : (doK S K o).length ≤ K.length + 1 := by
  unfold doK; split
  · rw [List.length_append]; exact Nat.le_refl _
  · omega
theorem SrOk.one {X : List (HCall × Nat)} (hX : ∀ c ∈ X, -9223372036854775808 ≤ c.1.op.amount ∧ c.1.op.amount ≤ 9223372036854775807) {t t' : Sr LS_} {i : Nat} (hi : i < X.length) (h : (probH X).one t i = some t') (ht : SrOk X t) : SrOk X t' := by
  have hp := (Prob.one_pc (P := probH X) hi h).1
  refine ⟨Prob.one_V (probH_like hX) hi h ht.v, ?_, ?_, ?_⟩
  · rw [hp]
    have hs := (Prob.one_pc (P := probH X) hi h).2.2
    have hs : (match X[i]? with | some c => stepH c.1 t.s | none => none) = some t'.s := hs
    cases hc : X[i]? with
    | none => rw [hc] at hs; cases hs
    | some c =>
      rw [hc] at hs
      have hs : stepH c.1 t.s = some t'.s := hs
      unfold stepH at hs
      split at hs
      · cases hs
      · injection hs with hs
        rw [← hs]
        have := doK_le t.s.1 t.s.2 c.1.op
        have := ht.kle
        show (doK t.s.1 t.s.2 c.1.op).length ≤ _
        omega
  · rw [hp, ← ht.ole]
    unfold Prob.one at h
    split at h
    · cases h
    · obtain ⟨s', _, rfl⟩ := Option.map_eq_some_iff.1 h
      rw [List.length_append]; rfl
  · unfold Prob.one at h
    split at h
    · cases h
    · obtain ⟨s', _, rfl⟩ := Option.map_eq_some_iff.1 h
      exact or_lt ht.dlt hi
theorem SrOk.nexts {X : List (HCall × Nat)} (hX : ∀ c ∈ X, -9223372036854775808 ≤ c.1.op.amount ∧ c.1.op.amount ≤ 9223372036854775807) {t t' : Sr LS_} (h : t' ∈ (probH X).nexts t) (ht : SrOk X t) : SrOk X t' := by
  obtain ⟨i, hi, h1⟩ := List.mem_filterMap.1 h
  exact SrOk.one hX (List.mem_range.1 hi) h1 ht
theorem SrOk.start (X : List (HCall × Nat)) : SrOk X (startH X) := by
  have h0 : (probH X).pc 0 = 0 := by
    show (List.range _).countP (fun i => (0 : Nat).testBit i) = 0
    rw [List.countP_eq_zero]
    intro i _
    simp
  exact ⟨startH_V X, Nat.zero_le _, h0.symm, Nat.two_pow_pos _⟩
theorem SrOk.len {X : List (HCall × Nat)} {t : Sr LS_} (h : SrOk X t) : t.s.2.length ≤ X.length ∧ t.order.length ≤ X.length ∧ 0 ≤ t.left ∧ t.left ≤ X.length := by
  have h1 := (probH X).pc_le t.done
  have h2 := h.kle
  have h3 := h.ole
  have h4 := h.v.1
  have h5 : (probH X).lf t.done ≤ X.length := by
    have := List.countP_le_length (p := fun i => (probH X).told i && !t.done.testBit i) (l := List.range (probH X).n)
    rwa [List.length_range] at this
  have e : (probH X).n = X.length := rfl
  omega
theorem div_lt64 {d k : Nat} (h : d < 18446744073709551616) : d / 2 ^ k < 18446744073709551616 := Nat.lt_of_le_of_lt (Nat.div_le_self _ _) h
theorem shl_lt {i : Nat} (h : i ≤ 63) : 1 <<< i < 18446744073709551616 := by
  rw [Nat.one_shiftLeft]
  exact Nat.lt_of_le_of_lt (Nat.pow_le_pow_right (by decide) h) (by decide)
theorem SrOk.d64 {X : List (HCall × Nat)} {t : Sr LS_} (h : SrOk X t) (h8 : X.length ≤ 8) : t.done < 18446744073709551616 :=
  Nat.lt_of_lt_of_le h.dlt (Nat.le_trans (Nat.pow_le_pow_right (by decide) h8) (by decide))
/-- What is told: the k-th state behind t, in memory from base on. -/
def nextA (tL : Nat) (X : List (HCall × Nat)) (t : Sr LS_) (base k : Nat) (v : Value) (W : World) : Prop :=
  ∃ y : StC, v = agg y.cells ∧ ((probH X).nexts t)[k]? = some y.m ∧ y.At W tL (fun i => base ≤ i ∧ i < W.heap.size)
end Go.Q
namespace Go.Q
open Go.RowKit
/-- What holds behind each operation: B always, each held fact until its operation has come up. -/
def SH (B : World → Prop) (hs : List (Nat × (World → Prop))) (listed : Array Bool) (w : World) : Prop := B w ∧ ∀ h ∈ hs, listed.getD h.1 true = false → h.2 w
theorem SH.nil {B : World → Prop} {listed : Array Bool} {w : World} (h : B w) : SH B [] listed w := ⟨h, fun x hx => (by cases hx)⟩
theorem SH.cons {B p : World → Prop} {hs : List (Nat × (World → Prop))} {s : Nat} {listed : Array Bool} {w : World} (h : SH B hs listed w) (hp : listed.getD s true = true ∨ p w) : SH B ((s, p) :: hs) listed w :=
  ⟨h.1, fun x hx hl => by
    rcases List.mem_cons.1 hx with rfl | hx
    · rcases hp with hp | hp
      · rw [hp] at hl; cases hl
      · exact hp
    · exact h.2 x hx hl⟩
theorem getD_set_ne' {l : Array Bool} {i s : Nat} (h : i ≠ s) : (l.setIfInBounds i true).getD s true = l.getD s true := by
  simp only [Array.getD_eq_getD_getElem?, Array.getElem?_setIfInBounds_ne h]
theorem SH.unset {B : World → Prop} {hs : List (Nat × (World → Prop))} {i : Nat} {listed : Array Bool} {w : World} (hi : ∀ h ∈ hs, h.1 ≠ i) (h : SH B hs (listed.setIfInBounds i true) w) : SH B hs listed w :=
  ⟨h.1, fun x hx hl => h.2 x hx (by rw [getD_set_ne' (Ne.symm (hi x hx))]; exact hl)⟩
section
variable {P : Program} {ops : Array Oper} {Q : Exit → Act → World → Prop} {md : Region.Mode} {S : Array Bool → World → Prop}
def wpAnyS (P : Program) (md : Region.Mode) (ops : Array Oper) (Q : Exit → Act → World → Prop) (S : Array Bool → World → Prop) : Nat → Array Bool → Act → World → Prop
  | 0, listed, a, w => Region.ready md ops listed = [] ∧ Q .normal a w
  | fuel + 1, listed, a, w =>
    (Region.ready md ops listed = [] → Q .normal a w) ∧
    ∀ i ∈ Region.ready md ops listed, wpOp P ops Q i (fun a' w' => S (listed.setIfInBounds i true) w' ∧ wpAnyS P md ops Q S fuel (listed.setIfInBounds i true) a' w') a w
theorem wpAny_of_S : ∀ (fuel : Nat) (listed : Array Bool) (a : Act) (w : World), wpAnyS P md ops Q S fuel listed a w → wpAny P md ops Q fuel listed a w
  | 0, _, _, _, h => h
  | fuel + 1, _, _, _, h => ⟨h.1, fun i hi => wpOp_mono (fun a' w' h' => wpAny_of_S fuel _ a' w' h'.2) (h.2 i hi)⟩
theorem wpAnyS_done {listed : Array Bool} {a : Act} {w : World} (hr : Region.ready md ops listed = []) (h : Q .normal a w) : ∀ fuel, wpAnyS P md ops Q S fuel listed a w
  | 0 => ⟨hr, h⟩
  | _ + 1 => ⟨fun _ => h, by rw [hr]; simp⟩
/-- All of these operations wait for the operation i. -/
def waitOk (md : Region.Mode) (ops : Array Oper) (listed : Array Bool) (i : Nat) (stops : List Nat) : Bool :=
  stops.all fun s => !listed.getD s true && match ops[s]? with | some o => o.after.any (fun e => Region.binds md e && e.on == i) | none => false
theorem ready_stop {listed : Array Bool} {i j s : Nat} (hr : i ∈ Region.ready md ops listed) (hj : j ∈ Region.ready md ops listed) (h : (match ops[s]? with | some o => o.after.any (fun e => Region.binds md e && e.on == i) | none => false) = true) : j ≠ s := by
  rintro rfl
  obtain ⟨_, oj, hoj, hall⟩ := mem_ready.1 hj
  rw [hoj] at h
  simp only at h
  obtain ⟨k, hk, he⟩ := Array.any_eq_true.1 h
  rw [Bool.and_eq_true, beq_iff_eq] at he
  have h1 := hall _ (Array.getElem_mem hk) he.1
  have h0 := (mem_ready.1 hr).1
  rw [he.2] at h1
  rcases Nat.lt_or_ge i listed.size with h' | h'
  · simp [h'] at h0 h1; rw [h0] at h1; cases h1
  · simp [Array.getElem?_eq_none h'] at h1
theorem wpAnyS_first {B : World → Prop} {hs : List (Nat × (World → Prop))} {i : Nat} {oi : Oper} {v : Value} {stops : List Nat} (hi : ops[i]? = some oi) (hsel : ∀ (j : Nat) (o : Oper) cs b, ops[j]? = some o → o.op ≠ .select cs b)
    (hQ : ∀ c a w, Q (.panic c) (a.put oi.dst v) w → Q (.panic c) a w) (hns : ∀ h ∈ hs, h.1 ≠ i)
    (hst : ∀ s ∈ stops, (match ops[s]? with | some o => o.after.any (fun e => Region.binds md e && e.on == i) | none => false) = true) :
    ∀ (fuel : Nat) (listed : Array Bool) (a : Act) (w : World),
      (∀ j oj, ops[j]? = some oj → j ≠ i → listed.getD j true = false → (∀ e ∈ oj.after, Region.binds md e = true → e.on ≠ i) → oi.apart ops oj = true) →
      i ∈ Region.ready md ops listed → YieldsIf P ops (fun w => ∃ L, (∀ s ∈ stops, L.getD s true = false) ∧ SH B hs L w) oi v a → SH B hs listed w → (∀ s ∈ stops, listed.getD s true = false) →
      wpAnyS P md ops Q (SH B hs) fuel (listed.setIfInBounds i true) (a.put oi.dst v) w → wpAnyS P md ops Q (SH B hs) (fuel + 1) listed a w := by
  intro fuel
  have ss : ∀ {listed : Array Bool} {w : World}, SH B hs listed w → SH B hs (listed.setIfInBounds i true) w := fun {listed w} h =>
    ⟨h.1, fun x hx hl => h.2 x hx (by rw [getD_set_ne' (Ne.symm (hns x hx))] at hl; exact hl)⟩
  induction fuel with
  | zero =>
    intro listed a w _ hr hy hS hg H
    refine ⟨fun h => (by rw [h] at hr; cases hr), fun j hj => ?_⟩
    by_cases hji : j = i
    · subst hji; exact hy.wpOp hi ⟨listed, hg, hS⟩ ⟨ss hS, H⟩
    · have := ready_mono hj hji
      rw [H.1] at this
      cases this
  | succ fuel ih =>
    intro listed a w hfree hr hy hS hg H
    refine ⟨fun h => (by rw [h] at hr; cases hr), fun j hj => ?_⟩
    by_cases hji : j = i
    · subst hji; exact hy.wpOp hi ⟨listed, hg, hS⟩ ⟨ss hS, H⟩
    · have h1 := H.2 j (ready_mono hj hji)
      obtain ⟨hjun, oj, hoj, hall⟩ := mem_ready.1 hj
      have hnot : ∀ e ∈ oj.after, Region.binds md e = true → e.on ≠ i := fun e he hb heq => by
        have h1 := hall e he hb
        have h0 := (mem_ready.1 hr).1
        rw [heq] at h1
        rcases Nat.lt_or_ge i listed.size with h' | h'
        · simp [h'] at h0 h1; rw [h0] at h1; cases h1
        · simp [Array.getElem?_eq_none h'] at h1
      have h2 := wpOp_putIf hoj (hfree j oj hoj hji hjun hnot) (fun cs b => hsel i oi cs b hi) (fun cs b => hsel j oj cs b hoj) hQ hy h1
      have hfree' : ∀ k ok, ops[k]? = some ok → k ≠ i → (listed.setIfInBounds j true).getD k true = false →
          (∀ e ∈ ok.after, Region.binds md e = true → e.on ≠ i) → oi.apart ops ok = true := fun k ok hk hki hun hno => by
        refine hfree k ok hk hki ?_ hno
        by_cases hjk : j = k
        · subst hjk; exact hjun
        · rw [getD_set_ne' hjk] at hun; exact hun
      refine wpOp_mono (fun a' w' h3 => ?_) h2
      have hc : (listed.setIfInBounds i true).setIfInBounds j true = (listed.setIfInBounds j true).setIfInBounds i true := Array.setIfInBounds_comm _ _ (Ne.symm hji)
      have hS2 : SH B hs (listed.setIfInBounds j true) w' := SH.unset hns (hc ▸ h3.2.1)
      refine ⟨hS2, ih (listed.setIfInBounds j true) a' w' hfree' (ready_mono hr (Ne.symm hji)) h3.1 hS2 (fun s hs' => ?_) ?_⟩
      · rw [getD_set_ne' (ready_stop hr hj (hst s hs'))]; exact hg s hs'
      · rw [← hc]
        exact h3.2.2
theorem wpAnyS_all {rs : List Nat} {fuel : Nat} {listed : Array Bool} {a : Act} {w : World} (hr : Region.ready md ops listed = rs) (hne : rs ≠ [])
    (h : ∀ i ∈ rs, wpOp P ops Q i (fun a' w' => S (listed.setIfInBounds i true) w' ∧ wpAnyS P md ops Q S fuel (listed.setIfInBounds i true) a' w') a w) : wpAnyS P md ops Q S (fuel + 1) listed a w :=
  ⟨fun h0 => absurd (hr ▸ h0) hne, hr ▸ h⟩
end
def DrS (P : Program) (n : Nat) (os : Array Oper) (B : World → Prop) (hs : List (Nat × (World → Prop))) (fuel : Nat) (is : List Nat) (K : Loc → World → Prop) (L : Loc) (w : World) : Prop :=
  SH B hs (marks os.size is) w → ∀ a, Rep n a L → wpAnyS P .any os (drPost n K) (SH B hs) fuel (marks os.size is) a w
/-- The operation i comes up. -/
def Dr1 (P : Program) (n : Nat) (os : Array Oper) (B : World → Prop) (hs : List (Nat × (World → Prop))) (fuel : Nat) (is : List Nat) (i : Nat) (K : Loc → World → Prop) (L : Loc) (w : World) : Prop :=
  SH B hs (marks os.size is) w → ∀ a, Rep n a L → wpOp P os (drPost n K) i (fun a' w' => SH B hs (marks os.size (i :: is)) w' ∧ wpAnyS P .any os (drPost n K) (SH B hs) fuel (marks os.size (i :: is)) a' w') a w
section
variable {P : Program} {n : Nat} {os : Array Oper} {K : Loc → World → Prop} {L L' : Loc} {w : World} {i : Nat} {d : Option Tmp} {B : World → Prop} {hs : List (Nat × (World → Prop))} {fuel : Nat} {is : List Nat}
theorem DrS.keep {R : Loc} (hr : restrict L (R.map Prod.fst) = some R) (h : DrS P n os B hs fuel is K R w) : DrS P n os B hs fuel is K L w :=
  fun hS a ha => h hS a (ha.sub (restrict_sub hr))
theorem DrS.done (hr : Region.ready .any os (marks os.size is) = []) (h : K L w) : DrS P n os B hs fuel is K L w :=
  fun _ _ ha => wpAnyS_done hr ⟨L, ha, h⟩ _
theorem DrS.split (b : Bool) (ht : b = true → DrS P n os B hs fuel is K L w) (hf : b = false → DrS P n os B hs fuel is K L w) : DrS P n os B hs fuel is K L w := by
  cases b
  · exact hf rfl
  · exact ht rfl
/-- What a step asks of the numbers alone: none of the held facts hangs on it. -/
def takeOkS (os : Array Oper) (hn : List Nat) (is : List Nat) (i : Nat) : Bool := takeOk os is i && !hn.contains i
theorem hn_ne {i : Nat} (h : (!(hs.map Prod.fst).contains i) = true) : ∀ x ∈ hs, x.1 ≠ i := by
  rintro x hx rfl
  have h1 : (hs.map Prod.fst).contains x.1 = true := by
    rw [List.contains_iff_mem]; exact List.mem_map.2 ⟨x, hx, rfl⟩
  rw [h1] at h
  cases h
theorem DrS.first {v : Value} (stops : List Nat) (hk : takeOkS os (hs.map Prod.fst) is i = true) (hw0 : waitOk .any os (marks os.size is) i stops = true) {o : Oper} (ho : os[i]? = some o)
    (hy : ∀ a, Rep n a L → YieldsIf P os (fun w => ∃ L, (∀ s ∈ stops, L.getD s true = false) ∧ SH B hs L w) o v a) (hset : setL n o.dst v L = some L')
    (hn : DrS P n os B hs fuel (i :: is) K L' w) : DrS P n os B hs (fuel + 1) is K L w := by
  intro hS a ha
  simp only [takeOkS, takeOk, Bool.and_eq_true] at hk
  obtain ⟨⟨hk1, hk2, hk3⟩, hk4⟩ := hk
  unfold waitOk at hw0
  have hst : ∀ s ∈ stops, _ := List.all_eq_true.1 hw0
  have hne := hn_ne hk4
  have hS2 : SH B hs (marks os.size (i :: is)) w := ⟨hS.1, fun x hx hl => hS.2 x hx (by
    have : (marks os.size (i :: is)).getD x.1 true = (marks os.size is).getD x.1 true := getD_set_ne' (Ne.symm (hne x hx))
    rw [this] at hl; exact hl)⟩
  refine wpAnyS_first ho (Region.noSelect_spec hk1) (fun c a w h => by obtain ⟨_, _, q⟩ := h; exact q.elim) hne (fun s hs' => ?_) fuel _ a w (Region.free_spec ho hk2) (by simpa using hk3) (hy a ha) hS (fun s hs' => ?_) (hn hS2 _ (ha.setL hset))
  · have := hst s hs'
    rw [Bool.and_eq_true] at this
    exact this.2
  · have := hst s hs'
    rw [Bool.and_eq_true] at this
    simpa using this.1
theorem DrS.take {v : Value} (hk : takeOkS os (hs.map Prod.fst) is i = true) (h0 : okAt os L i = true) (hr : ∀ w', B w' → Runs P L (opn os i) w' v w') (hd : dst? os i = some d) (hset : setL n d v L = some L')
    (hn : DrS P n os B hs fuel (i :: is) K L' w) : DrS P n os B hs (fuel + 1) is K L w := by
  obtain ⟨ho, hw, hp, hkn⟩ := at?_spec (at?_opn h0)
  have hd' : (opn os i).dst = d := by simpa [dst?, ho] using hd
  refine DrS.first [] hk rfl ho (v := v) (fun a ha => .inl ⟨wants_wanted ha hw, fun w' hw' => ?_⟩) (by rw [hd']; exact hset) hn
  obtain ⟨_, _, h⟩ := hw'
  rw [exec_known ha hp hkn]; exact hr w' h.1
/-- What is read is held until the operation s comes up, which waits for the reading. -/
theorem DrS.takeH {v : Value} {s : Nat} {p : World → Prop} (hm : (s, p) ∈ hs) (hk : takeOkS os (hs.map Prod.fst) is i = true) (hw0 : waitOk .any os (marks os.size is) i [s] = true) (h0 : okAt os L i = true) (hr : ∀ w', B w' → p w' → Runs P L (opn os i) w' v w') (hd : dst? os i = some d) (hset : setL n d v L = some L')
    (hn : DrS P n os B hs fuel (i :: is) K L' w) : DrS P n os B hs (fuel + 1) is K L w := by
  obtain ⟨ho, hw, hp, hkn⟩ := at?_spec (at?_opn h0)
  have hd' : (opn os i).dst = d := by simpa [dst?, ho] using hd
  refine DrS.first [s] hk hw0 ho (v := v) (fun a ha => .inl ⟨wants_wanted ha hw, fun w' hw' => ?_⟩) (by rw [hd']; exact hset) hn
  obtain ⟨l, hl, h⟩ := hw'
  rw [exec_known ha hp hkn]; exact hr w' h.1 (h.2 _ hm (hl s (List.mem_singleton.2 rfl)))
theorem DrS.unwanted (hk : takeOkS os (hs.map Prod.fst) is i = true) {o : Oper} (ho : os[i]? = some o) (hw : wants os L o = some false) (hset : setL n o.dst undef L = some L')
    (hn : DrS P n os B hs fuel (i :: is) K L' w) : DrS P n os B hs (fuel + 1) is K L w :=
  DrS.first [] hk rfl ho (v := undef) (fun a ha => .inr ⟨wants_wanted ha hw, rfl⟩) hset hn
def takesS (P : Program) (n : Nat) (os : Array Oper) (hn : List Nat) : List Nat → List Nat → Loc → Option Loc
  | [], _, L => some L
  | i :: todo, is, L => bif takeOkS os hn is i then
      match os[i]? with
      | none => none
      | some o => match wants os L o with
        | none => none
        | some false => match setL n o.dst undef L with
          | some L' => takesS P n os hn todo (i :: is) L'
          | none => none
        | some true => match next? P L o with
          | some (.value v) => match setL n o.dst v L with
            | some L' => takesS P n os hn todo (i :: is) L'
            | none => none
          | _ => none
    else none
theorem DrS.takes_go : ∀ (todo is : List Nat) (fuel : Nat) (L L1 : Loc), takesS P n os (hs.map Prod.fst) todo is L = some L1 → DrS P n os B hs fuel (todo.reverse ++ is) K L1 w → DrS P n os B hs (fuel + todo.length) is K L w
  | [], is, fuel, L, L1, h, hn => by simp only [takesS, Option.some.injEq] at h; subst h; simpa using hn
  | i :: todo, is, fuel, L, L1, h, hn => by
    simp only [takesS] at h
    cases hk : takeOkS os (hs.map Prod.fst) is i with
    | false => rw [hk] at h; cases h
    | true =>
      rw [hk] at h
      simp only [cond_true] at h
      have hn' : DrS P n os B hs fuel (todo.reverse ++ (i :: is)) K L1 w := by simpa using hn
      cases ho : os[i]? with
      | none => rw [ho] at h; cases h
      | some o =>
        rw [ho] at h
        simp only at h
        rw [show fuel + (i :: todo).length = (fuel + todo.length) + 1 from by simp; omega]
        cases hw : wants os L o with
        | none => rw [hw] at h; cases h
        | some b =>
          rw [hw] at h
          cases b with
          | false =>
            simp only at h
            cases hset : setL n o.dst undef L with
            | none => rw [hset] at h; cases h
            | some L' => rw [hset] at h; exact DrS.unwanted hk ho hw hset (DrS.takes_go todo (i :: is) fuel L' L1 h hn')
          | true =>
            simp only at h
            cases hx : next? P L o with
            | none => rw [hx] at h; cases h
            | some x =>
              rw [hx] at h
              cases x with
              | value v =>
                simp only at h
                cases hset : setL n o.dst v L with
                | none => rw [hset] at h; cases h
                | some L' =>
                  rw [hset] at h
                  have hd : dst? os i = some o.dst := by simp [dst?, ho]
                  have hop : opn os i = o := by simp [opn, ho]
                  have hok : okAt os L i = true := by
                    unfold next? at hx
                    cases hc : plainOp o.op && knows L o.op.operands.toList with
                    | false => rw [hc] at hx; cases hx
                    | true => simp [okAt, at?, ho, hw, hc]
                  exact DrS.take hk hok (fun w' _ => by rw [hop]; exact Runs.pure hx) hd hset (DrS.takes_go todo (i :: is) fuel L' L1 h hn')
              | _ => cases h
theorem DrS.takes {fuel' : Nat} {is' : List Nat} (todo : List Nat) (R : Loc) (hf : Nat.beq (fuel' + todo.length) fuel = true) (hi : todo.reverse ++ is = is')
    (h : (match takesS P n os (hs.map Prod.fst) todo is L with | some L1 => restrict L1 (R.map Prod.fst) | none => none) = some R) (hn : DrS P n os B hs fuel' is' K R w) : DrS P n os B hs fuel is K L w := by
  cases h1 : takesS P n os (hs.map Prod.fst) todo is L with
  | none => rw [h1] at h; cases h
  | some L1 =>
    rw [h1] at h
    have := Nat.eq_of_beq_eq_true hf
    subst this
    subst hi
    exact DrS.takes_go todo is fuel' L L1 h1 (DrS.keep h hn)
/-- Whichever of those that may come up comes up. -/
theorem DrS.one (hr : Region.ready .any os (marks os.size is) = [i]) (h : Dr1 P n os B hs fuel is i K L w) : DrS P n os B hs (fuel + 1) is K L w := by
  intro hS a ha
  refine wpAnyS_all hr (by simp) fun q hq => ?_
  obtain rfl : q = i := by simpa using hq
  exact h hS a ha
theorem DrS.two {j : Nat} (hr : Region.ready .any os (marks os.size is) = [i, j]) (h : Dr1 P n os B hs fuel is i K L w) (h2 : Dr1 P n os B hs fuel is j K L w) : DrS P n os B hs (fuel + 1) is K L w := by
  intro hS a ha
  refine wpAnyS_all hr (by simp) fun q hq => ?_
  have hq : q = i ∨ q = j := by simpa using hq
  rcases hq with rfl | rfl
  · exact h hS a ha
  · exact h2 hS a ha
theorem DrS.three {j k : Nat} (hr : Region.ready .any os (marks os.size is) = [i, j, k]) (h : Dr1 P n os B hs fuel is i K L w) (h2 : Dr1 P n os B hs fuel is j K L w) (h3 : Dr1 P n os B hs fuel is k K L w) : DrS P n os B hs (fuel + 1) is K L w := by
  intro hS a ha
  refine wpAnyS_all hr (by simp) fun q hq => ?_
  have hq : q = i ∨ q = j ∨ q = k := by simpa using hq
  rcases hq with rfl | rfl | rfl
  · exact h hS a ha
  · exact h2 hS a ha
  · exact h3 hS a ha
theorem Dr1.call {f : Nat} {args : Array Value} {R : Ending → World → Prop} (hc : call? P os L i = some (f, args)) (hd : dst? os i = some d) (C : Calls P f args w R)
    (h : ∀ e w', R e w' → ∃ v L', e = .returned v ∧ setL n d v L = some L' ∧ SH B hs (marks os.size (i :: is)) w' ∧ DrS P n os B hs fuel (i :: is) K L' w') : Dr1 P n os B hs fuel is i K L w := by
  intro hS a ha
  unfold call? at hc
  cases h0 : at? os L i with
  | none => rw [h0] at hc; cases hc
  | some o =>
    rw [h0] at hc
    simp only at hc
    cases hx : next? P L o with
    | none => rw [hx] at hc; cases hc
    | some x =>
      rw [hx] at hc
      cases x with
      | enter f' args' =>
        simp only [Option.some.injEq, Prod.mk.injEq] at hc
        obtain ⟨rfl, rfl⟩ := hc
        obtain ⟨ho, hw, _, _⟩ := at?_spec h0
        have hd' : o.dst = d := by simpa [dst?, ho] using hd
        unfold wpOp
        simp only [ho, wants_wanted ha hw, if_true, Oper.wp, next?_run ha hx, Oper.upon]
        refine .inl (Calls.mono C fun e w' he => ?_)
        obtain ⟨v, L', rfl, hset, hS', hn⟩ := h e w' he
        exact ⟨hS', hn hS' _ (ha.setL (by rw [hd']; exact hset))⟩
      | _ => cases hc
theorem Dr1.go {v : Value} {w' : World} (h0 : okAt os L i = true) (hx : Runs P L (opn os i) w v w') (hd : dst? os i = some d) (hset : setL n d v L = some L')
    (hS' : SH B hs (marks os.size (i :: is)) w') (hn : DrS P n os B hs fuel (i :: is) K L' w') : Dr1 P n os B hs fuel is i K L w := by
  intro hS a ha
  obtain ⟨ho, hw, hp, hkn⟩ := at?_spec (at?_opn h0)
  have hd' : (opn os i).dst = d := by simpa [dst?, ho] using hd
  unfold Runs at hx
  unfold wpOp
  simp only [ho, wants_wanted ha hw, if_true, Oper.wp, exec_known ha hp hkn, hx, Oper.upon]
  exact .inl ⟨hS', hn hS' _ (ha.setL (by rw [hd']; exact hset))⟩
theorem Dr1.goU {w' : World} (h0 : okAt os L i = true) (hx : RunsU P L (opn os i) w w') (hd : dst? os i = some d) (hset : setL n d undef L = some L')
    (hS' : SH B hs (marks os.size (i :: is)) w') (hn : DrS P n os B hs fuel (i :: is) K L' w') : Dr1 P n os B hs fuel is i K L w := by
  intro hS a ha
  obtain ⟨ho, hw, hp, hkn⟩ := at?_spec (at?_opn h0)
  have hd' : (opn os i).dst = d := by simpa [dst?, ho] using hd
  unfold RunsU at hx
  unfold wpOp
  simp only [ho, wants_wanted ha hw, if_true, Oper.wp, exec_known ha hp hkn, hx, Oper.upon]
  exact .inl ⟨hS', hn hS' _ (ha.setL (by rw [hd']; exact hset))⟩
theorem Dr1.put {t : TypeId} {b off : Nat} {v : Value} {xs ys : List Value} {E : TypeId} (h0 : okAt os L i = true) (h : st? L (opn os i) = some (t, ⟨b, off, none⟩, v)) (H : Has w b (rowL xs E)) (hst : storeC P t xs off v = some ys)
    (hd : dst? os i = some d) (hset : setL n d undef L = some L') (hn : ∀ w', Has w' b (rowL ys E) → Keeps (fun j => j = b) w w' → SH B hs (marks os.size (i :: is)) w' ∧ DrS P n os B hs fuel (i :: is) K L' w') : Dr1 P n os B hs fuel is i K L w := by
  obtain ⟨hS, hD⟩ := hn _ (H.set ys) (Keeps.setRow w b ⟨ys⟩)
  exact Dr1.goU h0 (RunsU.stored h H hst) hd hset hS hD
theorem Dr1.new {o : Obj} {V : Nat → Value} {Ln : Nat → Loc} (h : newAt? P os L i = some (o, fun b => some (V b))) (hd : dst? os i = some d) (hset : ∀ b, setL n d (V b) L = some (Ln b))
    (hn : ∀ b w', b = w.heap.size → Has w' b o → Keeps none_ w w' → w'.heap.size = b + 1 → SH B hs (marks os.size (i :: is)) w' ∧ DrS P n os B hs fuel (i :: is) K (Ln b) w') : Dr1 P n os B hs fuel is i K L w := by
  unfold newAt? at h
  cases h0 : at? os L i with
  | none => rw [h0] at h; cases h
  | some o' =>
    rw [h0] at h
    simp only at h
    have hopn : opn os i = o' := by have := (at?_spec h0).1; simp [opn, this]
    have hok : okAt os L i = true := by simp [okAt, h0]
    have hrun : Runs P L (opn os i) w (V w.heap.size) (w.alloc o) := by rw [hopn]; exact new?_run _ w h rfl
    obtain ⟨h1, h2⟩ := hn w.heap.size _ rfl (Has.new w o) (Keeps.alloc w o) (by simp)
    exact Dr1.go hok hrun hd (hset _) h1 h2
end
section
variable {P : Program} {n : Nat} {Q : Exit → Loc → World → Prop} {L : Loc} {w : World} {f : Func} {p : List Nat}
theorem q_drawS (fuel : Nat) (hm : P.follows .mixedOrders = true) (hc : isDraw (cd f p) = true) (hf : Nat.beq (opsOf (cd f p)).size fuel = true)
    (h : ∀ w', Keeps none_ w w' → w'.heap.size = w.heap.size → w'.heap = w.heap → ∃ B hs, SH B hs (marks (opsOf (cd f p)).size []) w' ∧ DrS P n (opsOf (cd f p)) B hs fuel [] (Q .normal) L w') : wp P n (cd f p) Q L w := by
  intro a ha
  cases e : cd f p with
  | region id os dr =>
    rw [e] at hc h hf
    cases dr with
    | false => cases hc
    | true =>
      simp only [opsOf] at h hf
      have hfu := Nat.eq_of_beq_eq_true hf
      obtain ⟨B, hs, hS, hD⟩ := h { w with drawn := w.drawn + 1 } (Keeps.refl w).drew rfl rfl
      refine Go.wp_mono (Go.wp_region_any (Q := drPost n (Q .normal)) hm ?_) fun ex a' w' hq => ?_
      · have := wpAny_of_S _ _ _ _ (hD hS a ha)
        rw [← hfu] at this
        exact this
      · obtain ⟨L', r, q⟩ := hq
        cases ex with
        | normal => exact ⟨L', r, q⟩
        | _ => exact q.elim
  | _ => rw [e] at hc; cases hc
end
theorem qr_drawS {F : Fence} {ds : List Deferred} {P : Program} {m n : Nat} {Q : List Deferred → Exit → Loc → World → Prop} {L : Loc} {w : World} {f : Func} {p : List Nat} (hF : Open F) (fuel : Nat) (hm : P.follows .mixedOrders = true) (hc : isDraw (cd f p) = true) (hd : noDefer (opsOf (cd f p)) = true) (hf : Nat.beq (opsOf (cd f p)).size fuel = true)
    (h : ∀ w', Keeps none_ w w' → w'.heap.size = w.heap.size → w'.heap = w.heap → ∃ B hs, SH B hs (marks (opsOf (cd f p)).size []) w' ∧ DrS P n (opsOf (cd f p)) B hs fuel [] (Q ds .normal) L w') : wpR F P m n (cd f p) Q ds L w := by
  intro a ha
  cases e : cd f p with
  | region id os dr =>
    rw [e] at hc h hf hd
    cases dr with
    | false => cases hc
    | true =>
      simp only [opsOf] at h hf hd
      have hfu := Nat.eq_of_beq_eq_true hf
      obtain ⟨B, hs, hS, hD⟩ := h { w with drawn := w.drawn + 1 } (Keeps.refl w).drew rfl rfl
      have hA := wpAny_of_S _ _ _ _ (hD hS a ha)
      rw [← hfu] at hA
      refine wpIn_region_draw fun t => ?_
      simp only [Region.schedule, hm, Bool.true_or, if_true]
      exact opsIn hF m ds (noDefer_op hd) (fun a w q => drPost_fin q) drPost_no _ _ _ (wpAny_sound os.size t _ a _ hA)
  | _ => rw [e] at hc; cases hc
section
variable {F : Fence} {ds : List Deferred} {P : Program} {m n : Nat} {Q : List Deferred → Exit → Loc → World → Prop} {L : Loc} {w : World} {f : Func} {p : List Nat}
theorem qr_scope (hc : isScope (cd f p) = true) (h : wpR Fence.wide P m n (cd f (0 :: p)) (fun ds => nogo (Q ds)) ds L w) : wpR Fence.wide P m n (cd f p) Q ds L w := by
  intro a ha
  have h1 := h a ha
  simp only [cd] at h1
  cases e : cd f p with
  | scope x =>
    rw [e] at h1
    simp only [sub] at h1
    refine wpIn_wide.2 (Go.wp_scope_straight (Go.wp_mono (wpIn_wide.1 h1) fun ex a' w' hq => ?_))
    obtain ⟨d2, a2, L', rfl, r, q⟩ := hq
    cases ex with
    | goto l => exact q.elim
    | _ => exact ⟨d2, a2, L', rfl, r, q⟩
  | _ => rw [e] at hc; cases hc
theorem qr_label (hc : isLabel (cd f p) = true) (h : Q ds .normal L w) : wpR F P m n (cd f p) Q ds L w := by
  intro a ha
  cases e : cd f p with
  | label l => exact wpIn_label ⟨ds, a, L, rfl, ha, h⟩
  | _ => rw [e] at hc; cases hc
end
end Go.Q
namespace Go.Proofs.YtnbcghbgeiocbaaDoor
open Go.Q Go.RowKit
theorem tyI : ElemTy Tryd.prog 35 3 1 8 := elemTy (by kernel_rfl)

theorem CloneI_nil (w : World) (n c : Nat)  : Calls Tryd.prog 51 ⟨[(Value.slice none n c)]⟩ w (fun e w' => e = .returned (.slice none 0 0) ∧ Keeps none_ w w') := by
 have K0 : Keeps none_ w w := Keeps.refl w
 refine q_calls Tryd.func51 (by kernel_rfl) (by kernel_rfl) ?_
 refine qs ?_
 refine qg ?_
 refine og 1 [(0, (Value.slice none n c)), (2, (Value.slice none 0 0))] 1 ?_
 refine od ?_
 refine qs ?_
 refine qs ?_
 refine qg ?_
 refine og 2 [(0, (Value.slice none n c)), (2, (Value.slice none 0 0)), (4, (Value.bool true))] 2 ?_
 refine od ?_
 refine q_then (o := .tmp 4) (by kernel_rfl) rfl ?_
 refine qs ?_
 refine qg ?_
 refine og 1 [(0, (Value.slice none n c)), (2, (Value.slice none 0 0))] 1 ?_
 refine od ?_
 refine q_ret (by kernel_rfl) ?_
 refine ⟨(Value.slice none 0 0), retv_tmp rfl rfl, ?_⟩
 exact ⟨rfl, K0⟩

theorem CloneI_some (w : World) (a : Addr) (c : Nat) (l : List Nat) (hv : RdT w 1 iN (.slice (some a) l.length c) l) (hl : l.length ≤ 1000) : Calls Tryd.prog 51 ⟨[(Value.slice (some a) l.length c)]⟩ w (fun e w' => ∃ v', e = .returned v' ∧ Keeps none_ w w' ∧ OwnT w' w.heap.size 3 1 iN v' ([] ++ l)) := by
 have K0 : Keeps none_ w w := Keeps.refl w
 refine q_calls Tryd.func51 (by kernel_rfl) (by kernel_rfl) ?_
 refine qs ?_
 refine qg ?_
 refine og 1 [(0, (Value.slice (some a) l.length c)), (2, (Value.slice none 0 0))] 1 ?_
 refine od ?_
 refine qs ?_
 refine qs ?_
 refine qg ?_
 refine og 2 [(0, (Value.slice (some a) l.length c)), (2, (Value.slice none 0 0)), (4, (Value.bool false))] 2 ?_
 refine od ?_
 refine q_else (o := .tmp 4) (by kernel_rfl) rfl ?_
 refine q_skip (by kernel_rfl) ?_
 refine qs ?_
 refine qg ?_
 refine Ops.new (o := rowL [] 3) (V := fun b => (Value.slice (some ⟨b, 0, none⟩) 0 0)) (by kernel_rfl) (d := (some 5)) (by kernel_rfl) (fun b => rfl) (fun b1 w2 hb3 H4 K5 hs6 => ?_)
 have nb1 : w.heap.size ≤ b1 := by have := K0.size; omega
 replace K0 := K0.t0 K5
 clear K5 hs6
 refine og 1 [(2, (Value.slice none 0 0)), (5, (Value.slice (some ⟨b1, 0, none⟩) 0 0)), (6, (Value.slice (some a) l.length c))] 2 ?_
 have hE7 : OwnT w2 w.heap.size 3 1 iN (Value.slice (some ⟨b1, 0, none⟩) 0 0) [] := own_empty2 H4 nb1
 obtain ⟨v8, w9, hr10, hO11, hK12, hg13⟩ := OwnT.app (ty := 35) iN_one iN_cells tyI hE7 (Rd.keep0 (by omega) hv K0) (by first | omega | (simp only [List.length_nil]; omega)) (by first | omega | (simp only [List.length_nil]; omega)) K0.size
 obtain ⟨A15, c16, rfl⟩ := RdT.form iN_one (by decide) (OwnT.rd hO11)
 have K14 := hK12
 refine Ops.go (v := (Value.slice A15 (([] ++ l).length) c16)) (by kernel_rfl) (Runs.append (ts := #[35, 35]) (ty := 35) (vs := [(Value.slice (some ⟨b1, 0, none⟩) 0 0), (Value.slice (some a) l.length c)]) (by kernel_rfl) hr10) (d := (some 7)) (by kernel_rfl) rfl ?_
 replace K0 := K0.trans K14 (U := none_) (fun i h1 h2 => h2) (fun i h1 h2 => by have h2 : ((Value.slice (some ⟨b1, 0, none⟩) 0 0)).ownBlock = some i := h2; exfalso; have := (World.ownsRow.lt hE7 i h2).1; omega)
 clear hE7
 clear K14 hr10 hK12 hg13
 refine og 1 [(2, (Value.slice A15 (([] ++ l).length) c16))] 4 ?_
 refine od ?_
 refine q_ret (by kernel_rfl) ?_
 refine ⟨(Value.slice A15 (([] ++ l).length) c16), retv_tmp rfl rfl, ?_⟩
 exact ⟨_, rfl, K0, hO11⟩

theorem CloneI_calls (w : World) (A : Option Addr) (c : Nat) (l : List Nat) (hv : RdT w 1 iN (.slice A l.length c) l) (hl : l.length ≤ 1000) : Calls Tryd.prog 51 ⟨[.slice A l.length c]⟩ w (fun e w' => ∃ A' c', e = .returned (.slice A' l.length c') ∧ Keeps none_ w w' ∧ OwnT w' w.heap.size 3 1 iN (.slice A' l.length c') l) := by
 cases A with
 | none =>
  refine (CloneI_nil w l.length c).mono ?_
  rintro e w' ⟨he, hk⟩
  have h0 : l = [] := by have h1 := Rd.none_nil2 hv; cases l with | nil => rfl | cons x l => simp [iN] at h1
  subst h0
  exact ⟨none, 0, he, hk, OwnT.nil _ _ _ _ _⟩
 | some a =>
  refine (CloneI_some w a c l hv hl).mono ?_
  rintro e w' ⟨v', he, hk, hO⟩
  rw [List.nil_append] at hO
  obtain ⟨A', c', rfl⟩ := RdT.form iN_one (by decide) (OwnT.rd hO)
  exact ⟨A', c', he, hk, hO⟩

theorem next_calls (w : World) (u1 u2 u3 u4 u5 u6 : Value)  : Calls Tryd.prog 33 ⟨[(agg [u1, u2]), (agg [u3, u4, u5, u6])]⟩ w (fun e w' => ∃ b2 b3, e = .returned (.func (.func 47) ⟨[]⟩ ⟨[ptr b2, ptr b3]⟩) ∧ Keeps none_ w w' ∧ Has w' b2 (rowL [u1, u2] 68) ∧ Has w' b3 (rowL [u3, u4, u5, u6] 73) ∧ w.heap.size ≤ b2 ∧ w.heap.size ≤ b3 ∧ b2 ≠ b3) := by
 have K0 : Keeps none_ w w := Keeps.refl w
 refine q_calls Tryd.func33 (by kernel_rfl) (by kernel_rfl) ?_
 refine qs ?_
 refine qg ?_
 refine Ops.new (o := rowL [u1, u2] 68) (V := fun b => (ptr b)) (by kernel_rfl) (d := (some 2)) (by kernel_rfl) (fun b => rfl) (fun b1 w2 hb3 H4 K5 hs6 => ?_)
 have nb1 : w.heap.size ≤ b1 := by have := K0.size; omega
 replace K0 := K0.t0 K5
 clear K5 hs6
 refine Ops.new (o := rowL [u3, u4, u5, u6] 73) (V := fun b => (ptr b)) (by kernel_rfl) (d := (some 3)) (by kernel_rfl) (fun b => rfl) (fun b7 w8 hb9 H10 K11 hs12 => ?_)
 have lb7b1 : b1 < b7 := by have := H4.lt; omega
 have nb7 : w.heap.size ≤ b7 := by have := K0.size; omega
 replace K0 := K0.t0 K11
 replace H4 := H4.keep K11 (fun h => h)
 clear K11 hs12
 refine og 1 [(2, (ptr b1)), (3, (ptr b7)), (4, Value.nilFunc)] 3 ?_
 refine od ?_
 refine qs ?_
 refine qg ?_
 refine og 2 [(4, (Value.func (Fn.func 47) ⟨[]⟩ ⟨[(ptr b1), (ptr b7)]⟩))] 2 ?_
 refine od ?_
 refine q_ret (by kernel_rfl) ?_
 refine ⟨(Value.func (Fn.func 47) ⟨[]⟩ ⟨[(ptr b1), (ptr b7)]⟩), retv_tmp rfl rfl, ?_⟩
 exact ⟨_, _, rfl, K0, H4, H10, nb1, nb7, by omega⟩
end Go.Proofs.YtnbcghbgeiocbaaDoor
namespace Go.Proofs.YtnbcghbgeiocbaaDoor
open Go.Q Go.RowKit

theorem next_tail (w : World) (ln m0 b2 b3 b5 b10 i nl : Nat) (LA : Option Addr) (lc : Nat) (x : HC) (A : Option Addr) (n c d lb : Nat) (lf : Int) (T : Nat → Prop) (J : World → Prop) {Q : List Deferred → Exit → Go.Q.Loc → World → Prop} (Hx5 : Has w b5 (rowL [(i64 x.c.op.kind), (Value.string (str x.c.op.frm)), (Value.string (str x.c.op.to)), (i64 x.c.op.amount), (Value.string (str x.c.op.key)), (i64 x.c.op.slot), (i64 x.c.op.shard), (i64 x.c.bg), (i64 x.c.en), (Value.bool x.c.told), (i64 x.c.rep.why), (i64 x.c.rep.amount), (Value.slice x.A x.c.rep.rows.length x.k)] 43)) (Hx10 : Has w b10 (rowL [(Value.slice A n c), (Value.int IntKind.u64 ((d : Nat) : Int)), (i64 lf), (ptr lb)] 73)) (hlf : 0 ≤ lf ∧ lf ≤ 8) (hne : b5 ≠ b10)
  (hy : ∀ W1, Keeps (fun i => i = b10) w W1 → YieldAt Fence.wide m0 Tryd.prog ln #[agg [(Value.slice A n c), (Value.int IntKind.u64 ((d : Nat) : Int)), i64 (if x.c.told then lf - 1 else lf), (ptr lb)]] W1 (fun e W' => e = .returned (.bool true) ∧ J W' ∧ Keeps T W1 W'))
  (hQ : ∀ w', J w' → Keeps (fun i => T i ∨ i = b10) w w' → Q [] .normal [(0, (Value.func (Fn.yield ln) #[] #[])), (1, (ptr b2)), (2, (ptr b3)), (12, (Value.slice LA nl lc)), (13, (i64 ((nl : Nat) : Int))), (14, (i64 ((i : Nat) : Int)))] w') : wpR Fence.wide Tryd.prog (m0 + 1) Tryd.f47.ntmps (cd Tryd.f47 [1, 1, 1, 1, 1, 1, 0, 0, 1, 1, 0, 0, 1, 1, 0]) Q [] [(0, (Value.func (Fn.yield ln) #[] #[])), (1, (ptr b2)), (2, (ptr b3)), (5, (ptr b5)), (10, (ptr b10)), (12, (Value.slice LA nl lc)), (13, (i64 ((nl : Nat) : Int))), (14, (i64 ((i : Nat) : Int)))] w := by
 have K0 : Keeps (fun i => i = b10) w w := (Keeps.refl w).mono (fun _ _ h => h.elim)
 refine qr_seq (by kernel_rfl) ?_
 refine qr_seq (by kernel_rfl) ?_
 refine qr_region Open.wide (by kernel_rfl) (by kernel_rfl) ?_
 refine og 1 [(0, (Value.func (Fn.yield ln) #[] #[])), (1, (ptr b2)), (2, (ptr b3)), (10, (ptr b10)), (12, (Value.slice LA nl lc)), (13, (i64 ((nl : Nat) : Int))), (14, (i64 ((i : Nat) : Int))), (85, (Value.pointer (some ⟨b5, 9, none⟩)))] 1 ?_
 refine Ops.go (v := (Value.bool x.c.told)) (by kernel_rfl) (Runs.load (t := 4) (a := ⟨b5, 9, none⟩) (by kernel_rfl) (Hx5.loads (by kernel_rfl))) (d := (some 86)) (by kernel_rfl) rfl ?_
 refine od ?_
 refine qr_cond (o := .tmp 86) (b := x.c.told) (by kernel_rfl) rfl (fun h1 => ?_) (fun h1 => ?_)
 ·rw [h1]
  have p2 : x.c.told = true := h1
  refine qr_region Open.wide (by kernel_rfl) (by kernel_rfl) ?_
  refine og 1 [(0, (Value.func (Fn.yield ln) #[] #[])), (1, (ptr b2)), (2, (ptr b3)), (10, (ptr b10)), (12, (Value.slice LA nl lc)), (13, (i64 ((nl : Nat) : Int))), (14, (i64 ((i : Nat) : Int))), (87, (Value.pointer (some ⟨b10, 2, none⟩)))] 1 ?_
  refine Ops.go (v := (i64 lf)) (by kernel_rfl) (Runs.load (t := 3) (a := ⟨b10, 2, none⟩) (by kernel_rfl) (Hx10.loads (by kernel_rfl))) (d := (some 88)) (by kernel_rfl) rfl ?_
  refine og 1 [(0, (Value.func (Fn.yield ln) #[] #[])), (1, (ptr b2)), (2, (ptr b3)), (10, (ptr b10)), (12, (Value.slice LA nl lc)), (13, (i64 ((nl : Nat) : Int))), (14, (i64 ((i : Nat) : Int))), (89, (i64 (IntKind.i64.wrap (lf - 1))))] 3 ?_
  have e3 : IntKind.i64.wrap (lf - 1) = lf - 1 := wrap_i64 (by omega) (by omega)
  rw [e3]
  refine og 1 [(0, (Value.func (Fn.yield ln) #[] #[])), (1, (ptr b2)), (2, (ptr b3)), (10, (ptr b10)), (12, (Value.slice LA nl lc)), (13, (i64 ((nl : Nat) : Int))), (14, (i64 ((i : Nat) : Int))), (89, (i64 (lf - 1))), (90, (Value.pointer (some ⟨b10, 2, none⟩)))] 4 ?_
  refine Ops.put (t := 3) (b := b10) (off := 2) (v := (i64 (lf - 1))) (ys := [(Value.slice A n c), (Value.int IntKind.u64 ((d : Nat) : Int)), (i64 (lf - 1)), (ptr lb)]) (by kernel_rfl) (by kernel_rfl) Hx10 (by kernel_rfl) (d := none) (by kernel_rfl) rfl (fun w4 H5 K6 => ?_)
  clear Hx10
  replace K0 := K0.t1 K6 (fun _ => rfl)
  replace Hx5 := Hx5.k1 K6 (by omega)
  clear K6
  refine od ?_
  refine qr_seq (by kernel_rfl) ?_
  have hyv := hy w4 K0
  rw [if_pos h1] at hyv
  refine qr_opsR (by kernel_rfl) ?_
  refine OpsR.regs Open.wide (by kernel_rfl) 1 [(0, (Value.func (Fn.yield ln) #[] #[])), (1, (ptr b2)), (2, (ptr b3)), (10, (ptr b10)), (12, (Value.slice LA nl lc)), (13, (i64 ((nl : Nat) : Int))), (14, (i64 ((i : Nat) : Int))), (91, (Value.func (Fn.yield ln) #[] #[]))] (j := 1) (by kernel_rfl) (by kernel_rfl) ?_
  refine OpsR.go Open.wide (by kernel_rfl) (v := (agg [(Value.slice A n c), (Value.int IntKind.u64 ((d : Nat) : Int)), (i64 (lf - 1)), (ptr lb)])) (by kernel_rfl) (Runs.load (t := 73) (a := ⟨b10, 0, none⟩) (by kernel_rfl) (H5.loads (by kernel_rfl))) (d := some 92) (by kernel_rfl) rfl ?_
  refine OpsR.yield Open.wide (by kernel_rfl) (l := ln) (args := #[(agg [(Value.slice A n c), (Value.int IntKind.u64 ((d : Nat) : Int)), (i64 (lf - 1)), (ptr lb)])]) (at?_opn (by kernel_rfl)) (by kernel_rfl) hyv ?_
  rintro _ w9 ⟨rfl, hj9, k9⟩
  refine ⟨_, _, rfl, rfl, ?_⟩
  have k8 := K0.trans k9 (U := fun i => T i ∨ i = b10) (fun i _ h => .inr h) (fun i _ h => .inl h)
  refine OpsR.regs Open.wide (by kernel_rfl) 1 [(0, (Value.func (Fn.yield ln) #[] #[])), (1, (ptr b2)), (2, (ptr b3)), (12, (Value.slice LA nl lc)), (13, (i64 ((nl : Nat) : Int))), (14, (i64 ((i : Nat) : Int))), (94, (Value.bool false))] (j := 4) (by kernel_rfl) (by kernel_rfl) ?_
  refine OpsR.done (by kernel_rfl) ?_
  refine qr_else (o := .tmp 94) (by kernel_rfl) rfl ?_
  refine qr_keep (R := [(0, (Value.func (Fn.yield ln) #[] #[])), (1, (ptr b2)), (2, (ptr b3)), (12, (Value.slice LA nl lc)), (13, (i64 ((nl : Nat) : Int))), (14, (i64 ((i : Nat) : Int)))]) (by kernel_rfl) ?_
  refine qr_skip (by kernel_rfl) ?_
  exact hQ _ hj9 k8
 ·rw [h1]
  have p7 : x.c.told = false := h1
  refine qr_skip (by kernel_rfl) ?_
  refine qr_seq (by kernel_rfl) ?_
  have hyv := hy w K0
  rw [if_neg (by rw [h1]; decide)] at hyv
  refine qr_opsR (by kernel_rfl) ?_
  refine OpsR.regs Open.wide (by kernel_rfl) 1 [(0, (Value.func (Fn.yield ln) #[] #[])), (1, (ptr b2)), (2, (ptr b3)), (10, (ptr b10)), (12, (Value.slice LA nl lc)), (13, (i64 ((nl : Nat) : Int))), (14, (i64 ((i : Nat) : Int))), (91, (Value.func (Fn.yield ln) #[] #[]))] (j := 1) (by kernel_rfl) (by kernel_rfl) ?_
  refine OpsR.go Open.wide (by kernel_rfl) (v := (agg [(Value.slice A n c), (Value.int IntKind.u64 ((d : Nat) : Int)), (i64 lf), (ptr lb)])) (by kernel_rfl) (Runs.load (t := 73) (a := ⟨b10, 0, none⟩) (by kernel_rfl) (Hx10.loads (by kernel_rfl))) (d := some 92) (by kernel_rfl) rfl ?_
  refine OpsR.yield Open.wide (by kernel_rfl) (l := ln) (args := #[(agg [(Value.slice A n c), (Value.int IntKind.u64 ((d : Nat) : Int)), (i64 lf), (ptr lb)])]) (at?_opn (by kernel_rfl)) (by kernel_rfl) hyv ?_
  rintro _ w9 ⟨rfl, hj9, k9⟩
  refine ⟨_, _, rfl, rfl, ?_⟩
  have k8 := K0.trans k9 (U := fun i => T i ∨ i = b10) (fun i _ h => .inr h) (fun i _ h => .inl h)
  refine OpsR.regs Open.wide (by kernel_rfl) 1 [(0, (Value.func (Fn.yield ln) #[] #[])), (1, (ptr b2)), (2, (ptr b3)), (12, (Value.slice LA nl lc)), (13, (i64 ((nl : Nat) : Int))), (14, (i64 ((i : Nat) : Int))), (94, (Value.bool false))] (j := 4) (by kernel_rfl) (by kernel_rfl) ?_
  refine OpsR.done (by kernel_rfl) ?_
  refine qr_else (o := .tmp 94) (by kernel_rfl) rfl ?_
  refine qr_keep (R := [(0, (Value.func (Fn.yield ln) #[] #[])), (1, (ptr b2)), (2, (ptr b3)), (12, (Value.slice LA nl lc)), (13, (i64 ((nl : Nat) : Int))), (14, (i64 ((i : Nat) : Int)))]) (by kernel_rfl) ?_
  refine qr_skip (by kernel_rfl) ?_
  exact hQ _ hj9 k8
end Go.Proofs.YtnbcghbgeiocbaaDoor
namespace Go.Proofs.YtnbcghbgeiocbaaDoor
open Go.Q Go.RowKit

set_option maxHeartbeats 4000000 in
theorem Do_calls (w : World) (b mb kb : Nat) (m : List (List UInt8 × Int)) (S : List RowM) (K : List KeptM) (o : Opm) (Hb : Has w b (rowL [.map (some mb), .map (some kb)] 110)) (Hm : HasMap w mb kstr ki64 m) (Hk : HasMap w kb kpair keptv (K.map KeptM.kv)) (hne : b ≠ mb ∧ b ≠ kb ∧ mb ≠ kb) (hB : LBook m S K) (hr : -9223372036854775808 ≤ o.amount ∧ o.amount ≤ 9223372036854775807) (hSl : S.length ≤ 1000) : Calls Tryd.prog 49 ⟨[(ptr b), (agg [(i64 o.kind), (Value.string (str o.frm)), (Value.string (str o.to)), (i64 o.amount), (Value.string (str o.key)), (i64 o.slot), (i64 o.shard)])]⟩ w (fun e w' => ∃ m' A c, e = .returned (agg [i64 (doR S K o).why, i64 (doR S K o).amount, .slice A (doR S K o).rows.length c]) ∧ Keeps (fun i => i = mb ∨ i = kb) w w' ∧ HasMap w' mb kstr ki64 m' ∧ HasMap w' kb kpair keptv ((doK S K o).map KeptM.kv) ∧ LBook m' (doS S K o) (doK S K o) ∧ OwnR w' w.heap.size 98 (.slice A (doR S K o).rows.length c) (doR S K o).rows) := by
 have Hbl := Hb.lt
 have Hml := Hm.lt
 have Hkl := Hk.lt
 have hL := hB.lmap
 have K0 : Keeps (fun i => i = mb ∨ i = kb) w w := (Keeps.refl w).mono (fun _ _ h => h.elim)
 refine q_calls Tryd.func49 (by kernel_rfl) (by kernel_rfl) ?_
 refine qs ?_
 refine qg ?_
 refine Ops.new (o := rowL [(i64 o.kind), (Value.string (str o.frm)), (Value.string (str o.to)), (i64 o.amount), (Value.string (str o.key)), (i64 o.slot), (i64 o.shard)] 24) (V := fun b => (ptr b)) (by kernel_rfl) (d := (some 3)) (by kernel_rfl) (fun b => rfl) (fun b1 w2 hb3 H4 K5 hs6 => ?_)
 have lb1b : b < b1 := by have := Hb.lt; omega
 have lb1mb : mb < b1 := by have := Hm.lt; omega
 have lb1kb : kb < b1 := by have := Hk.lt; omega
 have nb1 : w.heap.size ≤ b1 := by have := K0.size; omega
 replace K0 := K0.tn K5
 replace Hb := Hb.keep K5 (fun h => h)
 replace Hm := Hm.keep K5 (fun h => h)
 replace Hk := Hk.keep K5 (fun h => h)
 clear K5 hs6
 refine Ops.new (o := rowL [(i64 0), (i64 0), (Value.slice none 0 0)] 28) (V := fun b => (ptr b)) (by kernel_rfl) (d := (some 4)) (by kernel_rfl) (fun b => rfl) (fun b7 w8 hb9 H10 K11 hs12 => ?_)
 have lb7b : b < b7 := by have := Hb.lt; omega
 have lb7mb : mb < b7 := by have := Hm.lt; omega
 have lb7kb : kb < b7 := by have := Hk.lt; omega
 have lb7b1 : b1 < b7 := by have := H4.lt; omega
 have nb7 : w.heap.size ≤ b7 := by have := K0.size; omega
 replace K0 := K0.tn K11
 replace Hb := Hb.keep K11 (fun h => h)
 replace Hm := Hm.keep K11 (fun h => h)
 replace Hk := Hk.keep K11 (fun h => h)
 replace H4 := H4.keep K11 (fun h => h)
 clear K11 hs12
 refine od ?_
 refine qs ?_
 refine qs ?_
 refine qg ?_
 refine og 2 [(0, (ptr b)), (3, (ptr b1)), (4, (ptr b7)), (13, (Value.bool false))] 2 ?_
 refine od ?_
 refine q_else (o := .tmp 13) (by kernel_rfl) rfl ?_
 refine q_skip (by kernel_rfl) ?_
 refine qs ?_
 refine qs ?_
 refine qg ?_
 refine Ops.go (v := (agg [(i64 o.kind), (Value.string (str o.frm)), (Value.string (str o.to)), (i64 o.amount), (Value.string (str o.key)), (i64 o.slot), (i64 o.shard)])) (by kernel_rfl) (Runs.load (t := 24) (a := ⟨b1, 0, none⟩) (by kernel_rfl) (H4.loads (by kernel_rfl))) (d := (some 15)) (by kernel_rfl) rfl ?_
 refine Ops.call (by kernel_rfl) (d := (some 16)) (by kernel_rfl) (Wrong_calls _ o) ?_
 rintro _ w14 ⟨rfl, K13⟩
 refine ⟨_, _, rfl, rfl, ?_⟩
 replace K0 := K0.tn K13
 replace Hb := Hb.keep K13 (fun h => h)
 replace Hm := Hm.keep K13 (fun h => h)
 replace Hk := Hk.keep K13 (fun h => h)
 replace H4 := H4.keep K13 (fun h => h)
 replace H10 := H10.keep K13 (fun h => h)
 clear K13
 refine og 1 [(0, (ptr b)), (3, (ptr b1)), (4, (ptr b7)), (5, (i64 (wrongE o)))] 3 ?_
 refine od ?_
 refine qs ?_
 refine qg ?_
 refine og 2 [(0, (ptr b)), (3, (ptr b1)), (4, (ptr b7)), (5, (i64 (wrongE o))), (18, (Value.bool ((wrongE o) != 0)))] 2 ?_
 refine od ?_
 refine q_cond (o := .tmp 18) (b := ((wrongE o) != 0)) (by kernel_rfl) rfl (fun h15 => ?_) (fun h15 => ?_)
 ·rw [h15]
  have p16 : ¬ (wrongE o = 0) := of_bne_t h15
  refine qs ?_
  refine qg ?_
  refine og 2 [(0, (ptr b)), (3, (ptr b1)), (4, (ptr b7)), (20, (agg [(i64 (wrongE o)), (i64 0), (Value.slice none 0 0)]))] 2 ?_
  refine Ops.put (t := 28) (b := b7) (off := 0) (v := (agg [(i64 (wrongE o)), (i64 0), (Value.slice none 0 0)])) (ys := [(i64 (wrongE o)), (i64 0), (Value.slice none 0 0)]) (by kernel_rfl) (by kernel_rfl) H10 (by kernel_rfl) (d := none) (by kernel_rfl) rfl (fun w17 H18 K19 => ?_)
  clear H10
  replace K0 := K0.trans K19 (U := (fun i => i = mb ∨ i = kb)) (fun i h1 h2 => h2) (fun i h1 h2 => by have h2 : i = b7 := h2; show i = mb ∨ i = kb; omega)
  replace Hb := Hb.k1 K19 (by omega)
  replace Hm := Hm.k1 K19 (by omega)
  replace Hk := Hk.k1 K19 (by omega)
  replace H4 := H4.k1 K19 (by omega)
  clear K19
  refine od ?_
  refine q_ret (by kernel_rfl) ?_
  refine ⟨(agg [(i64 (wrongE o)), (i64 0), (Value.slice none 0 0)]), retv_cell rfl rfl (H18.loads (by kernel_rfl)), ?_⟩
  have e0 := do_wrong (S := S) (K := K) (o := o) (by omega)
  obtain ⟨e1, e2, e3⟩ := e0
  rw [e1, e2, e3]
  exact ⟨_, none, 0, rfl, K0, Hm, Hk, hB, (OwnT.nil _ _ _ _ _)⟩
 ·rw [h15]
  have p20 : wrongE o = 0 := of_bne_f h15
  have hw : wrongE o = 0 := by omega
  refine q_skip (by kernel_rfl) ?_
  refine qs ?_
  refine q_draw (fun wz => Keeps none_ w14 wz) 12 (by kernel_rfl) (by kernel_rfl) (by kernel_rfl) (fun w21 K22 _ _ => ⟨K22, ?_⟩)
  replace K0 := K0.tn K22
  replace Hb := Hb.keep K22 (fun h => h)
  replace Hm := Hm.keep K22 (fun h => h)
  replace Hk := Hk.keep K22 (fun h => h)
  replace H4 := H4.keep K22 (fun h => h)
  replace H10 := H10.keep K22 (fun h => h)
  refine Dr.strong (S' := (fun wz => Keeps none_ w21 wz)) (Keeps.refl w21) (fun wz hx => K22.trans hx (fun i _ h => h) (fun _ _ h => h)) ?_
  clear K22
  refine Dr.takes (fuel' := 9) (is' := _) [0, 1, 2] [(0, (ptr b)), (3, (ptr b1)), (4, (ptr b7)), (24, (ptr b))] (by kernel_rfl) rfl (by kernel_rfl) ?_
  refine Dr.take (i := 3) (v := (Value.map (some mb))) (by kernel_rfl) (by kernel_rfl) (fun wz hS => Runs.load (t := 107) (a := ⟨b, 0, none⟩) (by kernel_rfl) ((Hb.keep hS (fun h => h)).loads (by kernel_rfl))) (d := (some 25)) (by kernel_rfl) rfl ?_
  refine Dr.takes (fuel' := 7) (is' := _) [4] [(0, (ptr b)), (3, (ptr b1)), (4, (ptr b7)), (25, (Value.map (some mb))), (26, (Value.pointer (some ⟨b1, 1, none⟩)))] (by kernel_rfl) rfl (by kernel_rfl) ?_
  refine Dr.take (i := 5) (v := (Value.string (str o.frm))) (by kernel_rfl) (by kernel_rfl) (fun wz hS => Runs.load (t := 9) (a := ⟨b1, 1, none⟩) (by kernel_rfl) ((H4.keep hS (fun h => h)).loads (by kernel_rfl))) (d := (some 27)) (by kernel_rfl) rfl ?_
  rcases hg23 : getM m o.frm with _ | y24
  ·skip
   have hw25 := hL.got_none hg23
   refine Dr.take (i := 6) (v := (Value.tuple #[(i64 0), (Value.bool false)])) (by kernel_rfl) (by kernel_rfl) (fun wz hS => Runs.lookup_none (ok := true) (z := (i64 0)) KT Tryd.underlying107 (by kernel_rfl) (Hm.keep hS (fun h => h)) hg23 (by kernel_rfl)) (d := (some 28)) (by kernel_rfl) rfl ?_
   refine Dr.takes (fuel' := 0) (is' := _) [7, 8, 9, 10, 11] [(0, (ptr b)), (3, (ptr b1)), (4, (ptr b7)), (6, (i64 0)), (7, (Value.bool false))] (by kernel_rfl) rfl (by kernel_rfl) ?_
   refine Dr.done (by kernel_rfl) ?_
   refine qs ?_
   refine qs ?_
   refine qg ?_
   refine og 1 [(0, (ptr b)), (3, (ptr b1)), (4, (ptr b7)), (6, (i64 0)), (7, (Value.bool false)), (31, (ptr b1))] 1 ?_
   refine Ops.go (v := (i64 o.kind)) (by kernel_rfl) (Runs.load (t := 3) (a := ⟨b1, 0, none⟩) (by kernel_rfl) (H4.loads (by kernel_rfl))) (d := (some 32)) (by kernel_rfl) rfl ?_
   refine od ?_
   refine q_block (id := 0) (by kernel_rfl) ?_
   refine qs ?_
   refine qg ?_
   refine og 2 [(0, (ptr b)), (3, (ptr b1)), (4, (ptr b7)), (6, (i64 0)), (7, (Value.bool false)), (32, (i64 o.kind)), (33, (Value.bool (o.kind == 7)))] 2 ?_
   refine od ?_
   refine q_cond (o := .tmp 33) (b := (o.kind == 7)) (by kernel_rfl) rfl (fun h26 => ?_) (fun h26 => ?_)
   ·rw [h26]
    have p27 : o.kind = 7 := of_beq_t h26
    refine qs ?_
    refine qg ?_
    refine og 1 [(0, (ptr b)), (3, (ptr b1)), (4, (ptr b7)), (6, (i64 0)), (7, (Value.bool false)), (32, (i64 o.kind)), (35, (agg [(i64 0), (i64 0), (Value.slice none 0 0)]))] 1 ?_
    refine Ops.put (t := 28) (b := b7) (off := 0) (v := (agg [(i64 0), (i64 0), (Value.slice none 0 0)])) (ys := [(i64 0), (i64 0), (Value.slice none 0 0)]) (by kernel_rfl) (by kernel_rfl) H10 (by kernel_rfl) (d := none) (by kernel_rfl) rfl (fun w28 H29 K30 => ?_)
    clear H10
    replace K0 := K0.trans K30 (U := (fun i => i = mb ∨ i = kb)) (fun i h1 h2 => h2) (fun i h1 h2 => by have h2 : i = b7 := h2; show i = mb ∨ i = kb; omega)
    replace Hb := Hb.k1 K30 (by omega)
    replace Hm := Hm.k1 K30 (by omega)
    replace Hk := Hk.k1 K30 (by omega)
    replace H4 := H4.k1 K30 (by omega)
    clear K30
    refine od ?_
    refine q_ret (by kernel_rfl) ?_
    refine ⟨(agg [(i64 0), (i64 0), (Value.slice none 0 0)]), retv_cell rfl rfl (H29.loads (by kernel_rfl)), ?_⟩
    have e0 := do_move (S := S) (K := K) (o := o) hw (by omega)
    obtain ⟨e1, e2, e3⟩ := e0
    rw [e1, e2, e3]
    exact ⟨_, none, 0, rfl, K0, Hm, Hk, hB, (OwnT.nil _ _ _ _ _)⟩
   ·rw [h26]
    have p31 : ¬ (o.kind = 7) := of_beq_f h26
    refine qs ?_
    refine qg ?_
    refine og 2 [(0, (ptr b)), (3, (ptr b1)), (4, (ptr b7)), (6, (i64 0)), (7, (Value.bool false)), (32, (i64 o.kind)), (36, (Value.bool (o.kind == 6)))] 2 ?_
    refine od ?_
    refine q_cond (o := .tmp 36) (b := (o.kind == 6)) (by kernel_rfl) rfl (fun h32 => ?_) (fun h32 => ?_)
    ·rw [h32]
     have p33 : o.kind = 6 := of_beq_t h32
     refine qs ?_
     refine qg ?_
     refine og 1 [(0, (ptr b)), (3, (ptr b1)), (4, (ptr b7)), (6, (i64 0)), (7, (Value.bool false)), (32, (i64 o.kind)), (38, (ptr b))] 1 ?_
     refine Ops.call (by kernel_rfl) (d := (some 39)) (by kernel_rfl) (rows_calls _ b mb kb m S Hb Hm (by omega) hL (by omega)) ?_
     rintro _ w36 ⟨A34, c35, rfl, K37, hO38⟩
     have ob40 : ∀ i, ((Value.slice A34 S.length c35)).ownBlock = some i → i ≠ b := fun i hi => by have := (World.ownsRow.lt hO38 i hi).1; have := Hb.lt; omega
     have ob41 : ∀ i, ((Value.slice A34 S.length c35)).ownBlock = some i → i ≠ mb := fun i hi => by have := (World.ownsRow.lt hO38 i hi).1; have := Hm.lt; omega
     have ob42 : ∀ i, ((Value.slice A34 S.length c35)).ownBlock = some i → i ≠ kb := fun i hi => by have := (World.ownsRow.lt hO38 i hi).1; have := Hk.lt; omega
     have ob43 : ∀ i, ((Value.slice A34 S.length c35)).ownBlock = some i → i ≠ b1 := fun i hi => by have := (World.ownsRow.lt hO38 i hi).1; have := H4.lt; omega
     have ob44 : ∀ i, ((Value.slice A34 S.length c35)).ownBlock = some i → i ≠ b7 := fun i hi => by have := (World.ownsRow.lt hO38 i hi).1; have := H10.lt; omega
     have O39 := own_base hO38 K0.size
     clear hO38
     refine ⟨_, _, rfl, rfl, ?_⟩
     replace K0 := K0.tn K37
     replace Hb := Hb.keep K37 (fun h => h)
     replace Hm := Hm.keep K37 (fun h => h)
     replace Hk := Hk.keep K37 (fun h => h)
     replace H4 := H4.keep K37 (fun h => h)
     replace H10 := H10.keep K37 (fun h => h)
     clear K37
     refine og 1 [(0, (ptr b)), (3, (ptr b1)), (4, (ptr b7)), (6, (i64 0)), (7, (Value.bool false)), (32, (i64 o.kind)), (40, (agg [(i64 0), (i64 0), (Value.slice A34 S.length c35)]))] 3 ?_
     refine Ops.put (t := 28) (b := b7) (off := 0) (v := (agg [(i64 0), (i64 0), (Value.slice A34 S.length c35)])) (ys := [(i64 0), (i64 0), (Value.slice A34 S.length c35)]) (by kernel_rfl) (by kernel_rfl) H10 (by kernel_rfl) (d := none) (by kernel_rfl) rfl (fun w45 H46 K47 => ?_)
     clear H10
     replace K0 := K0.trans K47 (U := (fun i => i = mb ∨ i = kb)) (fun i h1 h2 => h2) (fun i h1 h2 => by have h2 : i = b7 := h2; show i = mb ∨ i = kb; omega)
     replace Hb := Hb.k1 K47 (by omega)
     replace Hm := Hm.k1 K47 (by omega)
     replace Hk := Hk.k1 K47 (by omega)
     replace H4 := H4.k1 K47 (by omega)
     replace O39 := own_keep O39 K47 (fun i hi => by have := ob44 i hi; omega)
     clear K47
     refine od ?_
     refine q_ret (by kernel_rfl) ?_
     refine ⟨(agg [(i64 0), (i64 0), (Value.slice A34 S.length c35)]), retv_cell rfl rfl (H46.loads (by kernel_rfl)), ?_⟩
     have e0 := do_audit (S := S) (K := K) (o := o) hw (by omega)
     obtain ⟨e1, e2, e3⟩ := e0
     rw [e1, e2, e3]
     exact ⟨_, A34, c35, rfl, K0, Hm, Hk, hB, O39⟩
    ·rw [h32]
     have p48 : ¬ (o.kind = 6) := of_beq_f h32
     refine qs ?_
     refine qg ?_
     refine og 2 [(0, (ptr b)), (3, (ptr b1)), (4, (ptr b7)), (6, (i64 0)), (7, (Value.bool false)), (41, (Value.bool (o.kind == 5)))] 2 ?_
     refine od ?_
     refine q_cond (o := .tmp 41) (b := (o.kind == 5)) (by kernel_rfl) rfl (fun h49 => ?_) (fun h49 => ?_)
     ·rw [h49]
      have p50 : o.kind = 5 := of_beq_t h49
      refine qs ?_
      refine qs ?_
      refine qg ?_
      refine og 2 [(0, (ptr b)), (3, (ptr b1)), (4, (ptr b7)), (6, (i64 0)), (7, (Value.bool false)), (44, (Value.bool true))] 2 ?_
      refine od ?_
      refine q_then (o := .tmp 44) (by kernel_rfl) rfl ?_
      refine qs ?_
      refine qg ?_
      refine og 1 [(0, (ptr b)), (3, (ptr b1)), (4, (ptr b7)), (6, (i64 0)), (7, (Value.bool false)), (45, (agg [(i64 40), (i64 0), (Value.slice none 0 0)]))] 1 ?_
      refine Ops.put (t := 28) (b := b7) (off := 0) (v := (agg [(i64 40), (i64 0), (Value.slice none 0 0)])) (ys := [(i64 40), (i64 0), (Value.slice none 0 0)]) (by kernel_rfl) (by kernel_rfl) H10 (by kernel_rfl) (d := none) (by kernel_rfl) rfl (fun w51 H52 K53 => ?_)
      clear H10
      replace K0 := K0.trans K53 (U := (fun i => i = mb ∨ i = kb)) (fun i h1 h2 => h2) (fun i h1 h2 => by have h2 : i = b7 := h2; show i = mb ∨ i = kb; omega)
      replace Hb := Hb.k1 K53 (by omega)
      replace Hm := Hm.k1 K53 (by omega)
      replace Hk := Hk.k1 K53 (by omega)
      replace H4 := H4.k1 K53 (by omega)
      clear K53
      refine od ?_
      refine q_ret (by kernel_rfl) ?_
      refine ⟨(agg [(i64 40), (i64 0), (Value.slice none 0 0)]), retv_cell rfl rfl (H52.loads (by kernel_rfl)), ?_⟩
      have e0 := do_bal_none (S := S) (K := K) (o := o) hw (by omega) hw25
      obtain ⟨e1, e2, e3⟩ := e0
      rw [e1, e2, e3]
      exact ⟨_, none, 0, rfl, K0, Hm, Hk, hB, (OwnT.nil _ _ _ _ _)⟩
     ·rw [h49]
      have p54 : ¬ (o.kind = 5) := of_beq_f h49
      have hwa := wrong_act hw (by omega) (by omega) (by omega)
      have hro : -9223372036854775808 ≤ (plainE o).amount ∧ (plainE o).amount ≤ 9223372036854775807 := by unfold plainE; simp only; split <;> omega
      refine q_skip (by kernel_rfl) ?_
      refine qs ?_
      refine qg ?_
      refine Ops.go (v := (agg [(i64 o.kind), (Value.string (str o.frm)), (Value.string (str o.to)), (i64 o.amount), (Value.string (str o.key)), (i64 o.slot), (i64 o.shard)])) (by kernel_rfl) (Runs.load (t := 24) (a := ⟨b1, 0, none⟩) (by kernel_rfl) (H4.loads (by kernel_rfl))) (d := (some 48)) (by kernel_rfl) rfl ?_
      refine Ops.call (by kernel_rfl) (d := (some 49)) (by kernel_rfl) (plain_calls _ o) ?_
      rintro _ w56 ⟨rfl, K55⟩
      refine ⟨_, _, rfl, rfl, ?_⟩
      replace K0 := K0.tn K55
      replace Hb := Hb.keep K55 (fun h => h)
      replace Hm := Hm.keep K55 (fun h => h)
      replace Hk := Hk.keep K55 (fun h => h)
      replace H4 := H4.keep K55 (fun h => h)
      replace H10 := H10.keep K55 (fun h => h)
      clear K55
      refine Ops.put (t := 24) (b := b1) (off := 0) (v := (agg [(i64 o.kind), (Value.string (str o.frm)), (Value.string (str ((plainE o).to))), (i64 ((plainE o).amount)), (Value.string (str o.key)), (i64 0), (i64 0)])) (ys := [(i64 o.kind), (Value.string (str o.frm)), (Value.string (str ((plainE o).to))), (i64 ((plainE o).amount)), (Value.string (str o.key)), (i64 0), (i64 0)]) (by kernel_rfl) (by kernel_rfl) H4 (by kernel_rfl) (d := none) (by kernel_rfl) rfl (fun w57 H58 K59 => ?_)
      clear H4
      replace K0 := K0.trans K59 (U := (fun i => i = mb ∨ i = kb)) (fun i h1 h2 => h2) (fun i h1 h2 => by have h2 : i = b1 := h2; show i = mb ∨ i = kb; omega)
      replace Hb := Hb.k1 K59 (by omega)
      replace Hm := Hm.k1 K59 (by omega)
      replace Hk := Hk.k1 K59 (by omega)
      replace H10 := H10.k1 K59 (by omega)
      clear K59
      refine od ?_
      refine qs ?_
      refine qg ?_
      refine og 1 [(0, (ptr b)), (3, (ptr b1)), (4, (ptr b7)), (6, (i64 0)), (7, (Value.bool false)), (50, (Value.pointer (some ⟨b1, 1, none⟩)))] 1 ?_
      refine Ops.go (v := (Value.string (str o.frm))) (by kernel_rfl) (Runs.load (t := 9) (a := ⟨b1, 1, none⟩) (by kernel_rfl) (H58.loads (by kernel_rfl))) (d := (some 51)) (by kernel_rfl) rfl ?_
      refine og 1 [(0, (ptr b)), (3, (ptr b1)), (4, (ptr b7)), (6, (i64 0)), (7, (Value.bool false)), (51, (Value.string (str o.frm))), (52, (Value.pointer (some ⟨b1, 4, none⟩)))] 3 ?_
      refine Ops.go (v := (Value.string (str o.key))) (by kernel_rfl) (Runs.load (t := 9) (a := ⟨b1, 4, none⟩) (by kernel_rfl) (H58.loads (by kernel_rfl))) (d := (some 53)) (by kernel_rfl) rfl ?_
      refine og 1 [(0, (ptr b)), (3, (ptr b1)), (4, (ptr b7)), (6, (i64 0)), (7, (Value.bool false)), (54, (agg [(Value.string (str o.frm)), (Value.string (str o.key))]))] 5 ?_
      refine Ops.new (o := rowL [(Value.string ByteArray.empty), (Value.string ByteArray.empty)] 116) (V := fun b => (ptr b)) (by kernel_rfl) (d := (some 8)) (by kernel_rfl) (fun b => rfl) (fun b60 w61 hb62 H63 K64 hs65 => ?_)
      have lb60b : b < b60 := by have := Hb.lt; omega
      have lb60mb : mb < b60 := by have := Hm.lt; omega
      have lb60kb : kb < b60 := by have := Hk.lt; omega
      have lb60b1 : b1 < b60 := by have := H58.lt; omega
      have lb60b7 : b7 < b60 := by have := H10.lt; omega
      have nb60 : w.heap.size ≤ b60 := by have := K0.size; omega
      replace K0 := K0.tn K64
      replace Hb := Hb.keep K64 (fun h => h)
      replace Hm := Hm.keep K64 (fun h => h)
      replace Hk := Hk.keep K64 (fun h => h)
      replace H58 := H58.keep K64 (fun h => h)
      replace H10 := H10.keep K64 (fun h => h)
      clear K64 hs65
      refine Ops.put (t := 116) (b := b60) (off := 0) (v := (agg [(Value.string (str o.frm)), (Value.string (str o.key))])) (ys := [(Value.string (str o.frm)), (Value.string (str o.key))]) (by kernel_rfl) (by kernel_rfl) H63 (by kernel_rfl) (d := none) (by kernel_rfl) rfl (fun w66 H67 K68 => ?_)
      clear H63
      replace K0 := K0.trans K68 (U := (fun i => i = mb ∨ i = kb)) (fun i h1 h2 => h2) (fun i h1 h2 => by have h2 : i = b60 := h2; show i = mb ∨ i = kb; omega)
      replace Hb := Hb.k1 K68 (by omega)
      replace Hm := Hm.k1 K68 (by omega)
      replace Hk := Hk.k1 K68 (by omega)
      replace H58 := H58.k1 K68 (by omega)
      replace H10 := H10.k1 K68 (by omega)
      clear K68
      refine od ?_
      refine qs ?_
      refine qs ?_
      refine q_draw (fun wz => Keeps none_ w66 wz) 12 (by kernel_rfl) (by kernel_rfl) (by kernel_rfl) (fun w69 K70 _ _ => ⟨K70, ?_⟩)
      replace K0 := K0.tn K70
      replace Hb := Hb.keep K70 (fun h => h)
      replace Hm := Hm.keep K70 (fun h => h)
      replace Hk := Hk.keep K70 (fun h => h)
      replace H58 := H58.keep K70 (fun h => h)
      replace H10 := H10.keep K70 (fun h => h)
      replace H67 := H67.keep K70 (fun h => h)
      refine Dr.strong (S' := (fun wz => Keeps none_ w69 wz)) (Keeps.refl w69) (fun wz hx => K70.trans hx (fun i _ h => h) (fun _ _ h => h)) ?_
      clear K70
      refine Dr.takes (fuel' := 9) (is' := _) [0, 1, 2] [(0, (ptr b)), (3, (ptr b1)), (4, (ptr b7)), (6, (i64 0)), (7, (Value.bool false)), (8, (ptr b60)), (58, (Value.pointer (some ⟨b, 1, none⟩)))] (by kernel_rfl) rfl (by kernel_rfl) ?_
      refine Dr.take (i := 3) (v := (Value.map (some kb))) (by kernel_rfl) (by kernel_rfl) (fun wz hS => Runs.load (t := 108) (a := ⟨b, 1, none⟩) (by kernel_rfl) ((Hb.keep hS (fun h => h)).loads (by kernel_rfl))) (d := (some 59)) (by kernel_rfl) rfl ?_
      refine Dr.take (i := 4) (v := (agg [(Value.string (str o.frm)), (Value.string (str o.key))])) (by kernel_rfl) (by kernel_rfl) (fun wz hS => Runs.load (t := 116) (a := ⟨b60, 0, none⟩) (by kernel_rfl) ((H67.keep hS (fun h => h)).loads (by kernel_rfl))) (d := (some 60)) (by kernel_rfl) rfl ?_
      rcases hg71 : getM (K.map KeptM.kv) (o.frm, o.key) with _ | y72
      ·skip
       have hk73 : findK K o.frm o.key = none := hg71
       refine Dr.take (i := 5) (v := (Value.tuple #[(agg [(i64 0), (Value.string ByteArray.empty), (Value.string ByteArray.empty), (i64 0), (Value.string ByteArray.empty), (i64 0), (i64 0), (i64 0)]), (Value.bool false)])) (by kernel_rfl) (by kernel_rfl) (fun wz hS => Runs.lookup_none (ok := true) (z := (agg [(i64 0), (Value.string ByteArray.empty), (Value.string ByteArray.empty), (i64 0), (Value.string ByteArray.empty), (i64 0), (i64 0), (i64 0)])) KT2 Tryd.underlying108 (by kernel_rfl) (Hk.keep hS (fun h => h)) hg71 (by kernel_rfl)) (d := (some 61)) (by kernel_rfl) rfl ?_
       refine Dr.takes (fuel' := 3) (is' := _) [6, 7, 8] [(0, (ptr b)), (3, (ptr b1)), (4, (ptr b7)), (6, (i64 0)), (7, (Value.bool false)), (8, (ptr b60)), (62, (agg [(i64 0), (Value.string ByteArray.empty), (Value.string ByteArray.empty), (i64 0), (Value.string ByteArray.empty), (i64 0), (i64 0), (i64 0)])), (63, (Value.bool false))] (by kernel_rfl) rfl (by kernel_rfl) ?_
       refine Dr.new (i := 9) (o := rowL [(i64 0), (Value.string ByteArray.empty), (Value.string ByteArray.empty), (i64 0), (Value.string ByteArray.empty), (i64 0), (i64 0), (i64 0)] 118) (V := fun b => (ptr b)) (by kernel_rfl) (by kernel_rfl) (d := (some 9)) (by kernel_rfl) (fun b => rfl) (fun b74 w75 hb76 H77 K78 hs79 => ?_)
       have lb74b : b < b74 := by have := Hb.lt; omega
       have lb74mb : mb < b74 := by have := Hm.lt; omega
       have lb74kb : kb < b74 := by have := Hk.lt; omega
       have lb74b1 : b1 < b74 := by have := H58.lt; omega
       have lb74b7 : b7 < b74 := by have := H10.lt; omega
       have lb74b60 : b60 < b74 := by have := H67.lt; omega
       have nb74 : w.heap.size ≤ b74 := by have := K0.size; omega
       replace K0 := K0.tn K78
       replace Hb := Hb.keep K78 (fun h => h)
       replace Hm := Hm.keep K78 (fun h => h)
       replace Hk := Hk.keep K78 (fun h => h)
       replace H58 := H58.keep K78 (fun h => h)
       replace H10 := H10.keep K78 (fun h => h)
       replace H67 := H67.keep K78 (fun h => h)
       refine ⟨K78, ?_⟩
       refine Dr.strong (S' := (fun wz => Keeps (fun i => i = b74) w75 wz)) ((Keeps.refl w75).mono (fun _ _ h => h.elim)) (fun wz hx => K78.trans hx (U := none_) (fun i _ h => h) (fun i hi h => by have h : i = b74 := h; exfalso; omega)) ?_
       clear K78 hs79
       refine Dr.put (i := 10) (t := 118) (b := b74) (off := 0) (v := (agg [(i64 0), (Value.string ByteArray.empty), (Value.string ByteArray.empty), (i64 0), (Value.string ByteArray.empty), (i64 0), (i64 0), (i64 0)])) (ys := [(i64 0), (Value.string ByteArray.empty), (Value.string ByteArray.empty), (i64 0), (Value.string ByteArray.empty), (i64 0), (i64 0), (i64 0)]) (by kernel_rfl) (by kernel_rfl) (by kernel_rfl) H77 (by kernel_rfl) (d := none) (by kernel_rfl) rfl (fun w80 H81 K82 => ?_)
       clear H77
       replace K0 := K0.trans K82 (U := (fun i => i = mb ∨ i = kb)) (fun i h1 h2 => h2) (fun i h1 h2 => by have h2 : i = b74 := h2; show i = mb ∨ i = kb; omega)
       replace Hb := Hb.k1 K82 (by omega)
       replace Hm := Hm.k1 K82 (by omega)
       replace Hk := Hk.k1 K82 (by omega)
       replace H58 := H58.k1 K82 (by omega)
       replace H10 := H10.k1 K82 (by omega)
       replace H67 := H67.k1 K82 (by omega)
       refine ⟨K82, ?_⟩
       refine Dr.strong (S' := (fun wz => Keeps (fun i => i = b74) w80 wz)) ((Keeps.refl w80).mono (fun _ _ h => h.elim)) (fun wz hx => K82.trans hx (fun i _ h => by have h : i = b74 := h; show i = b74; omega) (fun _ _ h => h)) ?_
       clear K82
       refine Dr.takes (fuel' := 0) (is' := _) [11] [(0, (ptr b)), (3, (ptr b1)), (4, (ptr b7)), (6, (i64 0)), (7, (Value.bool false)), (8, (ptr b60)), (9, (ptr b74)), (10, (Value.bool false))] (by kernel_rfl) rfl (by kernel_rfl) ?_
       refine Dr.done (by kernel_rfl) ?_
       refine qs ?_
       refine qg ?_
       refine og 1 [(0, (ptr b)), (3, (ptr b1)), (4, (ptr b7)), (6, (i64 0)), (7, (Value.bool false)), (8, (ptr b60)), (9, (ptr b74)), (64, (Value.bool false))] 1 ?_
       refine od ?_
       refine q_else (o := .tmp 64) (by kernel_rfl) rfl ?_
       refine q_skip (by kernel_rfl) ?_
       refine qs ?_
       refine qg ?_
       refine og 1 [(0, (ptr b)), (3, (ptr b1)), (4, (ptr b7)), (6, (i64 0)), (7, (Value.bool false)), (8, (ptr b60)), (73, (ptr b))] 1 ?_
       refine Ops.go (v := (agg [(i64 o.kind), (Value.string (str o.frm)), (Value.string (str ((plainE o).to))), (i64 ((plainE o).amount)), (Value.string (str o.key)), (i64 0), (i64 0)])) (by kernel_rfl) (Runs.load (t := 24) (a := ⟨b1, 0, none⟩) (by kernel_rfl) (H58.loads (by kernel_rfl))) (d := (some 74)) (by kernel_rfl) rfl ?_
       refine og 2 [(0, (ptr b)), (3, (ptr b1)), (4, (ptr b7)), (8, (ptr b60)), (73, (ptr b)), (74, (agg [(i64 o.kind), (Value.string (str o.frm)), (Value.string (str ((plainE o).to))), (i64 ((plainE o).amount)), (Value.string (str o.key)), (i64 0), (i64 0)])), (75, (i64 0)), (76, (Value.bool false))] 4 ?_
       refine Ops.call (by kernel_rfl) (d := (some 77)) (by kernel_rfl) (act_none _ b mb kb m S (plainE o) Hb Hm (by omega) hL hwa.1 hwa.2.1 (fun q => by have h1 := hwa.2.2.2.1 q; have h2 := plainE_amount o q; omega) hro (fun q => by have h2 := plainE_to o q; rw [h2]; exact (hwa.2.2.2.2 q).2) hg23) ?_
       rintro _ w84 ⟨m83, rfl, K85, Hm86, hL87⟩
       refine ⟨_, _, rfl, rfl, ?_⟩
       replace K0 := K0.trans K85 (U := (fun i => i = mb ∨ i = kb)) (fun i h1 h2 => h2) (fun i h1 h2 => by have h2 : i = mb := h2; show i = mb ∨ i = kb; omega)
       replace Hb := Hb.k1 K85 (by omega)
       replace Hk := Hk.k1 K85 (by omega)
       replace H58 := H58.k1 K85 (by omega)
       replace H10 := H10.k1 K85 (by omega)
       replace H67 := H67.k1 K85 (by omega)
       replace H81 := H81.k1 K85 (by omega)
       clear K85
       refine og 1 [(0, (ptr b)), (3, (ptr b1)), (4, (ptr b7)), (8, (ptr b60)), (11, (i64 (actE S (plainE o))))] 6 ?_
       refine od ?_
       refine qs ?_
       refine q_draw (fun wz => Keeps (fun i => i = kb) w84 wz) 9 (by kernel_rfl) (by kernel_rfl) (by kernel_rfl) (fun w88 K89 _ _ => ⟨(K89.mono (fun _ _ h => h.elim)), ?_⟩)
       replace K0 := K0.tn K89
       replace Hb := Hb.keep K89 (fun h => h)
       replace Hm86 := Hm86.keep K89 (fun h => h)
       replace Hk := Hk.keep K89 (fun h => h)
       replace H58 := H58.keep K89 (fun h => h)
       replace H10 := H10.keep K89 (fun h => h)
       replace H67 := H67.keep K89 (fun h => h)
       replace H81 := H81.keep K89 (fun h => h)
       refine Dr.strong (S' := (fun wz => Keeps (fun i => i = kb) w88 wz)) ((Keeps.refl w88).mono (fun _ _ h => h.elim)) (fun wz hx => K89.trans hx (fun i _ h => h.elim) (fun _ _ h => h)) ?_
       clear K89
       refine Dr.takes (fuel' := 6) (is' := _) [0, 1, 2] [(3, (ptr b1)), (4, (ptr b7)), (8, (ptr b60)), (11, (i64 (actE S (plainE o)))), (80, (Value.pointer (some ⟨b, 1, none⟩)))] (by kernel_rfl) rfl (by kernel_rfl) ?_
       refine Dr.take (i := 3) (v := (Value.map (some kb))) (by kernel_rfl) (by kernel_rfl) (fun wz hS => Runs.load (t := 108) (a := ⟨b, 1, none⟩) (by kernel_rfl) ((Hb.keep hS (by intro h; change b = kb at h; omega)).loads (by kernel_rfl))) (d := (some 81)) (by kernel_rfl) rfl ?_
       refine Dr.take (i := 4) (v := (agg [(Value.string (str o.frm)), (Value.string (str o.key))])) (by kernel_rfl) (by kernel_rfl) (fun wz hS => Runs.load (t := 116) (a := ⟨b60, 0, none⟩) (by kernel_rfl) ((H67.keep hS (by intro h; change b60 = kb at h; omega)).loads (by kernel_rfl))) (d := (some 82)) (by kernel_rfl) rfl ?_
       refine Dr.take (i := 5) (v := (agg [(i64 o.kind), (Value.string (str o.frm)), (Value.string (str ((plainE o).to))), (i64 ((plainE o).amount)), (Value.string (str o.key)), (i64 0), (i64 0)])) (by kernel_rfl) (by kernel_rfl) (fun wz hS => Runs.load (t := 24) (a := ⟨b1, 0, none⟩) (by kernel_rfl) ((H58.keep hS (by intro h; change b1 = kb at h; omega)).loads (by kernel_rfl))) (d := (some 83)) (by kernel_rfl) rfl ?_
       refine Dr.takes (fuel' := 1) (is' := _) [6, 7] [(4, (ptr b7)), (11, (i64 (actE S (plainE o)))), (81, (Value.map (some kb))), (82, (agg [(Value.string (str o.frm)), (Value.string (str o.key))])), (85, (agg [(i64 o.kind), (Value.string (str o.frm)), (Value.string (str ((plainE o).to))), (i64 ((plainE o).amount)), (Value.string (str o.key)), (i64 0), (i64 0), (i64 (actE S (plainE o)))]))] (by kernel_rfl) rfl (by kernel_rfl) ?_
       obtain ⟨w90, hr91, K92, H93⟩ := HasMap.update KT2 Tryd.underlying108 Hk (o.frm, o.key) (⟨(plainE o), actE S (plainE o)⟩ : KeptM)
       refine Dr.goU (i := 8) (by kernel_rfl) (by kernel_rfl) (RunsU.of_update (by kernel_rfl) hr91) (d := none) (by kernel_rfl) rfl K92 ?_
       clear Hk
       replace K0 := K0.trans K92 (U := (fun i => i = mb ∨ i = kb)) (fun i h1 h2 => h2) (fun i h1 h2 => by have h2 : i = kb := h2; show i = mb ∨ i = kb; omega)
       replace Hb := Hb.k1 K92 (by omega)
       replace Hm86 := Hm86.k1 K92 (by omega)
       replace H58 := H58.k1 K92 (by omega)
       replace H10 := H10.k1 K92 (by omega)
       replace H67 := H67.k1 K92 (by omega)
       replace H81 := H81.k1 K92 (by omega)
       refine Dr.strong (S' := (fun wz => Keeps (fun i => i = kb) w90 wz)) ((Keeps.refl w90).mono (fun _ _ h => h.elim)) (fun wz hx => K92.trans hx (fun i _ h => by have h : i = kb := h; show i = kb; omega) (fun _ _ h => h)) ?_
       clear K92 hr91
       refine Dr.done (by kernel_rfl) ?_
       refine qs ?_
       refine qg ?_
       refine og 2 [(4, (ptr b7)), (87, (agg [(i64 (actE S (plainE o))), (i64 0), (Value.slice none 0 0)]))] 2 ?_
       refine Ops.put (t := 28) (b := b7) (off := 0) (v := (agg [(i64 (actE S (plainE o))), (i64 0), (Value.slice none 0 0)])) (ys := [(i64 (actE S (plainE o))), (i64 0), (Value.slice none 0 0)]) (by kernel_rfl) (by kernel_rfl) H10 (by kernel_rfl) (d := none) (by kernel_rfl) rfl (fun w94 H95 K96 => ?_)
       clear H10
       replace K0 := K0.trans K96 (U := (fun i => i = mb ∨ i = kb)) (fun i h1 h2 => h2) (fun i h1 h2 => by have h2 : i = b7 := h2; show i = mb ∨ i = kb; omega)
       replace Hb := Hb.k1 K96 (by omega)
       replace Hm86 := Hm86.k1 K96 (by omega)
       replace H93 := H93.k1 K96 (by omega)
       replace H58 := H58.k1 K96 (by omega)
       replace H67 := H67.k1 K96 (by omega)
       replace H81 := H81.k1 K96 (by omega)
       clear K96
       refine od ?_
       refine q_ret (by kernel_rfl) ?_
       refine ⟨(agg [(i64 (actE S (plainE o))), (i64 0), (Value.slice none 0 0)]), retv_cell rfl rfl (H95.loads (by kernel_rfl)), ?_⟩
       have e0 := do_fresh (S := S) (K := K) (o := o) hw (by omega) (by omega) (by omega) hk73
       obtain ⟨e1, e2, e3⟩ := e0
       rw [e1, e2, e3]
       exact ⟨_, none, 0, rfl, K0, Hm86, by have h := H93; rwa [show putM (K.map KeptM.kv) (o.frm, o.key) (⟨plainE o, actE S (plainE o)⟩ : KeptM) = _ from putM_kept (x := ⟨plainE o, actE S (plainE o)⟩) hk73] at h, hB.fresh hw (by omega) (by omega) (by omega) hk73 hr hL87, (OwnT.nil _ _ _ _ _)⟩
      ·skip
       have hk97 : findK K o.frm o.key = some y72 := hg71
       have hy98 := hB.ledg.ok _ (findK_some hk97).1
       have hy99 := hy98.why
       have hy100 := hy98.kind
       refine Dr.take (i := 5) (v := (Value.tuple #[(agg [(i64 y72.op.kind), (Value.string (str y72.op.frm)), (Value.string (str y72.op.to)), (i64 y72.op.amount), (Value.string (str y72.op.key)), (i64 y72.op.slot), (i64 y72.op.shard), (i64 y72.why)]), (Value.bool true)])) (by kernel_rfl) (by kernel_rfl) (fun wz hS => Runs.lookup_some (ok := true) (vf := keptv) (a := (⟨y72.op, y72.why⟩ : KeptM)) KT2 Tryd.underlying108 (Hk.keep hS (fun h => h)) hg71 (by kernel_rfl)) (d := (some 61)) (by kernel_rfl) rfl ?_
       refine Dr.takes (fuel' := 3) (is' := _) [6, 7, 8] [(0, (ptr b)), (3, (ptr b1)), (4, (ptr b7)), (6, (i64 0)), (7, (Value.bool false)), (8, (ptr b60)), (62, (agg [(i64 y72.op.kind), (Value.string (str y72.op.frm)), (Value.string (str y72.op.to)), (i64 y72.op.amount), (Value.string (str y72.op.key)), (i64 y72.op.slot), (i64 y72.op.shard), (i64 y72.why)])), (63, (Value.bool true))] (by kernel_rfl) rfl (by kernel_rfl) ?_
       refine Dr.new (i := 9) (o := rowL [(i64 0), (Value.string ByteArray.empty), (Value.string ByteArray.empty), (i64 0), (Value.string ByteArray.empty), (i64 0), (i64 0), (i64 0)] 118) (V := fun b => (ptr b)) (by kernel_rfl) (by kernel_rfl) (d := (some 9)) (by kernel_rfl) (fun b => rfl) (fun b101 w102 hb103 H104 K105 hs106 => ?_)
       have lb101b : b < b101 := by have := Hb.lt; omega
       have lb101mb : mb < b101 := by have := Hm.lt; omega
       have lb101kb : kb < b101 := by have := Hk.lt; omega
       have lb101b1 : b1 < b101 := by have := H58.lt; omega
       have lb101b7 : b7 < b101 := by have := H10.lt; omega
       have lb101b60 : b60 < b101 := by have := H67.lt; omega
       have nb101 : w.heap.size ≤ b101 := by have := K0.size; omega
       replace K0 := K0.tn K105
       replace Hb := Hb.keep K105 (fun h => h)
       replace Hm := Hm.keep K105 (fun h => h)
       replace Hk := Hk.keep K105 (fun h => h)
       replace H58 := H58.keep K105 (fun h => h)
       replace H10 := H10.keep K105 (fun h => h)
       replace H67 := H67.keep K105 (fun h => h)
       refine ⟨K105, ?_⟩
       refine Dr.strong (S' := (fun wz => Keeps (fun i => i = b101) w102 wz)) ((Keeps.refl w102).mono (fun _ _ h => h.elim)) (fun wz hx => K105.trans hx (U := none_) (fun i _ h => h) (fun i hi h => by have h : i = b101 := h; exfalso; omega)) ?_
       clear K105 hs106
       refine Dr.put (i := 10) (t := 118) (b := b101) (off := 0) (v := (agg [(i64 y72.op.kind), (Value.string (str y72.op.frm)), (Value.string (str y72.op.to)), (i64 y72.op.amount), (Value.string (str y72.op.key)), (i64 y72.op.slot), (i64 y72.op.shard), (i64 y72.why)])) (ys := [(i64 y72.op.kind), (Value.string (str y72.op.frm)), (Value.string (str y72.op.to)), (i64 y72.op.amount), (Value.string (str y72.op.key)), (i64 y72.op.slot), (i64 y72.op.shard), (i64 y72.why)]) (by kernel_rfl) (by kernel_rfl) (by kernel_rfl) H104 (by kernel_rfl) (d := none) (by kernel_rfl) rfl (fun w107 H108 K109 => ?_)
       clear H104
       replace K0 := K0.trans K109 (U := (fun i => i = mb ∨ i = kb)) (fun i h1 h2 => h2) (fun i h1 h2 => by have h2 : i = b101 := h2; show i = mb ∨ i = kb; omega)
       replace Hb := Hb.k1 K109 (by omega)
       replace Hm := Hm.k1 K109 (by omega)
       replace Hk := Hk.k1 K109 (by omega)
       replace H58 := H58.k1 K109 (by omega)
       replace H10 := H10.k1 K109 (by omega)
       replace H67 := H67.k1 K109 (by omega)
       refine ⟨K109, ?_⟩
       refine Dr.strong (S' := (fun wz => Keeps (fun i => i = b101) w107 wz)) ((Keeps.refl w107).mono (fun _ _ h => h.elim)) (fun wz hx => K109.trans hx (fun i _ h => by have h : i = b101 := h; show i = b101; omega) (fun _ _ h => h)) ?_
       clear K109
       refine Dr.takes (fuel' := 0) (is' := _) [11] [(0, (ptr b)), (3, (ptr b1)), (4, (ptr b7)), (6, (i64 0)), (7, (Value.bool false)), (8, (ptr b60)), (9, (ptr b101)), (10, (Value.bool true))] (by kernel_rfl) rfl (by kernel_rfl) ?_
       refine Dr.done (by kernel_rfl) ?_
       refine qs ?_
       refine qg ?_
       refine og 1 [(0, (ptr b)), (3, (ptr b1)), (4, (ptr b7)), (6, (i64 0)), (7, (Value.bool false)), (8, (ptr b60)), (9, (ptr b101)), (64, (Value.bool true))] 1 ?_
       refine od ?_
       refine q_then (o := .tmp 64) (by kernel_rfl) rfl ?_
       refine qs ?_
       refine qs ?_
       refine qg ?_
       refine og 1 [(0, (ptr b)), (3, (ptr b1)), (4, (ptr b7)), (6, (i64 0)), (7, (Value.bool false)), (8, (ptr b60)), (9, (ptr b101)), (65, (ptr b101))] 1 ?_
       refine Ops.go (v := (agg [(i64 y72.op.kind), (Value.string (str y72.op.frm)), (Value.string (str y72.op.to)), (i64 y72.op.amount), (Value.string (str y72.op.key)), (i64 y72.op.slot), (i64 y72.op.shard)])) (by kernel_rfl) (Runs.load (t := 24) (a := ⟨b101, 0, none⟩) (by kernel_rfl) (H108.loads (by kernel_rfl))) (d := (some 66)) (by kernel_rfl) rfl ?_
       refine Ops.go (v := (agg [(i64 o.kind), (Value.string (str o.frm)), (Value.string (str ((plainE o).to))), (i64 ((plainE o).amount)), (Value.string (str o.key)), (i64 0), (i64 0)])) (by kernel_rfl) (Runs.load (t := 24) (a := ⟨b1, 0, none⟩) (by kernel_rfl) (H58.loads (by kernel_rfl))) (d := (some 67)) (by kernel_rfl) rfl ?_
       refine Ops.go (v := (Value.bool (!(aggB [(i64 y72.op.kind), (Value.string (str y72.op.frm)), (Value.string (str y72.op.to)), (i64 y72.op.amount), (Value.string (str y72.op.key)), (i64 y72.op.slot), (i64 y72.op.shard)] [(i64 o.kind), (Value.string (str o.frm)), (Value.string (str ((plainE o).to))), (i64 ((plainE o).amount)), (Value.string (str o.key)), (i64 0), (i64 0)])))) (by kernel_rfl) (Runs.aggne (t := 24) (by kernel_rfl) (by kernel_rfl)) (d := (some 68)) (by kernel_rfl) rfl ?_
       refine od ?_
       refine q_cond (o := .tmp 68) (b := (!(aggB [(i64 y72.op.kind), (Value.string (str y72.op.frm)), (Value.string (str y72.op.to)), (i64 y72.op.amount), (Value.string (str y72.op.key)), (i64 y72.op.slot), (i64 y72.op.shard)] [(i64 o.kind), (Value.string (str o.frm)), (Value.string (str ((plainE o).to))), (i64 ((plainE o).amount)), (Value.string (str o.key)), (i64 0), (i64 0)]))) (by kernel_rfl) rfl (fun h110 => ?_) (fun h110 => ?_)
       ·rw [h110]
        have p111 : (aggB [(i64 y72.op.kind), (Value.string (str y72.op.frm)), (Value.string (str y72.op.to)), (i64 y72.op.amount), (Value.string (str y72.op.key)), (i64 y72.op.slot), (i64 y72.op.shard)] [(i64 o.kind), (Value.string (str o.frm)), (Value.string (str ((plainE o).to))), (i64 ((plainE o).amount)), (Value.string (str o.key)), (i64 0), (i64 0)]) = false := (bnot_true h110)
        refine qs ?_
        refine qg ?_
        refine og 1 [(0, (ptr b)), (3, (ptr b1)), (4, (ptr b7)), (6, (i64 0)), (7, (Value.bool false)), (8, (ptr b60)), (9, (ptr b101)), (69, (agg [(i64 45), (i64 0), (Value.slice none 0 0)]))] 1 ?_
        refine Ops.put (t := 28) (b := b7) (off := 0) (v := (agg [(i64 45), (i64 0), (Value.slice none 0 0)])) (ys := [(i64 45), (i64 0), (Value.slice none 0 0)]) (by kernel_rfl) (by kernel_rfl) H10 (by kernel_rfl) (d := none) (by kernel_rfl) rfl (fun w112 H113 K114 => ?_)
        clear H10
        replace K0 := K0.trans K114 (U := (fun i => i = mb ∨ i = kb)) (fun i h1 h2 => h2) (fun i h1 h2 => by have h2 : i = b7 := h2; show i = mb ∨ i = kb; omega)
        replace Hb := Hb.k1 K114 (by omega)
        replace Hm := Hm.k1 K114 (by omega)
        replace Hk := Hk.k1 K114 (by omega)
        replace H58 := H58.k1 K114 (by omega)
        replace H67 := H67.k1 K114 (by omega)
        replace H108 := H108.k1 K114 (by omega)
        clear K114
        refine od ?_
        refine q_ret (by kernel_rfl) ?_
        refine ⟨(agg [(i64 45), (i64 0), (Value.slice none 0 0)]), retv_cell rfl rfl (H113.loads (by kernel_rfl)), ?_⟩
        have e0 := do_other (S := S) (K := K) (o := o) hw (by omega) (by omega) (by omega) hk97 (bnot_true h110)
        obtain ⟨e1, e2, e3⟩ := e0
        rw [e1, e2, e3]
        exact ⟨_, none, 0, rfl, K0, Hm, Hk, hB, (OwnT.nil _ _ _ _ _)⟩
       ·rw [h110]
        have p115 : (aggB [(i64 y72.op.kind), (Value.string (str y72.op.frm)), (Value.string (str y72.op.to)), (i64 y72.op.amount), (Value.string (str y72.op.key)), (i64 y72.op.slot), (i64 y72.op.shard)] [(i64 o.kind), (Value.string (str o.frm)), (Value.string (str ((plainE o).to))), (i64 ((plainE o).amount)), (Value.string (str o.key)), (i64 0), (i64 0)]) = true := (bnot_false h110)
        refine q_skip (by kernel_rfl) ?_
        refine qs ?_
        refine qg ?_
        refine og 1 [(0, (ptr b)), (3, (ptr b1)), (4, (ptr b7)), (6, (i64 0)), (7, (Value.bool false)), (8, (ptr b60)), (70, (Value.pointer (some ⟨b101, 7, none⟩)))] 1 ?_
        refine Ops.go (v := (i64 y72.why)) (by kernel_rfl) (Runs.load (t := 25) (a := ⟨b101, 7, none⟩) (by kernel_rfl) (H108.loads (by kernel_rfl))) (d := (some 71)) (by kernel_rfl) rfl ?_
        refine og 1 [(0, (ptr b)), (3, (ptr b1)), (4, (ptr b7)), (6, (i64 0)), (7, (Value.bool false)), (8, (ptr b60)), (72, (agg [(i64 y72.why), (i64 0), (Value.slice none 0 0)]))] 3 ?_
        refine Ops.put (t := 28) (b := b7) (off := 0) (v := (agg [(i64 y72.why), (i64 0), (Value.slice none 0 0)])) (ys := [(i64 y72.why), (i64 0), (Value.slice none 0 0)]) (by kernel_rfl) (by kernel_rfl) H10 (by kernel_rfl) (d := none) (by kernel_rfl) rfl (fun w116 H117 K118 => ?_)
        clear H10
        replace K0 := K0.trans K118 (U := (fun i => i = mb ∨ i = kb)) (fun i h1 h2 => h2) (fun i h1 h2 => by have h2 : i = b7 := h2; show i = mb ∨ i = kb; omega)
        replace Hb := Hb.k1 K118 (by omega)
        replace Hm := Hm.k1 K118 (by omega)
        replace Hk := Hk.k1 K118 (by omega)
        replace H58 := H58.k1 K118 (by omega)
        replace H67 := H67.k1 K118 (by omega)
        replace H108 := H108.k1 K118 (by omega)
        clear K118
        refine od ?_
        refine q_ret (by kernel_rfl) ?_
        refine ⟨(agg [(i64 y72.why), (i64 0), (Value.slice none 0 0)]), retv_cell rfl rfl (H117.loads (by kernel_rfl)), ?_⟩
        have e0 := do_again (S := S) (K := K) (o := o) hw (by omega) (by omega) (by omega) hk97 (bnot_false h110)
        obtain ⟨e1, e2, e3⟩ := e0
        rw [e1, e2, e3]
        exact ⟨_, none, 0, rfl, K0, Hm, Hk, hB, (OwnT.nil _ _ _ _ _)⟩
  ·skip
   obtain ⟨hw119, hr120, hr121⟩ := hL.got_some hg23
   refine Dr.take (i := 6) (v := (Value.tuple #[(i64 y24), (Value.bool true)])) (by kernel_rfl) (by kernel_rfl) (fun wz hS => Runs.lookup_some (ok := true) (vf := ki64) (a := y24) KT Tryd.underlying107 (Hm.keep hS (fun h => h)) hg23 (by kernel_rfl)) (d := (some 28)) (by kernel_rfl) rfl ?_
   refine Dr.takes (fuel' := 0) (is' := _) [7, 8, 9, 10, 11] [(0, (ptr b)), (3, (ptr b1)), (4, (ptr b7)), (6, (i64 y24)), (7, (Value.bool true))] (by kernel_rfl) rfl (by kernel_rfl) ?_
   refine Dr.done (by kernel_rfl) ?_
   refine qs ?_
   refine qs ?_
   refine qg ?_
   refine og 1 [(0, (ptr b)), (3, (ptr b1)), (4, (ptr b7)), (6, (i64 y24)), (7, (Value.bool true)), (31, (ptr b1))] 1 ?_
   refine Ops.go (v := (i64 o.kind)) (by kernel_rfl) (Runs.load (t := 3) (a := ⟨b1, 0, none⟩) (by kernel_rfl) (H4.loads (by kernel_rfl))) (d := (some 32)) (by kernel_rfl) rfl ?_
   refine od ?_
   refine q_block (id := 0) (by kernel_rfl) ?_
   refine qs ?_
   refine qg ?_
   refine og 2 [(0, (ptr b)), (3, (ptr b1)), (4, (ptr b7)), (6, (i64 y24)), (7, (Value.bool true)), (32, (i64 o.kind)), (33, (Value.bool (o.kind == 7)))] 2 ?_
   refine od ?_
   refine q_cond (o := .tmp 33) (b := (o.kind == 7)) (by kernel_rfl) rfl (fun h122 => ?_) (fun h122 => ?_)
   ·rw [h122]
    have p123 : o.kind = 7 := of_beq_t h122
    refine qs ?_
    refine qg ?_
    refine og 1 [(0, (ptr b)), (3, (ptr b1)), (4, (ptr b7)), (6, (i64 y24)), (7, (Value.bool true)), (32, (i64 o.kind)), (35, (agg [(i64 0), (i64 0), (Value.slice none 0 0)]))] 1 ?_
    refine Ops.put (t := 28) (b := b7) (off := 0) (v := (agg [(i64 0), (i64 0), (Value.slice none 0 0)])) (ys := [(i64 0), (i64 0), (Value.slice none 0 0)]) (by kernel_rfl) (by kernel_rfl) H10 (by kernel_rfl) (d := none) (by kernel_rfl) rfl (fun w124 H125 K126 => ?_)
    clear H10
    replace K0 := K0.trans K126 (U := (fun i => i = mb ∨ i = kb)) (fun i h1 h2 => h2) (fun i h1 h2 => by have h2 : i = b7 := h2; show i = mb ∨ i = kb; omega)
    replace Hb := Hb.k1 K126 (by omega)
    replace Hm := Hm.k1 K126 (by omega)
    replace Hk := Hk.k1 K126 (by omega)
    replace H4 := H4.k1 K126 (by omega)
    clear K126
    refine od ?_
    refine q_ret (by kernel_rfl) ?_
    refine ⟨(agg [(i64 0), (i64 0), (Value.slice none 0 0)]), retv_cell rfl rfl (H125.loads (by kernel_rfl)), ?_⟩
    have e0 := do_move (S := S) (K := K) (o := o) hw (by omega)
    obtain ⟨e1, e2, e3⟩ := e0
    rw [e1, e2, e3]
    exact ⟨_, none, 0, rfl, K0, Hm, Hk, hB, (OwnT.nil _ _ _ _ _)⟩
   ·rw [h122]
    have p127 : ¬ (o.kind = 7) := of_beq_f h122
    refine qs ?_
    refine qg ?_
    refine og 2 [(0, (ptr b)), (3, (ptr b1)), (4, (ptr b7)), (6, (i64 y24)), (7, (Value.bool true)), (32, (i64 o.kind)), (36, (Value.bool (o.kind == 6)))] 2 ?_
    refine od ?_
    refine q_cond (o := .tmp 36) (b := (o.kind == 6)) (by kernel_rfl) rfl (fun h128 => ?_) (fun h128 => ?_)
    ·rw [h128]
     have p129 : o.kind = 6 := of_beq_t h128
     refine qs ?_
     refine qg ?_
     refine og 1 [(0, (ptr b)), (3, (ptr b1)), (4, (ptr b7)), (6, (i64 y24)), (7, (Value.bool true)), (32, (i64 o.kind)), (38, (ptr b))] 1 ?_
     refine Ops.call (by kernel_rfl) (d := (some 39)) (by kernel_rfl) (rows_calls _ b mb kb m S Hb Hm (by omega) hL (by omega)) ?_
     rintro _ w132 ⟨A130, c131, rfl, K133, hO134⟩
     have ob136 : ∀ i, ((Value.slice A130 S.length c131)).ownBlock = some i → i ≠ b := fun i hi => by have := (World.ownsRow.lt hO134 i hi).1; have := Hb.lt; omega
     have ob137 : ∀ i, ((Value.slice A130 S.length c131)).ownBlock = some i → i ≠ mb := fun i hi => by have := (World.ownsRow.lt hO134 i hi).1; have := Hm.lt; omega
     have ob138 : ∀ i, ((Value.slice A130 S.length c131)).ownBlock = some i → i ≠ kb := fun i hi => by have := (World.ownsRow.lt hO134 i hi).1; have := Hk.lt; omega
     have ob139 : ∀ i, ((Value.slice A130 S.length c131)).ownBlock = some i → i ≠ b1 := fun i hi => by have := (World.ownsRow.lt hO134 i hi).1; have := H4.lt; omega
     have ob140 : ∀ i, ((Value.slice A130 S.length c131)).ownBlock = some i → i ≠ b7 := fun i hi => by have := (World.ownsRow.lt hO134 i hi).1; have := H10.lt; omega
     have O135 := own_base hO134 K0.size
     clear hO134
     refine ⟨_, _, rfl, rfl, ?_⟩
     replace K0 := K0.tn K133
     replace Hb := Hb.keep K133 (fun h => h)
     replace Hm := Hm.keep K133 (fun h => h)
     replace Hk := Hk.keep K133 (fun h => h)
     replace H4 := H4.keep K133 (fun h => h)
     replace H10 := H10.keep K133 (fun h => h)
     clear K133
     refine og 1 [(0, (ptr b)), (3, (ptr b1)), (4, (ptr b7)), (6, (i64 y24)), (7, (Value.bool true)), (32, (i64 o.kind)), (40, (agg [(i64 0), (i64 0), (Value.slice A130 S.length c131)]))] 3 ?_
     refine Ops.put (t := 28) (b := b7) (off := 0) (v := (agg [(i64 0), (i64 0), (Value.slice A130 S.length c131)])) (ys := [(i64 0), (i64 0), (Value.slice A130 S.length c131)]) (by kernel_rfl) (by kernel_rfl) H10 (by kernel_rfl) (d := none) (by kernel_rfl) rfl (fun w141 H142 K143 => ?_)
     clear H10
     replace K0 := K0.trans K143 (U := (fun i => i = mb ∨ i = kb)) (fun i h1 h2 => h2) (fun i h1 h2 => by have h2 : i = b7 := h2; show i = mb ∨ i = kb; omega)
     replace Hb := Hb.k1 K143 (by omega)
     replace Hm := Hm.k1 K143 (by omega)
     replace Hk := Hk.k1 K143 (by omega)
     replace H4 := H4.k1 K143 (by omega)
     replace O135 := own_keep O135 K143 (fun i hi => by have := ob140 i hi; omega)
     clear K143
     refine od ?_
     refine q_ret (by kernel_rfl) ?_
     refine ⟨(agg [(i64 0), (i64 0), (Value.slice A130 S.length c131)]), retv_cell rfl rfl (H142.loads (by kernel_rfl)), ?_⟩
     have e0 := do_audit (S := S) (K := K) (o := o) hw (by omega)
     obtain ⟨e1, e2, e3⟩ := e0
     rw [e1, e2, e3]
     exact ⟨_, A130, c131, rfl, K0, Hm, Hk, hB, O135⟩
    ·rw [h128]
     have p144 : ¬ (o.kind = 6) := of_beq_f h128
     refine qs ?_
     refine qg ?_
     refine og 2 [(0, (ptr b)), (3, (ptr b1)), (4, (ptr b7)), (6, (i64 y24)), (7, (Value.bool true)), (41, (Value.bool (o.kind == 5)))] 2 ?_
     refine od ?_
     refine q_cond (o := .tmp 41) (b := (o.kind == 5)) (by kernel_rfl) rfl (fun h145 => ?_) (fun h145 => ?_)
     ·rw [h145]
      have p146 : o.kind = 5 := of_beq_t h145
      refine qs ?_
      refine qs ?_
      refine qg ?_
      refine og 2 [(0, (ptr b)), (3, (ptr b1)), (4, (ptr b7)), (6, (i64 y24)), (7, (Value.bool true)), (44, (Value.bool false))] 2 ?_
      refine od ?_
      refine q_else (o := .tmp 44) (by kernel_rfl) rfl ?_
      refine q_skip (by kernel_rfl) ?_
      refine qs ?_
      refine qg ?_
      refine og 2 [(0, (ptr b)), (3, (ptr b1)), (4, (ptr b7)), (6, (i64 y24)), (7, (Value.bool true)), (47, (agg [(i64 0), (i64 y24), (Value.slice none 0 0)]))] 2 ?_
      refine Ops.put (t := 28) (b := b7) (off := 0) (v := (agg [(i64 0), (i64 y24), (Value.slice none 0 0)])) (ys := [(i64 0), (i64 y24), (Value.slice none 0 0)]) (by kernel_rfl) (by kernel_rfl) H10 (by kernel_rfl) (d := none) (by kernel_rfl) rfl (fun w147 H148 K149 => ?_)
      clear H10
      replace K0 := K0.trans K149 (U := (fun i => i = mb ∨ i = kb)) (fun i h1 h2 => h2) (fun i h1 h2 => by have h2 : i = b7 := h2; show i = mb ∨ i = kb; omega)
      replace Hb := Hb.k1 K149 (by omega)
      replace Hm := Hm.k1 K149 (by omega)
      replace Hk := Hk.k1 K149 (by omega)
      replace H4 := H4.k1 K149 (by omega)
      clear K149
      refine od ?_
      refine q_ret (by kernel_rfl) ?_
      refine ⟨(agg [(i64 0), (i64 y24), (Value.slice none 0 0)]), retv_cell rfl rfl (H148.loads (by kernel_rfl)), ?_⟩
      have e0 := do_bal_some (S := S) (K := K) (o := o) hw (by omega) hw119
      obtain ⟨e1, e2, e3⟩ := e0
      rw [e1, e2, e3]
      exact ⟨_, none, 0, rfl, K0, Hm, Hk, hB, (OwnT.nil _ _ _ _ _)⟩
     ·rw [h145]
      have p150 : ¬ (o.kind = 5) := of_beq_f h145
      have hwa := wrong_act hw (by omega) (by omega) (by omega)
      have hro : -9223372036854775808 ≤ (plainE o).amount ∧ (plainE o).amount ≤ 9223372036854775807 := by unfold plainE; simp only; split <;> omega
      refine q_skip (by kernel_rfl) ?_
      refine qs ?_
      refine qg ?_
      refine Ops.go (v := (agg [(i64 o.kind), (Value.string (str o.frm)), (Value.string (str o.to)), (i64 o.amount), (Value.string (str o.key)), (i64 o.slot), (i64 o.shard)])) (by kernel_rfl) (Runs.load (t := 24) (a := ⟨b1, 0, none⟩) (by kernel_rfl) (H4.loads (by kernel_rfl))) (d := (some 48)) (by kernel_rfl) rfl ?_
      refine Ops.call (by kernel_rfl) (d := (some 49)) (by kernel_rfl) (plain_calls _ o) ?_
      rintro _ w152 ⟨rfl, K151⟩
      refine ⟨_, _, rfl, rfl, ?_⟩
      replace K0 := K0.tn K151
      replace Hb := Hb.keep K151 (fun h => h)
      replace Hm := Hm.keep K151 (fun h => h)
      replace Hk := Hk.keep K151 (fun h => h)
      replace H4 := H4.keep K151 (fun h => h)
      replace H10 := H10.keep K151 (fun h => h)
      clear K151
      refine Ops.put (t := 24) (b := b1) (off := 0) (v := (agg [(i64 o.kind), (Value.string (str o.frm)), (Value.string (str ((plainE o).to))), (i64 ((plainE o).amount)), (Value.string (str o.key)), (i64 0), (i64 0)])) (ys := [(i64 o.kind), (Value.string (str o.frm)), (Value.string (str ((plainE o).to))), (i64 ((plainE o).amount)), (Value.string (str o.key)), (i64 0), (i64 0)]) (by kernel_rfl) (by kernel_rfl) H4 (by kernel_rfl) (d := none) (by kernel_rfl) rfl (fun w153 H154 K155 => ?_)
      clear H4
      replace K0 := K0.trans K155 (U := (fun i => i = mb ∨ i = kb)) (fun i h1 h2 => h2) (fun i h1 h2 => by have h2 : i = b1 := h2; show i = mb ∨ i = kb; omega)
      replace Hb := Hb.k1 K155 (by omega)
      replace Hm := Hm.k1 K155 (by omega)
      replace Hk := Hk.k1 K155 (by omega)
      replace H10 := H10.k1 K155 (by omega)
      clear K155
      refine od ?_
      refine qs ?_
      refine qg ?_
      refine og 1 [(0, (ptr b)), (3, (ptr b1)), (4, (ptr b7)), (6, (i64 y24)), (7, (Value.bool true)), (50, (Value.pointer (some ⟨b1, 1, none⟩)))] 1 ?_
      refine Ops.go (v := (Value.string (str o.frm))) (by kernel_rfl) (Runs.load (t := 9) (a := ⟨b1, 1, none⟩) (by kernel_rfl) (H154.loads (by kernel_rfl))) (d := (some 51)) (by kernel_rfl) rfl ?_
      refine og 1 [(0, (ptr b)), (3, (ptr b1)), (4, (ptr b7)), (6, (i64 y24)), (7, (Value.bool true)), (51, (Value.string (str o.frm))), (52, (Value.pointer (some ⟨b1, 4, none⟩)))] 3 ?_
      refine Ops.go (v := (Value.string (str o.key))) (by kernel_rfl) (Runs.load (t := 9) (a := ⟨b1, 4, none⟩) (by kernel_rfl) (H154.loads (by kernel_rfl))) (d := (some 53)) (by kernel_rfl) rfl ?_
      refine og 1 [(0, (ptr b)), (3, (ptr b1)), (4, (ptr b7)), (6, (i64 y24)), (7, (Value.bool true)), (54, (agg [(Value.string (str o.frm)), (Value.string (str o.key))]))] 5 ?_
      refine Ops.new (o := rowL [(Value.string ByteArray.empty), (Value.string ByteArray.empty)] 116) (V := fun b => (ptr b)) (by kernel_rfl) (d := (some 8)) (by kernel_rfl) (fun b => rfl) (fun b156 w157 hb158 H159 K160 hs161 => ?_)
      have lb156b : b < b156 := by have := Hb.lt; omega
      have lb156mb : mb < b156 := by have := Hm.lt; omega
      have lb156kb : kb < b156 := by have := Hk.lt; omega
      have lb156b1 : b1 < b156 := by have := H154.lt; omega
      have lb156b7 : b7 < b156 := by have := H10.lt; omega
      have nb156 : w.heap.size ≤ b156 := by have := K0.size; omega
      replace K0 := K0.tn K160
      replace Hb := Hb.keep K160 (fun h => h)
      replace Hm := Hm.keep K160 (fun h => h)
      replace Hk := Hk.keep K160 (fun h => h)
      replace H154 := H154.keep K160 (fun h => h)
      replace H10 := H10.keep K160 (fun h => h)
      clear K160 hs161
      refine Ops.put (t := 116) (b := b156) (off := 0) (v := (agg [(Value.string (str o.frm)), (Value.string (str o.key))])) (ys := [(Value.string (str o.frm)), (Value.string (str o.key))]) (by kernel_rfl) (by kernel_rfl) H159 (by kernel_rfl) (d := none) (by kernel_rfl) rfl (fun w162 H163 K164 => ?_)
      clear H159
      replace K0 := K0.trans K164 (U := (fun i => i = mb ∨ i = kb)) (fun i h1 h2 => h2) (fun i h1 h2 => by have h2 : i = b156 := h2; show i = mb ∨ i = kb; omega)
      replace Hb := Hb.k1 K164 (by omega)
      replace Hm := Hm.k1 K164 (by omega)
      replace Hk := Hk.k1 K164 (by omega)
      replace H154 := H154.k1 K164 (by omega)
      replace H10 := H10.k1 K164 (by omega)
      clear K164
      refine od ?_
      refine qs ?_
      refine qs ?_
      refine q_draw (fun wz => Keeps none_ w162 wz) 12 (by kernel_rfl) (by kernel_rfl) (by kernel_rfl) (fun w165 K166 _ _ => ⟨K166, ?_⟩)
      replace K0 := K0.tn K166
      replace Hb := Hb.keep K166 (fun h => h)
      replace Hm := Hm.keep K166 (fun h => h)
      replace Hk := Hk.keep K166 (fun h => h)
      replace H154 := H154.keep K166 (fun h => h)
      replace H10 := H10.keep K166 (fun h => h)
      replace H163 := H163.keep K166 (fun h => h)
      refine Dr.strong (S' := (fun wz => Keeps none_ w165 wz)) (Keeps.refl w165) (fun wz hx => K166.trans hx (fun i _ h => h) (fun _ _ h => h)) ?_
      clear K166
      refine Dr.takes (fuel' := 9) (is' := _) [0, 1, 2] [(0, (ptr b)), (3, (ptr b1)), (4, (ptr b7)), (6, (i64 y24)), (7, (Value.bool true)), (8, (ptr b156)), (58, (Value.pointer (some ⟨b, 1, none⟩)))] (by kernel_rfl) rfl (by kernel_rfl) ?_
      refine Dr.take (i := 3) (v := (Value.map (some kb))) (by kernel_rfl) (by kernel_rfl) (fun wz hS => Runs.load (t := 108) (a := ⟨b, 1, none⟩) (by kernel_rfl) ((Hb.keep hS (fun h => h)).loads (by kernel_rfl))) (d := (some 59)) (by kernel_rfl) rfl ?_
      refine Dr.take (i := 4) (v := (agg [(Value.string (str o.frm)), (Value.string (str o.key))])) (by kernel_rfl) (by kernel_rfl) (fun wz hS => Runs.load (t := 116) (a := ⟨b156, 0, none⟩) (by kernel_rfl) ((H163.keep hS (fun h => h)).loads (by kernel_rfl))) (d := (some 60)) (by kernel_rfl) rfl ?_
      rcases hg167 : getM (K.map KeptM.kv) (o.frm, o.key) with _ | y168
      ·skip
       have hk169 : findK K o.frm o.key = none := hg167
       refine Dr.take (i := 5) (v := (Value.tuple #[(agg [(i64 0), (Value.string ByteArray.empty), (Value.string ByteArray.empty), (i64 0), (Value.string ByteArray.empty), (i64 0), (i64 0), (i64 0)]), (Value.bool false)])) (by kernel_rfl) (by kernel_rfl) (fun wz hS => Runs.lookup_none (ok := true) (z := (agg [(i64 0), (Value.string ByteArray.empty), (Value.string ByteArray.empty), (i64 0), (Value.string ByteArray.empty), (i64 0), (i64 0), (i64 0)])) KT2 Tryd.underlying108 (by kernel_rfl) (Hk.keep hS (fun h => h)) hg167 (by kernel_rfl)) (d := (some 61)) (by kernel_rfl) rfl ?_
       refine Dr.takes (fuel' := 3) (is' := _) [6, 7, 8] [(0, (ptr b)), (3, (ptr b1)), (4, (ptr b7)), (6, (i64 y24)), (7, (Value.bool true)), (8, (ptr b156)), (62, (agg [(i64 0), (Value.string ByteArray.empty), (Value.string ByteArray.empty), (i64 0), (Value.string ByteArray.empty), (i64 0), (i64 0), (i64 0)])), (63, (Value.bool false))] (by kernel_rfl) rfl (by kernel_rfl) ?_
       refine Dr.new (i := 9) (o := rowL [(i64 0), (Value.string ByteArray.empty), (Value.string ByteArray.empty), (i64 0), (Value.string ByteArray.empty), (i64 0), (i64 0), (i64 0)] 118) (V := fun b => (ptr b)) (by kernel_rfl) (by kernel_rfl) (d := (some 9)) (by kernel_rfl) (fun b => rfl) (fun b170 w171 hb172 H173 K174 hs175 => ?_)
       have lb170b : b < b170 := by have := Hb.lt; omega
       have lb170mb : mb < b170 := by have := Hm.lt; omega
       have lb170kb : kb < b170 := by have := Hk.lt; omega
       have lb170b1 : b1 < b170 := by have := H154.lt; omega
       have lb170b7 : b7 < b170 := by have := H10.lt; omega
       have lb170b156 : b156 < b170 := by have := H163.lt; omega
       have nb170 : w.heap.size ≤ b170 := by have := K0.size; omega
       replace K0 := K0.tn K174
       replace Hb := Hb.keep K174 (fun h => h)
       replace Hm := Hm.keep K174 (fun h => h)
       replace Hk := Hk.keep K174 (fun h => h)
       replace H154 := H154.keep K174 (fun h => h)
       replace H10 := H10.keep K174 (fun h => h)
       replace H163 := H163.keep K174 (fun h => h)
       refine ⟨K174, ?_⟩
       refine Dr.strong (S' := (fun wz => Keeps (fun i => i = b170) w171 wz)) ((Keeps.refl w171).mono (fun _ _ h => h.elim)) (fun wz hx => K174.trans hx (U := none_) (fun i _ h => h) (fun i hi h => by have h : i = b170 := h; exfalso; omega)) ?_
       clear K174 hs175
       refine Dr.put (i := 10) (t := 118) (b := b170) (off := 0) (v := (agg [(i64 0), (Value.string ByteArray.empty), (Value.string ByteArray.empty), (i64 0), (Value.string ByteArray.empty), (i64 0), (i64 0), (i64 0)])) (ys := [(i64 0), (Value.string ByteArray.empty), (Value.string ByteArray.empty), (i64 0), (Value.string ByteArray.empty), (i64 0), (i64 0), (i64 0)]) (by kernel_rfl) (by kernel_rfl) (by kernel_rfl) H173 (by kernel_rfl) (d := none) (by kernel_rfl) rfl (fun w176 H177 K178 => ?_)
       clear H173
       replace K0 := K0.trans K178 (U := (fun i => i = mb ∨ i = kb)) (fun i h1 h2 => h2) (fun i h1 h2 => by have h2 : i = b170 := h2; show i = mb ∨ i = kb; omega)
       replace Hb := Hb.k1 K178 (by omega)
       replace Hm := Hm.k1 K178 (by omega)
       replace Hk := Hk.k1 K178 (by omega)
       replace H154 := H154.k1 K178 (by omega)
       replace H10 := H10.k1 K178 (by omega)
       replace H163 := H163.k1 K178 (by omega)
       refine ⟨K178, ?_⟩
       refine Dr.strong (S' := (fun wz => Keeps (fun i => i = b170) w176 wz)) ((Keeps.refl w176).mono (fun _ _ h => h.elim)) (fun wz hx => K178.trans hx (fun i _ h => by have h : i = b170 := h; show i = b170; omega) (fun _ _ h => h)) ?_
       clear K178
       refine Dr.takes (fuel' := 0) (is' := _) [11] [(0, (ptr b)), (3, (ptr b1)), (4, (ptr b7)), (6, (i64 y24)), (7, (Value.bool true)), (8, (ptr b156)), (9, (ptr b170)), (10, (Value.bool false))] (by kernel_rfl) rfl (by kernel_rfl) ?_
       refine Dr.done (by kernel_rfl) ?_
       refine qs ?_
       refine qg ?_
       refine og 1 [(0, (ptr b)), (3, (ptr b1)), (4, (ptr b7)), (6, (i64 y24)), (7, (Value.bool true)), (8, (ptr b156)), (9, (ptr b170)), (64, (Value.bool false))] 1 ?_
       refine od ?_
       refine q_else (o := .tmp 64) (by kernel_rfl) rfl ?_
       refine q_skip (by kernel_rfl) ?_
       refine qs ?_
       refine qg ?_
       refine og 1 [(0, (ptr b)), (3, (ptr b1)), (4, (ptr b7)), (6, (i64 y24)), (7, (Value.bool true)), (8, (ptr b156)), (73, (ptr b))] 1 ?_
       refine Ops.go (v := (agg [(i64 o.kind), (Value.string (str o.frm)), (Value.string (str ((plainE o).to))), (i64 ((plainE o).amount)), (Value.string (str o.key)), (i64 0), (i64 0)])) (by kernel_rfl) (Runs.load (t := 24) (a := ⟨b1, 0, none⟩) (by kernel_rfl) (H154.loads (by kernel_rfl))) (d := (some 74)) (by kernel_rfl) rfl ?_
       refine og 2 [(0, (ptr b)), (3, (ptr b1)), (4, (ptr b7)), (8, (ptr b156)), (73, (ptr b)), (74, (agg [(i64 o.kind), (Value.string (str o.frm)), (Value.string (str ((plainE o).to))), (i64 ((plainE o).amount)), (Value.string (str o.key)), (i64 0), (i64 0)])), (75, (i64 y24)), (76, (Value.bool true))] 4 ?_
       refine Ops.call (by kernel_rfl) (d := (some 77)) (by kernel_rfl) (act_some _ b mb kb m S (plainE o) Hb Hm (by omega) hL hwa.1 hwa.2.1 (fun q => by have h1 := hwa.2.2.2.1 q; have h2 := plainE_amount o q; omega) hro (fun q => by have h2 := plainE_to o q; rw [h2]; exact (hwa.2.2.2.2 q).2) y24 hg23) ?_
       rintro _ w180 ⟨m179, rfl, K181, Hm182, hL183⟩
       refine ⟨_, _, rfl, rfl, ?_⟩
       replace K0 := K0.trans K181 (U := (fun i => i = mb ∨ i = kb)) (fun i h1 h2 => h2) (fun i h1 h2 => by have h2 : i = mb := h2; show i = mb ∨ i = kb; omega)
       replace Hb := Hb.k1 K181 (by omega)
       replace Hk := Hk.k1 K181 (by omega)
       replace H154 := H154.k1 K181 (by omega)
       replace H10 := H10.k1 K181 (by omega)
       replace H163 := H163.k1 K181 (by omega)
       replace H177 := H177.k1 K181 (by omega)
       clear K181
       refine og 1 [(0, (ptr b)), (3, (ptr b1)), (4, (ptr b7)), (8, (ptr b156)), (11, (i64 (actE S (plainE o))))] 6 ?_
       refine od ?_
       refine qs ?_
       refine q_draw (fun wz => Keeps (fun i => i = kb) w180 wz) 9 (by kernel_rfl) (by kernel_rfl) (by kernel_rfl) (fun w184 K185 _ _ => ⟨(K185.mono (fun _ _ h => h.elim)), ?_⟩)
       replace K0 := K0.tn K185
       replace Hb := Hb.keep K185 (fun h => h)
       replace Hm182 := Hm182.keep K185 (fun h => h)
       replace Hk := Hk.keep K185 (fun h => h)
       replace H154 := H154.keep K185 (fun h => h)
       replace H10 := H10.keep K185 (fun h => h)
       replace H163 := H163.keep K185 (fun h => h)
       replace H177 := H177.keep K185 (fun h => h)
       refine Dr.strong (S' := (fun wz => Keeps (fun i => i = kb) w184 wz)) ((Keeps.refl w184).mono (fun _ _ h => h.elim)) (fun wz hx => K185.trans hx (fun i _ h => h.elim) (fun _ _ h => h)) ?_
       clear K185
       refine Dr.takes (fuel' := 6) (is' := _) [0, 1, 2] [(3, (ptr b1)), (4, (ptr b7)), (8, (ptr b156)), (11, (i64 (actE S (plainE o)))), (80, (Value.pointer (some ⟨b, 1, none⟩)))] (by kernel_rfl) rfl (by kernel_rfl) ?_
       refine Dr.take (i := 3) (v := (Value.map (some kb))) (by kernel_rfl) (by kernel_rfl) (fun wz hS => Runs.load (t := 108) (a := ⟨b, 1, none⟩) (by kernel_rfl) ((Hb.keep hS (by intro h; change b = kb at h; omega)).loads (by kernel_rfl))) (d := (some 81)) (by kernel_rfl) rfl ?_
       refine Dr.take (i := 4) (v := (agg [(Value.string (str o.frm)), (Value.string (str o.key))])) (by kernel_rfl) (by kernel_rfl) (fun wz hS => Runs.load (t := 116) (a := ⟨b156, 0, none⟩) (by kernel_rfl) ((H163.keep hS (by intro h; change b156 = kb at h; omega)).loads (by kernel_rfl))) (d := (some 82)) (by kernel_rfl) rfl ?_
       refine Dr.take (i := 5) (v := (agg [(i64 o.kind), (Value.string (str o.frm)), (Value.string (str ((plainE o).to))), (i64 ((plainE o).amount)), (Value.string (str o.key)), (i64 0), (i64 0)])) (by kernel_rfl) (by kernel_rfl) (fun wz hS => Runs.load (t := 24) (a := ⟨b1, 0, none⟩) (by kernel_rfl) ((H154.keep hS (by intro h; change b1 = kb at h; omega)).loads (by kernel_rfl))) (d := (some 83)) (by kernel_rfl) rfl ?_
       refine Dr.takes (fuel' := 1) (is' := _) [6, 7] [(4, (ptr b7)), (11, (i64 (actE S (plainE o)))), (81, (Value.map (some kb))), (82, (agg [(Value.string (str o.frm)), (Value.string (str o.key))])), (85, (agg [(i64 o.kind), (Value.string (str o.frm)), (Value.string (str ((plainE o).to))), (i64 ((plainE o).amount)), (Value.string (str o.key)), (i64 0), (i64 0), (i64 (actE S (plainE o)))]))] (by kernel_rfl) rfl (by kernel_rfl) ?_
       obtain ⟨w186, hr187, K188, H189⟩ := HasMap.update KT2 Tryd.underlying108 Hk (o.frm, o.key) (⟨(plainE o), actE S (plainE o)⟩ : KeptM)
       refine Dr.goU (i := 8) (by kernel_rfl) (by kernel_rfl) (RunsU.of_update (by kernel_rfl) hr187) (d := none) (by kernel_rfl) rfl K188 ?_
       clear Hk
       replace K0 := K0.trans K188 (U := (fun i => i = mb ∨ i = kb)) (fun i h1 h2 => h2) (fun i h1 h2 => by have h2 : i = kb := h2; show i = mb ∨ i = kb; omega)
       replace Hb := Hb.k1 K188 (by omega)
       replace Hm182 := Hm182.k1 K188 (by omega)
       replace H154 := H154.k1 K188 (by omega)
       replace H10 := H10.k1 K188 (by omega)
       replace H163 := H163.k1 K188 (by omega)
       replace H177 := H177.k1 K188 (by omega)
       refine Dr.strong (S' := (fun wz => Keeps (fun i => i = kb) w186 wz)) ((Keeps.refl w186).mono (fun _ _ h => h.elim)) (fun wz hx => K188.trans hx (fun i _ h => by have h : i = kb := h; show i = kb; omega) (fun _ _ h => h)) ?_
       clear K188 hr187
       refine Dr.done (by kernel_rfl) ?_
       refine qs ?_
       refine qg ?_
       refine og 2 [(4, (ptr b7)), (87, (agg [(i64 (actE S (plainE o))), (i64 0), (Value.slice none 0 0)]))] 2 ?_
       refine Ops.put (t := 28) (b := b7) (off := 0) (v := (agg [(i64 (actE S (plainE o))), (i64 0), (Value.slice none 0 0)])) (ys := [(i64 (actE S (plainE o))), (i64 0), (Value.slice none 0 0)]) (by kernel_rfl) (by kernel_rfl) H10 (by kernel_rfl) (d := none) (by kernel_rfl) rfl (fun w190 H191 K192 => ?_)
       clear H10
       replace K0 := K0.trans K192 (U := (fun i => i = mb ∨ i = kb)) (fun i h1 h2 => h2) (fun i h1 h2 => by have h2 : i = b7 := h2; show i = mb ∨ i = kb; omega)
       replace Hb := Hb.k1 K192 (by omega)
       replace Hm182 := Hm182.k1 K192 (by omega)
       replace H189 := H189.k1 K192 (by omega)
       replace H154 := H154.k1 K192 (by omega)
       replace H163 := H163.k1 K192 (by omega)
       replace H177 := H177.k1 K192 (by omega)
       clear K192
       refine od ?_
       refine q_ret (by kernel_rfl) ?_
       refine ⟨(agg [(i64 (actE S (plainE o))), (i64 0), (Value.slice none 0 0)]), retv_cell rfl rfl (H191.loads (by kernel_rfl)), ?_⟩
       have e0 := do_fresh (S := S) (K := K) (o := o) hw (by omega) (by omega) (by omega) hk169
       obtain ⟨e1, e2, e3⟩ := e0
       rw [e1, e2, e3]
       exact ⟨_, none, 0, rfl, K0, Hm182, by have h := H189; rwa [show putM (K.map KeptM.kv) (o.frm, o.key) (⟨plainE o, actE S (plainE o)⟩ : KeptM) = _ from putM_kept (x := ⟨plainE o, actE S (plainE o)⟩) hk169] at h, hB.fresh hw (by omega) (by omega) (by omega) hk169 hr hL183, (OwnT.nil _ _ _ _ _)⟩
      ·skip
       have hk193 : findK K o.frm o.key = some y168 := hg167
       have hy194 := hB.ledg.ok _ (findK_some hk193).1
       have hy195 := hy194.why
       have hy196 := hy194.kind
       refine Dr.take (i := 5) (v := (Value.tuple #[(agg [(i64 y168.op.kind), (Value.string (str y168.op.frm)), (Value.string (str y168.op.to)), (i64 y168.op.amount), (Value.string (str y168.op.key)), (i64 y168.op.slot), (i64 y168.op.shard), (i64 y168.why)]), (Value.bool true)])) (by kernel_rfl) (by kernel_rfl) (fun wz hS => Runs.lookup_some (ok := true) (vf := keptv) (a := (⟨y168.op, y168.why⟩ : KeptM)) KT2 Tryd.underlying108 (Hk.keep hS (fun h => h)) hg167 (by kernel_rfl)) (d := (some 61)) (by kernel_rfl) rfl ?_
       refine Dr.takes (fuel' := 3) (is' := _) [6, 7, 8] [(0, (ptr b)), (3, (ptr b1)), (4, (ptr b7)), (6, (i64 y24)), (7, (Value.bool true)), (8, (ptr b156)), (62, (agg [(i64 y168.op.kind), (Value.string (str y168.op.frm)), (Value.string (str y168.op.to)), (i64 y168.op.amount), (Value.string (str y168.op.key)), (i64 y168.op.slot), (i64 y168.op.shard), (i64 y168.why)])), (63, (Value.bool true))] (by kernel_rfl) rfl (by kernel_rfl) ?_
       refine Dr.new (i := 9) (o := rowL [(i64 0), (Value.string ByteArray.empty), (Value.string ByteArray.empty), (i64 0), (Value.string ByteArray.empty), (i64 0), (i64 0), (i64 0)] 118) (V := fun b => (ptr b)) (by kernel_rfl) (by kernel_rfl) (d := (some 9)) (by kernel_rfl) (fun b => rfl) (fun b197 w198 hb199 H200 K201 hs202 => ?_)
       have lb197b : b < b197 := by have := Hb.lt; omega
       have lb197mb : mb < b197 := by have := Hm.lt; omega
       have lb197kb : kb < b197 := by have := Hk.lt; omega
       have lb197b1 : b1 < b197 := by have := H154.lt; omega
       have lb197b7 : b7 < b197 := by have := H10.lt; omega
       have lb197b156 : b156 < b197 := by have := H163.lt; omega
       have nb197 : w.heap.size ≤ b197 := by have := K0.size; omega
       replace K0 := K0.tn K201
       replace Hb := Hb.keep K201 (fun h => h)
       replace Hm := Hm.keep K201 (fun h => h)
       replace Hk := Hk.keep K201 (fun h => h)
       replace H154 := H154.keep K201 (fun h => h)
       replace H10 := H10.keep K201 (fun h => h)
       replace H163 := H163.keep K201 (fun h => h)
       refine ⟨K201, ?_⟩
       refine Dr.strong (S' := (fun wz => Keeps (fun i => i = b197) w198 wz)) ((Keeps.refl w198).mono (fun _ _ h => h.elim)) (fun wz hx => K201.trans hx (U := none_) (fun i _ h => h) (fun i hi h => by have h : i = b197 := h; exfalso; omega)) ?_
       clear K201 hs202
       refine Dr.put (i := 10) (t := 118) (b := b197) (off := 0) (v := (agg [(i64 y168.op.kind), (Value.string (str y168.op.frm)), (Value.string (str y168.op.to)), (i64 y168.op.amount), (Value.string (str y168.op.key)), (i64 y168.op.slot), (i64 y168.op.shard), (i64 y168.why)])) (ys := [(i64 y168.op.kind), (Value.string (str y168.op.frm)), (Value.string (str y168.op.to)), (i64 y168.op.amount), (Value.string (str y168.op.key)), (i64 y168.op.slot), (i64 y168.op.shard), (i64 y168.why)]) (by kernel_rfl) (by kernel_rfl) (by kernel_rfl) H200 (by kernel_rfl) (d := none) (by kernel_rfl) rfl (fun w203 H204 K205 => ?_)
       clear H200
       replace K0 := K0.trans K205 (U := (fun i => i = mb ∨ i = kb)) (fun i h1 h2 => h2) (fun i h1 h2 => by have h2 : i = b197 := h2; show i = mb ∨ i = kb; omega)
       replace Hb := Hb.k1 K205 (by omega)
       replace Hm := Hm.k1 K205 (by omega)
       replace Hk := Hk.k1 K205 (by omega)
       replace H154 := H154.k1 K205 (by omega)
       replace H10 := H10.k1 K205 (by omega)
       replace H163 := H163.k1 K205 (by omega)
       refine ⟨K205, ?_⟩
       refine Dr.strong (S' := (fun wz => Keeps (fun i => i = b197) w203 wz)) ((Keeps.refl w203).mono (fun _ _ h => h.elim)) (fun wz hx => K205.trans hx (fun i _ h => by have h : i = b197 := h; show i = b197; omega) (fun _ _ h => h)) ?_
       clear K205
       refine Dr.takes (fuel' := 0) (is' := _) [11] [(0, (ptr b)), (3, (ptr b1)), (4, (ptr b7)), (6, (i64 y24)), (7, (Value.bool true)), (8, (ptr b156)), (9, (ptr b197)), (10, (Value.bool true))] (by kernel_rfl) rfl (by kernel_rfl) ?_
       refine Dr.done (by kernel_rfl) ?_
       refine qs ?_
       refine qg ?_
       refine og 1 [(0, (ptr b)), (3, (ptr b1)), (4, (ptr b7)), (6, (i64 y24)), (7, (Value.bool true)), (8, (ptr b156)), (9, (ptr b197)), (64, (Value.bool true))] 1 ?_
       refine od ?_
       refine q_then (o := .tmp 64) (by kernel_rfl) rfl ?_
       refine qs ?_
       refine qs ?_
       refine qg ?_
       refine og 1 [(0, (ptr b)), (3, (ptr b1)), (4, (ptr b7)), (6, (i64 y24)), (7, (Value.bool true)), (8, (ptr b156)), (9, (ptr b197)), (65, (ptr b197))] 1 ?_
       refine Ops.go (v := (agg [(i64 y168.op.kind), (Value.string (str y168.op.frm)), (Value.string (str y168.op.to)), (i64 y168.op.amount), (Value.string (str y168.op.key)), (i64 y168.op.slot), (i64 y168.op.shard)])) (by kernel_rfl) (Runs.load (t := 24) (a := ⟨b197, 0, none⟩) (by kernel_rfl) (H204.loads (by kernel_rfl))) (d := (some 66)) (by kernel_rfl) rfl ?_
       refine Ops.go (v := (agg [(i64 o.kind), (Value.string (str o.frm)), (Value.string (str ((plainE o).to))), (i64 ((plainE o).amount)), (Value.string (str o.key)), (i64 0), (i64 0)])) (by kernel_rfl) (Runs.load (t := 24) (a := ⟨b1, 0, none⟩) (by kernel_rfl) (H154.loads (by kernel_rfl))) (d := (some 67)) (by kernel_rfl) rfl ?_
       refine Ops.go (v := (Value.bool (!(aggB [(i64 y168.op.kind), (Value.string (str y168.op.frm)), (Value.string (str y168.op.to)), (i64 y168.op.amount), (Value.string (str y168.op.key)), (i64 y168.op.slot), (i64 y168.op.shard)] [(i64 o.kind), (Value.string (str o.frm)), (Value.string (str ((plainE o).to))), (i64 ((plainE o).amount)), (Value.string (str o.key)), (i64 0), (i64 0)])))) (by kernel_rfl) (Runs.aggne (t := 24) (by kernel_rfl) (by kernel_rfl)) (d := (some 68)) (by kernel_rfl) rfl ?_
       refine od ?_
       refine q_cond (o := .tmp 68) (b := (!(aggB [(i64 y168.op.kind), (Value.string (str y168.op.frm)), (Value.string (str y168.op.to)), (i64 y168.op.amount), (Value.string (str y168.op.key)), (i64 y168.op.slot), (i64 y168.op.shard)] [(i64 o.kind), (Value.string (str o.frm)), (Value.string (str ((plainE o).to))), (i64 ((plainE o).amount)), (Value.string (str o.key)), (i64 0), (i64 0)]))) (by kernel_rfl) rfl (fun h206 => ?_) (fun h206 => ?_)
       ·rw [h206]
        have p207 : (aggB [(i64 y168.op.kind), (Value.string (str y168.op.frm)), (Value.string (str y168.op.to)), (i64 y168.op.amount), (Value.string (str y168.op.key)), (i64 y168.op.slot), (i64 y168.op.shard)] [(i64 o.kind), (Value.string (str o.frm)), (Value.string (str ((plainE o).to))), (i64 ((plainE o).amount)), (Value.string (str o.key)), (i64 0), (i64 0)]) = false := (bnot_true h206)
        refine qs ?_
        refine qg ?_
        refine og 1 [(0, (ptr b)), (3, (ptr b1)), (4, (ptr b7)), (6, (i64 y24)), (7, (Value.bool true)), (8, (ptr b156)), (9, (ptr b197)), (69, (agg [(i64 45), (i64 0), (Value.slice none 0 0)]))] 1 ?_
        refine Ops.put (t := 28) (b := b7) (off := 0) (v := (agg [(i64 45), (i64 0), (Value.slice none 0 0)])) (ys := [(i64 45), (i64 0), (Value.slice none 0 0)]) (by kernel_rfl) (by kernel_rfl) H10 (by kernel_rfl) (d := none) (by kernel_rfl) rfl (fun w208 H209 K210 => ?_)
        clear H10
        replace K0 := K0.trans K210 (U := (fun i => i = mb ∨ i = kb)) (fun i h1 h2 => h2) (fun i h1 h2 => by have h2 : i = b7 := h2; show i = mb ∨ i = kb; omega)
        replace Hb := Hb.k1 K210 (by omega)
        replace Hm := Hm.k1 K210 (by omega)
        replace Hk := Hk.k1 K210 (by omega)
        replace H154 := H154.k1 K210 (by omega)
        replace H163 := H163.k1 K210 (by omega)
        replace H204 := H204.k1 K210 (by omega)
        clear K210
        refine od ?_
        refine q_ret (by kernel_rfl) ?_
        refine ⟨(agg [(i64 45), (i64 0), (Value.slice none 0 0)]), retv_cell rfl rfl (H209.loads (by kernel_rfl)), ?_⟩
        have e0 := do_other (S := S) (K := K) (o := o) hw (by omega) (by omega) (by omega) hk193 (bnot_true h206)
        obtain ⟨e1, e2, e3⟩ := e0
        rw [e1, e2, e3]
        exact ⟨_, none, 0, rfl, K0, Hm, Hk, hB, (OwnT.nil _ _ _ _ _)⟩
       ·rw [h206]
        have p211 : (aggB [(i64 y168.op.kind), (Value.string (str y168.op.frm)), (Value.string (str y168.op.to)), (i64 y168.op.amount), (Value.string (str y168.op.key)), (i64 y168.op.slot), (i64 y168.op.shard)] [(i64 o.kind), (Value.string (str o.frm)), (Value.string (str ((plainE o).to))), (i64 ((plainE o).amount)), (Value.string (str o.key)), (i64 0), (i64 0)]) = true := (bnot_false h206)
        refine q_skip (by kernel_rfl) ?_
        refine qs ?_
        refine qg ?_
        refine og 1 [(0, (ptr b)), (3, (ptr b1)), (4, (ptr b7)), (6, (i64 y24)), (7, (Value.bool true)), (8, (ptr b156)), (70, (Value.pointer (some ⟨b197, 7, none⟩)))] 1 ?_
        refine Ops.go (v := (i64 y168.why)) (by kernel_rfl) (Runs.load (t := 25) (a := ⟨b197, 7, none⟩) (by kernel_rfl) (H204.loads (by kernel_rfl))) (d := (some 71)) (by kernel_rfl) rfl ?_
        refine og 1 [(0, (ptr b)), (3, (ptr b1)), (4, (ptr b7)), (6, (i64 y24)), (7, (Value.bool true)), (8, (ptr b156)), (72, (agg [(i64 y168.why), (i64 0), (Value.slice none 0 0)]))] 3 ?_
        refine Ops.put (t := 28) (b := b7) (off := 0) (v := (agg [(i64 y168.why), (i64 0), (Value.slice none 0 0)])) (ys := [(i64 y168.why), (i64 0), (Value.slice none 0 0)]) (by kernel_rfl) (by kernel_rfl) H10 (by kernel_rfl) (d := none) (by kernel_rfl) rfl (fun w212 H213 K214 => ?_)
        clear H10
        replace K0 := K0.trans K214 (U := (fun i => i = mb ∨ i = kb)) (fun i h1 h2 => h2) (fun i h1 h2 => by have h2 : i = b7 := h2; show i = mb ∨ i = kb; omega)
        replace Hb := Hb.k1 K214 (by omega)
        replace Hm := Hm.k1 K214 (by omega)
        replace Hk := Hk.k1 K214 (by omega)
        replace H154 := H154.k1 K214 (by omega)
        replace H163 := H163.k1 K214 (by omega)
        replace H204 := H204.k1 K214 (by omega)
        clear K214
        refine od ?_
        refine q_ret (by kernel_rfl) ?_
        refine ⟨(agg [(i64 y168.why), (i64 0), (Value.slice none 0 0)]), retv_cell rfl rfl (H213.loads (by kernel_rfl)), ?_⟩
        have e0 := do_again (S := S) (K := K) (o := o) hw (by omega) (by omega) (by omega) hk193 (bnot_false h206)
        obtain ⟨e1, e2, e3⟩ := e0
        rw [e1, e2, e3]
        exact ⟨_, none, 0, rfl, K0, Hm, Hk, hB, (OwnT.nil _ _ _ _ _)⟩
end Go.Proofs.YtnbcghbgeiocbaaDoor
namespace Go.Proofs.YtnbcghbgeiocbaaDoor
open Go.Q Go.RowKit

theorem MClone55_calls (w : World) (mb : Nat) (m : List ((List UInt8) × Int)) (Hm : HasMap w mb kstr ki64 m) : Calls Tryd.prog 55 ⟨[.map (some mb)]⟩ w (fun e w' => ∃ m2, e = .returned (.map (some m2)) ∧ Keeps none_ w w' ∧ HasMap w' m2 kstr ki64 m ∧ m2 = w.heap.size) := by
 obtain ⟨es, clock, hb, hs, he⟩ := Hm
 refine (Go.Proofs.AnyW.maps_Clone Go.Proofs.Tryd.clone55 mb es clock w hb).mono ?_
 rintro e w' ⟨rfl, rfl⟩
 exact ⟨_, rfl, Keeps.alloc _ _, ⟨es, clock, heap_alloc_new _ _, hs, he⟩, rfl⟩

theorem MClone56_calls (w : World) (mb : Nat) (m : List ((List UInt8 × List UInt8) × KeptM)) (Hm : HasMap w mb kpair keptv m) : Calls Tryd.prog 56 ⟨[.map (some mb)]⟩ w (fun e w' => ∃ m2, e = .returned (.map (some m2)) ∧ Keeps none_ w w' ∧ HasMap w' m2 kpair keptv m ∧ m2 = w.heap.size) := by
 obtain ⟨es, clock, hb, hs, he⟩ := Hm
 refine (Go.Proofs.AnyW.maps_Clone Go.Proofs.Tryd.clone56 mb es clock w hb).mono ?_
 rintro e w' ⟨rfl, rfl⟩
 exact ⟨_, rfl, Keeps.alloc _ _, ⟨es, clock, heap_alloc_new _ _, hs, he⟩, rfl⟩

theorem Copy_calls (w : World) (b mb kb : Nat) (m : List (List UInt8 × Int)) (S : List RowM) (K : List KeptM) (Hb : Has w b (rowL [.map (some mb), .map (some kb)] 110)) (Hm : HasMap w mb kstr ki64 m) (Hk : HasMap w kb kpair keptv (K.map KeptM.kv)) (hne : b ≠ mb ∧ b ≠ kb ∧ mb ≠ kb) (hB : LBook m S K) : Calls Tryd.prog 48 ⟨[(ptr b)]⟩ w (fun e w' => ∃ b2 mb2 kb2, e = .returned (ptr b2) ∧ Keeps none_ w w' ∧ Has w' b2 (rowL [.map (some mb2), .map (some kb2)] 110) ∧ HasMap w' mb2 kstr ki64 m ∧ HasMap w' kb2 kpair keptv (K.map KeptM.kv) ∧ w.heap.size ≤ b2 ∧ w.heap.size ≤ mb2 ∧ w.heap.size ≤ kb2 ∧ b2 ≠ mb2 ∧ b2 ≠ kb2 ∧ mb2 ≠ kb2) := by
 have Hbl := Hb.lt
 have Hml := Hm.lt
 have Hkl := Hk.lt
 have hL := hB.lmap
 have K0 : Keeps none_ w w := Keeps.refl w
 refine q_calls Tryd.func48 (by kernel_rfl) (by kernel_rfl) ?_
 refine qs ?_
 refine qg ?_
 refine og 1 [(0, (ptr b)), (2, (Value.pointer none))] 1 ?_
 refine od ?_
 refine qs ?_
 refine qs ?_
 refine qg ?_
 refine og 2 [(0, (ptr b)), (2, (Value.pointer none)), (4, (Value.bool false))] 2 ?_
 refine od ?_
 refine q_else (o := .tmp 4) (by kernel_rfl) rfl ?_
 refine q_skip (by kernel_rfl) ?_
 refine qs ?_
 refine q_draw (fun wz => Keeps none_ w wz) 13 (by kernel_rfl) (by kernel_rfl) (by kernel_rfl) (fun w1 K2 _ _ => ⟨K2, ?_⟩)
 replace K0 := K0.t0 K2
 replace Hb := Hb.keep K2 (fun h => h)
 replace Hm := Hm.keep K2 (fun h => h)
 replace Hk := Hk.keep K2 (fun h => h)
 refine Dr.strong (S' := (fun wz => Keeps none_ w1 wz)) (Keeps.refl w1) (fun wz hx => K2.trans hx (fun i _ h => h) (fun _ _ h => h)) ?_
 clear K2
 refine Dr.takes (fuel' := 10) (is' := _) [0, 1, 2] [(0, (ptr b)), (2, (Value.pointer none)), (7, (ptr b))] (by kernel_rfl) rfl (by kernel_rfl) ?_
 refine Dr.take (i := 3) (v := (Value.map (some mb))) (by kernel_rfl) (by kernel_rfl) (fun wz hS => Runs.load (t := 107) (a := ⟨b, 0, none⟩) (by kernel_rfl) ((Hb.keep hS (fun h => h)).loads (by kernel_rfl))) (d := (some 8)) (by kernel_rfl) rfl ?_
 refine Dr.takes (fuel' := 6) (is' := _) [5, 6, 7] [(2, (Value.pointer none)), (8, (Value.map (some mb))), (12, (Value.pointer (some ⟨b, 1, none⟩)))] (by kernel_rfl) rfl (by kernel_rfl) ?_
 refine Dr.take (i := 8) (v := (Value.map (some kb))) (by kernel_rfl) (by kernel_rfl) (fun wz hS => Runs.load (t := 108) (a := ⟨b, 1, none⟩) (by kernel_rfl) ((Hb.keep hS (fun h => h)).loads (by kernel_rfl))) (d := (some 13)) (by kernel_rfl) rfl ?_
 refine Dr.call (i := 4) (by kernel_rfl) (by kernel_rfl) (d := (some 9)) (by kernel_rfl) (fun _ => MClone55_calls _ mb m Hm) ?_
 rintro _ w4 ⟨mb3, rfl, K5, H6, hq7⟩
 have lmb3b : b < mb3 := by have := Hb.lt; omega
 have lmb3mb : mb < mb3 := by have := Hm.lt; omega
 have lmb3kb : kb < mb3 := by have := Hk.lt; omega
 have nmb3 : w.heap.size ≤ mb3 := by have := K0.size; omega
 replace K0 := K0.t0 K5
 replace Hb := Hb.keep K5 (fun h => h)
 replace Hm := Hm.keep K5 (fun h => h)
 replace Hk := Hk.keep K5 (fun h => h)
 refine ⟨_, _, rfl, rfl, K5, ?_⟩
 refine Dr.strong (S' := (fun wz => Keeps none_ w4 wz)) (Keeps.refl w4) (fun wz hx => K5.trans hx (fun i _ h => h) (fun _ _ h => h)) ?_
 clear K5
 refine Dr.call (i := 9) (by kernel_rfl) (by kernel_rfl) (d := (some 14)) (by kernel_rfl) (fun _ => MClone56_calls _ kb (K.map KeptM.kv) Hk) ?_
 rintro _ w9 ⟨mb8, rfl, K10, H11, hq12⟩
 have lmb8b : b < mb8 := by have := Hb.lt; omega
 have lmb8mb : mb < mb8 := by have := Hm.lt; omega
 have lmb8kb : kb < mb8 := by have := Hk.lt; omega
 have lmb8mb3 : mb3 < mb8 := by have := H6.lt; omega
 have nmb8 : w.heap.size ≤ mb8 := by have := K0.size; omega
 replace K0 := K0.t0 K10
 replace Hb := Hb.keep K10 (fun h => h)
 replace Hm := Hm.keep K10 (fun h => h)
 replace Hk := Hk.keep K10 (fun h => h)
 replace H6 := H6.keep K10 (fun h => h)
 refine ⟨_, _, rfl, rfl, K10, ?_⟩
 refine Dr.strong (S' := (fun wz => Keeps none_ w9 wz)) (Keeps.refl w9) (fun wz hx => K10.trans hx (fun i _ h => h) (fun _ _ h => h)) ?_
 clear K10
 refine Dr.takes (fuel' := 2) (is' := _) [10] [(2, (Value.pointer none)), (15, (agg [(Value.map (some mb3)), (Value.map (some mb8))]))] (by kernel_rfl) rfl (by kernel_rfl) ?_
 refine Dr.new (i := 11) (o := rowL [(Value.map (some mb3)), (Value.map (some mb8))] 110) (V := fun b => (ptr b)) (by kernel_rfl) (by kernel_rfl) (d := (some 16)) (by kernel_rfl) (fun b => rfl) (fun b13 w14 hb15 H16 K17 hs18 => ?_)
 have lb13b : b < b13 := by have := Hb.lt; omega
 have lb13mb : mb < b13 := by have := Hm.lt; omega
 have lb13kb : kb < b13 := by have := Hk.lt; omega
 have lb13mb3 : mb3 < b13 := by have := H6.lt; omega
 have lb13mb8 : mb8 < b13 := by have := H11.lt; omega
 have nb13 : w.heap.size ≤ b13 := by have := K0.size; omega
 replace K0 := K0.t0 K17
 replace Hb := Hb.keep K17 (fun h => h)
 replace Hm := Hm.keep K17 (fun h => h)
 replace Hk := Hk.keep K17 (fun h => h)
 replace H6 := H6.keep K17 (fun h => h)
 replace H11 := H11.keep K17 (fun h => h)
 refine ⟨K17, ?_⟩
 refine Dr.strong (S' := (fun wz => Keeps none_ w14 wz)) (Keeps.refl w14) (fun wz hx => K17.trans hx (fun i _ h => h) (fun _ _ h => h)) ?_
 clear K17 hs18
 refine Dr.takes (fuel' := 0) (is' := _) [12] [(2, (ptr b13))] (by kernel_rfl) rfl (by kernel_rfl) ?_
 refine Dr.done (by kernel_rfl) ?_
 refine q_ret (by kernel_rfl) ?_
 refine ⟨(ptr b13), retv_tmp rfl rfl, ?_⟩
 exact ⟨b13, mb3, mb8, rfl, K0, H16, H6, H11, nb13, nmb3, nmb8, by omega, by omega, by omega⟩
end Go.Proofs.YtnbcghbgeiocbaaDoor
