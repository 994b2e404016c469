/- Memory: what a block holds, what a call keeps; loads, stores, new blocks. -/
import Derived.Test.YtnepjfnkaigakaaQ2
import Derived.Laws.OwnMore
import Derived.Laws.Slices
import Derived.Lib.AppendStr
import Derived.Deep.AppendLies
import Derived.Laws.BytesArg
import Derived.Laws.StructEq
namespace Go.Q
open Go.RowKit

abbrev rowL (xs : List Value) (E : TypeId) : Obj := .cells ⟨xs⟩ E (0, 0)
abbrev ptr (b : Nat) : Value := .pointer (some ⟨b, 0, none⟩)
abbrev i64 (x : Int) : Value := .int .i64 x
abbrev agg (xs : List Value) : Value := .agg ⟨xs⟩

def Has (w : World) (b : Nat) (o : Obj) : Prop := w.heap[b]? = some o

/-- From world w on everything is as it was but for the blocks in S (and for new ones). -/
structure Keeps (S : Nat → Prop) (w w' : World) : Prop where
  os : w'.os = w.os
  tape : w'.tape = w.tape
  output : w'.output = w.output
  size : w.heap.size ≤ w'.heap.size
  blk : ∀ i, i < w.heap.size → ¬ S i → w'.heap[i]? = w.heap[i]?

abbrev none_ : Nat → Prop := fun _ => False

theorem Has.lt {w : World} {b : Nat} {o : Obj} (h : Has w b o) : b < w.heap.size := by
  rcases Nat.lt_or_ge b w.heap.size with hlt | hge
  · exact hlt
  · unfold Has at h; rw [Array.getElem?_eq_none hge] at h; cases h

theorem Has.keep {S : Nat → Prop} {w w' : World} {b : Nat} {o : Obj} (h : Has w b o) (k : Keeps S w w') (hb : ¬ S b) : Has w' b o :=
  (k.blk b h.lt hb).trans h

theorem Keeps.refl (w : World) : Keeps none_ w w := ⟨rfl, rfl, rfl, Nat.le_refl _, fun _ _ _ => rfl⟩

theorem Keeps.trans {S T U : Nat → Prop} {a b c : World} (h : Keeps S a b) (k : Keeps T b c) (hS : ∀ i, i < a.heap.size → S i → U i) (hT : ∀ i, i < a.heap.size → T i → U i) : Keeps U a c :=
  ⟨k.os.trans h.os, k.tape.trans h.tape, k.output.trans h.output, Nat.le_trans h.size k.size,
    fun i hi hn => (k.blk i (Nat.lt_of_lt_of_le hi h.size) (fun ht => hn (hT i hi ht))).trans (h.blk i hi (fun hs => hn (hS i hi hs)))⟩

theorem Keeps.mono {S U : Nat → Prop} {a b : World} (h : Keeps S a b) (hS : ∀ i, i < a.heap.size → S i → U i) : Keeps U a b :=
  ⟨h.os, h.tape, h.output, h.size, fun i hi hn => h.blk i hi (fun hs => hn (hS i hi hs))⟩

theorem Keeps.drew {S : Nat → Prop} {a b : World} (h : Keeps S a b) : Keeps S a { b with drawn := b.drawn + 1 } := ⟨h.os, h.tape, h.output, h.size, h.blk⟩

theorem Keeps.alloc (w : World) (o : Obj) : Keeps none_ w (w.alloc o) :=
  ⟨rfl, rfl, rfl, by simp, fun i hi _ => heap_alloc_old w o i hi⟩

theorem Keeps.setRow (w : World) (b : Nat) (cs : Array Value) : Keeps (fun i => i = b) w (w.setRow b cs) :=
  ⟨rfl, rfl, rfl, by simp, fun i _ hn => setRow_other w b i cs hn⟩

theorem Keeps.of_grown {w w' : World} {row : Option Nat} (h : w.grownBy w' row) : Keeps (fun i => some i = row) w w' := ⟨h.os, h.tape, h.output, h.size, h.block⟩

theorem Keeps.below {w w' : World} (h : Keeps none_ w w') : Below w.heap.size w w' := ⟨h.os, h.tape, h.output, h.size, fun k hk => h.blk k hk (fun h => h)⟩

theorem Keeps.of_below {w w' : World} (h : Below w.heap.size w w') : Keeps none_ w w' := ⟨h.os, h.tape, h.output, h.size, fun k hk _ => h.block k hk⟩

theorem Keeps.cell {S : Nat → Prop} {w w' : World} (h : Keeps S w w') {a : Addr} {v : Value} (hc : w.cell? a = some v) (hn : ¬ S a.block) : w'.cell? a = some v :=
  (World.cell?_of_block (h.blk a.block (World.block_lt_of_cell? w a hc) hn)).trans hc

theorem Has.new (w : World) (o : Obj) : Has (w.alloc o) w.heap.size o := heap_alloc_new w o

theorem Has.set {w : World} {b : Nat} {xs : List Value} {E : TypeId} (h : Has w b (rowL xs E)) (ys : List Value) : Has (w.setRow b ⟨ys⟩) b (rowL ys E) :=
  setRow_heap w b ⟨xs⟩ ⟨ys⟩ E (0, 0) h

theorem Has.cell {w : World} {b : Nat} {xs : List Value} {E : TypeId} (h : Has w b (rowL xs E)) (j : Nat) : w.cell? ⟨b, j, none⟩ = xs[j]? := by
  have := cell_of_row w b j ⟨xs⟩ E (0, 0) h
  simpa using this

theorem add_plain (b o j : Nat) : (⟨b, o, none⟩ : Addr).add j = ⟨b, o + j, none⟩ := by unfold Addr.add; split <;> simp_all

/-! ### loads -/

def Loads (P : Program) (w : World) (t : TypeId) (a : Addr) (v : Value) : Prop := (loadVar t a).run P w = .ok v w

def isAgg? (P : Program) (t : TypeId) : Option Bool :=
  match P.underlying t with
  | some (.struct _) | some (.array _ _) => some true
  | some _ => some false
  | none => none

def size? (P : Program) (t : TypeId) : Option Nat := match P.info? t with | some i => some i.size | none => none

theorem run_isAgg {P : Program} {t : TypeId} {b : Bool} (h : isAgg? P t = some b) (w : World) : (isAgg t).run P w = .ok b w := by
  unfold isAgg? at h
  unfold isAgg
  cases hu : P.underlying t with
  | none => rw [hu] at h; cases h
  | some d =>
    rw [hu] at h
    rw [Sem.run_bind, run_underlying hu w]
    cases d <;> simp_all

theorem run_size {P : Program} {t : TypeId} {s : Nat} (h : size? P t = some s) (w : World) : (sizeOf t).run P w = .ok s w := by
  unfold size? at h
  cases hi : P.info? t with
  | none => rw [hi] at h; cases h
  | some i =>
    rw [hi] at h
    simp only [Option.some.injEq] at h
    simp [sizeOf, typeInfo, hi, h]

theorem loads_one {P : Program} {w : World} {t : TypeId} {a : Addr} {v : Value} (ht : isAgg? P t = some false) (hc : w.cell? a = some v) : Loads P w t a v := by
  simp [Loads, loadVar, Sem.run_bind, run_isAgg ht, run_load, hc]

theorem loads_agg {P : Program} {w : World} {t : TypeId} {a : Addr} {vs : List Value} (ht : isAgg? P t = some true) (hs : size? P t = some vs.length)
    (hc : ∀ j u, vs[j]? = some u → w.cell? (a.add j) = some u) : Loads P w t a (agg vs) := by
  have hl := run_loadCells_list (P := P) w a vs hc
  simp [Loads, loadVar, Sem.run_bind, run_isAgg ht, run_size hs, hl]

def loadC (P : Program) (t : TypeId) (xs : List Value) (off : Nat) : Option Value :=
  match isAgg? P t with
  | some false => xs[off]?
  | some true => match size? P t with
    | some s => bif Nat.ble (off + s) xs.length then some (agg ((xs.drop off).take s)) else none
    | none => none
  | none => none

theorem Has.loads {P : Program} {w : World} {b : Nat} {xs : List Value} {E t : TypeId} {off : Nat} {v : Value} (H : Has w b (rowL xs E)) (h : loadC P t xs off = some v) : Loads P w t ⟨b, off, none⟩ v := by
  unfold loadC at h
  cases ha : isAgg? P t with
  | none => rw [ha] at h; cases h
  | some x =>
    rw [ha] at h
    cases x with
    | false => exact loads_one ha ((H.cell off).trans h)
    | true =>
      simp only at h
      cases hs : size? P t with
      | none => rw [hs] at h; cases h
      | some s =>
        rw [hs] at h
        simp only at h
        cases hb : Nat.ble (off + s) xs.length with
        | false => rw [hb] at h; cases h
        | true =>
          rw [hb] at h
          simp only [cond_true, Option.some.injEq] at h
          subst h
          have hle := Nat.le_of_ble_eq_true hb
          refine loads_agg ha ?_ fun j u hu => ?_
          · rw [hs]; simp; omega
          · rw [add_plain, H.cell]
            rw [List.getElem?_take] at hu
            split at hu
            · rw [List.getElem?_drop] at hu; exact hu
            · cases hu

theorem Loads.keep {P : Program} {w w' : World} {t : TypeId} {b off : Nat} {v : Value} {xs : List Value} {E : TypeId} (H : Has w b (rowL xs E)) (h : loadC P t xs off = some v) {S : Nat → Prop} (k : Keeps S w w') (hn : ¬ S b) : Loads P w' t ⟨b, off, none⟩ v :=
  (H.keep k hn).loads h

/-! ### stores -/

def oneCells : List Value → Bool
  | [] => true
  | v :: vs => v.oneCell' && oneCells vs

theorem oneCells_mem : ∀ {vs : List Value}, oneCells vs = true → ∀ v ∈ vs, v.oneCell' = true
  | [], _, v, h => by cases h
  | u :: us, hb, v, h => by
    simp only [oneCells, Bool.and_eq_true] at hb
    rcases List.mem_cons.1 h with rfl | h
    · exact hb.1
    · exact oneCells_mem hb.2 v h

def storeC (P : Program) (t : TypeId) (xs : List Value) (off : Nat) (v : Value) : Option (List Value) :=
  match size? P t with
  | some s => bif Nat.beq v.cells.toList.length s && (Nat.ble (off + s) xs.length && oneCells v.cells.toList) then some (xs.take off ++ v.cells.toList ++ xs.drop (off + s)) else none
  | none => none

theorem Has.stores {P : Program} {w : World} {b : Nat} {xs ys : List Value} {E t : TypeId} {off : Nat} {v : Value} (H : Has w b (rowL xs E)) (h : storeC P t xs off v = some ys) :
    (storeVar t ⟨b, off, none⟩ v).run P w = .ok () (w.setRow b ⟨ys⟩) := by
  unfold storeC at h
  cases hs : size? P t with
  | none => rw [hs] at h; cases h
  | some s =>
    rw [hs] at h
    simp only at h
    cases hb : Nat.beq v.cells.toList.length s && (Nat.ble (off + s) xs.length && oneCells v.cells.toList) with
    | false => rw [hb] at h; cases h
    | true =>
      rw [hb] at h
      simp only [cond_true, Option.some.injEq] at h
      simp only [Bool.and_eq_true] at hb
      obtain ⟨h1, h2, h3⟩ := hb
      have h1 := Nat.eq_of_beq_eq_true h1
      have h2 := Nat.le_of_ble_eq_true h2
      have hst := run_storeCells_at P b off E v.cells.toList 0 ⟨xs⟩ w H (by simp at h1 ⊢; omega) (oneCells_mem h3)
      subst h
      unfold storeVar
      simp only [Sem.run_bind, run_size hs, Result.andThen_ok]
      have h1' : v.cells.size = s := by simpa using h1
      simp only [h1', ne_eq, not_true, if_false]
      rw [hst]
      simp [h1']

/-! ### operations over memory -/

def load? (os : Array Oper) (L : Loc) (i : Nat) : Option (TypeId × Addr) :=
  match at? os L i with
  | some o => match o.op with
    | .load t x => match ev L x with
      | .pointer (some a) => some (t, a)
      | _ => none
    | _ => none
  | none => none

def store? (os : Array Oper) (L : Loc) (i : Nat) : Option (TypeId × Addr × Value) :=
  match at? os L i with
  | some o => match o.op with
    | .store t x y => match ev L x with
      | .pointer (some a) => some (t, a, ev L y)
      | _ => none
    | _ => none
  | none => none

/-- One new block, and then a value. -/
def new? (P : Program) : Sem Next → Option (Obj × (Nat → Option Value))
  | .new o k => some (o, fun r => match pure? P (k r) with | some (.value v) => some v | _ => none)
  | .program k => new? P (k P)
  | .mark _ k => new? P k
  | _ => none

theorem new?_run {P : Program} : ∀ (s : Sem Next) {o : Obj} {V : Nat → Option Value} {v : Value} (w : World), new? P s = some (o, V) → V w.heap.size = some v → s.run P w = .ok (.value v) (w.alloc o)
  | .new o' k, o, V, v, w, h, hv => by
    simp only [new?, Option.some.injEq, Prod.mk.injEq] at h
    obtain ⟨rfl, rfl⟩ := h
    simp only at hv
    cases hp : pure? P (k w.heap.size) with
    | none => rw [hp] at hv; cases hv
    | some x =>
      rw [hp] at hv
      cases x <;> simp only [Option.some.injEq] at hv <;> first | cases hv | skip
      exact pure?_run _ hp _
  | .program k, o, V, v, w, h, hv => by simp only [new?] at h; exact new?_run (k P) w h hv
  | .mark m k, o, V, v, w, h, hv => by simp only [new?] at h; simp only [Sem.run]; exact new?_run k w h hv
  | .pure .., _, _, _, _, h, _ | .load .., _, _, _, _, h, _ | .store .., _, _, _, _, h, _ | .shape .., _, _, _, _, h, _ | .freeze .., _, _, _, _, h, _ | .frozen .., _, _, _, _, h, _
  | .getObj .., _, _, _, _, h, _ | .setObj .., _, _, _, _, h, _ | .choose .., _, _, _, _, h, _ | .sys .., _, _, _, _, h, _ | .halt .., _, _, _, _, h, _ => by cases h

def newAt? (P : Program) (os : Array Oper) (L : Loc) (i : Nat) : Option (Obj × (Nat → Option Value)) :=
  match at? os L i with
  | some o => new? P (execOp (ev L) o)
  | none => none

section
variable {P : Program} {n : Nat} {os : Array Oper} {K : Loc → World → Prop} {L L' : Loc} {w : World} {i : Nat} {d : Option Tmp}

theorem Ops.load {t : TypeId} {a : Addr} {v : Value} (h : load? os L i = some (t, a)) (hd : dst? os i = some d) (hl : Loads P w t a v) (hs : setL n d v L = some L')
    (hn : Ops P n os (i + 1) K L' w) : Ops P n os i K L w := by
  unfold load? at h
  cases h0 : at? os L i with
  | none => rw [h0] at h; cases h
  | some o =>
    rw [h0] at h
    simp only at h
    have hd' : o.dst = d := by have := (at?_spec h0).1; simpa [dst?, this] using hd
    cases ho : o.op with
    | load t' x =>
      rw [ho] at h
      simp only at h
      cases hx : ev L x with
      | pointer p =>
        rw [hx] at h
        cases p with
        | none => cases h
        | some a' =>
          simp only [Option.some.injEq, Prod.mk.injEq] at h
          obtain ⟨rfl, rfl⟩ := h
          refine Ops.run h0 (v := v) (w' := w) ?_ (by rw [hd']; exact hs) hn
          unfold execOp
          unfold Loads at hl
          simp only [ho, hx, Instr.loadAt, Instr.sureAddr, Sem.run_bind, Sem.run_pure, Result.andThen_ok, hl]
      | _ => rw [hx] at h; cases h
    | _ => rw [ho] at h; cases h

theorem Ops.store {t : TypeId} {b off : Nat} {v : Value} {xs ys : List Value} {E : TypeId} (h : store? os L i = some (t, ⟨b, off, none⟩, v)) (hd : dst? os i = some d) (H : Has w b (rowL xs E))
    (hst : storeC P t xs off v = some ys) (hs : setL n d undef L = some L')
    (hn : ∀ w', Has w' b (rowL ys E) → Keeps (fun j => j = b) w w' → Ops P n os (i + 1) K L' w') : Ops P n os i K L w := by
  unfold store? at h
  cases h0 : at? os L i with
  | none => rw [h0] at h; cases h
  | some o =>
    rw [h0] at h
    simp only at h
    have hd' : o.dst = d := by have := (at?_spec h0).1; simpa [dst?, this] using hd
    cases ho : o.op with
    | store t' x y =>
      rw [ho] at h
      simp only at h
      cases hx : ev L x with
      | pointer p =>
        rw [hx] at h
        cases p with
        | none => cases h
        | some a' =>
          simp only [Option.some.injEq, Prod.mk.injEq] at h
          obtain ⟨rfl, rfl, hv⟩ := h
          refine Ops.runSkip h0 (w' := w.setRow b ⟨ys⟩) ?_ (by rw [hd']; exact hs) (hn _ (H.set ys) (Keeps.setRow w b ⟨ys⟩))
          unfold execOp
          simp only [ho, hx, hv, Instr.storeAt, Instr.sureAddr, Sem.run_bind, Sem.run_pure, Result.andThen_ok, H.stores hst]
      | _ => rw [hx] at h; cases h
    | _ => rw [ho] at h; cases h

theorem Ops.new {o : Obj} {V : Nat → Value} {Ln : Nat → Loc} (h : newAt? P os L i = some (o, fun b => some (V b))) (hd : dst? os i = some d) (hs : ∀ b, setL n d (V b) L = some (Ln b))
    (hn : ∀ b w', b = w.heap.size → Has w' b o → Keeps none_ w w' → w'.heap.size = b + 1 → Ops P n os (i + 1) K (Ln b) w') : Ops P n os i K L w := by
  unfold newAt? at h
  cases h0 : at? os L i with
  | none => rw [h0] at h; cases h
  | some o' =>
    rw [h0] at h
    simp only at h
    have hd' : o'.dst = d := by have := (at?_spec h0).1; simpa [dst?, this] using hd
    exact Ops.run h0 (new?_run _ w h rfl) (by rw [hd']; exact hs _) (hn w.heap.size _ rfl (Has.new w o) (Keeps.alloc w o) (by simp))

/-- An operation whose run is given. -/
theorem Ops.does {o : Oper} {v : Value} {w' : World} (h0 : at? os L i = some o) (hr : (execOp (ev L) o).run P w = .ok (.value v) w') (hd : dst? os i = some d) (hs : setL n d v L = some L')
    (hn : Ops P n os (i + 1) K L' w') : Ops P n os i K L w := by
  have hd' : o.dst = d := by have := (at?_spec h0).1; simpa [dst?, this] using hd
  exact Ops.run h0 hr (by rw [hd']; exact hs) hn

end

/-! ### results that lie in memory -/

theorem retv_cell {P : Program} {fn : Func} {w : World} {L : Loc} {t : Tmp} {ty : TypeId} {a : Addr} {v : Value} (h : fn.results = #[.cell t ty]) (hv : lk L t = some (.pointer (some a))) (hl : Loads P w ty a v) : retv P fn w v L := by
  intro tmps ht
  have := ht t _ hv
  unfold Loads at hl
  simp [results, h, this, asAddr, hl]

theorem retv_cell_tmp {P : Program} {fn : Func} {w : World} {L : Loc} {t t' : Tmp} {ty : TypeId} {a : Addr} {v v' : Value} (h : fn.results = #[.cell t ty, .tmp t']) (hv : lk L t = some (.pointer (some a))) (hl : Loads P w ty a v)
    (hv' : lk L t' = some v') : retv P fn w (.tuple #[v, v']) L := by
  intro tmps ht
  have := ht t _ hv
  have h2 := ht t' _ hv'
  unfold Loads at hl
  simp [results, h, this, asAddr, hl, h2]

end Go.Q
