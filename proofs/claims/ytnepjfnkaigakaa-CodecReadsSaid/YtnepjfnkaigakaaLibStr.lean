/- Bytes as strings; strings and structs that are compared. -/
import Derived.Test.YtnepjfnkaigakaaLibInts
import Derived.Laws.BytesString
import Derived.Laws.StructEq
set_option linter.unusedVariables false
namespace Go.Q
open Go.RowKit

def str (xs : List UInt8) : ByteArray := ⟨⟨xs⟩⟩
theorem str_toList (xs : List UInt8) : (str xs).toList = xs := by rw [ByteArray.toList_eq]; rfl
theorem str_size (xs : List UInt8) : (str xs).size = xs.length := rfl
theorem str_eta (s : ByteArray) : str s.toList = s := by rw [ByteArray.toList_eq]; rfl

theorem fold_str (xs ys : List UInt8) : (xs.map fun c : UInt8 => (c.toNat : Int)).foldl (fun (r : ByteArray) n => r.push (UInt8.ofNat n.toNat)) (str ys) = str (ys ++ xs) := by
  induction xs generalizing ys with
  | nil => simp
  | cons x xs ih =>
    rw [List.map_cons, List.foldl_cons]
    have e : (str ys).push (UInt8.ofNat ((x.toNat : Int)).toNat) = str (ys ++ [x]) := by
      show (⟨(⟨ys⟩ : Array UInt8).push _⟩ : ByteArray) = ⟨⟨ys ++ [x]⟩⟩
      simp
    rw [e, ih]
    simp

theorem run_b2s {P : Program} {w : World} {src dst e : TypeId} {v : Value} {xs : List UInt8} (hs : P.underlying src = some (.slice e)) (he : P.underlying e = some (.int .u8)) (hd : P.underlying dst = some .string) (h : RdB w v xs) :
    (convert src dst v).run P w = .ok (.string (str xs)) w := by
  obtain ⟨A, n, c, rfl, hl, hc, hm, hx⟩ := h
  have hlx : xs.length = n := by simpa [bv_length] using hl
  rw [run_convert_bytes_string w src dst e A n c hs he hd]
  rcases Nat.eq_zero_or_pos n with h0 | h0
  · subst h0
    have : xs = [] := List.eq_nil_of_length_eq_zero hlx
    subst this
    cases A with
    | none => simp [Conv.bytesToString, Sem.run_pure]; rfl
    | some a =>
      rw [run_bytesToString w a 0 c [] (by simp [loadCells, loadCellsFrom, Sem.run_pure])]
      rfl
  · obtain ⟨b, off, rfl, hcell⟩ := hx h0
    have hld := run_loadCells_list (P := P) w (⟨b, off, none⟩ : Addr) (bv xs) (fun j v hv => by rw [add_plain]; exact hcell j v hv)
    rw [bv_length, hlx] at hld
    rw [run_bytesToString w ⟨b, off, none⟩ n c (xs.map fun c => (c.toNat : Int)) (by rw [hld]; simp [bv])]
    have := fold_str xs []
    simp only [List.nil_append] at this
    exact congrArg (fun s => Result.ok (Value.string s) w) this

def cv? (L : Loc) (o : Oper) : Option (TypeId × TypeId × Value) :=
  match o.op with
  | .convert s d x => some (s, d, ev L x)
  | _ => none
theorem Runs.conv {P : Program} {L : Loc} {o : Oper} {w w' : World} {s d : TypeId} {x v : Value} (h : cv? L o = some (s, d, x)) (hr : (convert s d x).run P w = .ok v w') : Runs P L o w v w' := by
  unfold cv? at h
  cases ho : o.op with
  | convert s' d' x' =>
    rw [ho] at h
    simp only [Option.some.injEq, Prod.mk.injEq] at h
    obtain ⟨rfl, rfl, rfl⟩ := h
    unfold Runs execOp
    simp only [ho, Sem.run_bind, hr, Result.andThen_ok, Sem.run_pure]
  | _ => rw [ho] at h; cases h
def sliceOf? (P : Program) (t : TypeId) : Option TypeId := match P.underlying t with | some (.slice e) => (match P.underlying e with | some (.int .u8) => some e | _ => none) | _ => none
def isStr? (P : Program) (t : TypeId) : Bool := match P.underlying t with | some .string => true | _ => false
theorem Runs.b2s {P : Program} {L : Loc} {o : Oper} {w : World} {s d e : TypeId} {x : Value} {xs : List UInt8} (h : cv? L o = some (s, d, x)) (hs : sliceOf? P s = some e) (hd : isStr? P d = true) (hx : RdB w x xs) : Runs P L o w (.string (str xs)) w := by
  refine Runs.conv h (run_b2s (e := e) ?_ ?_ ?_ hx)
  · unfold sliceOf? at hs
    split at hs
    · rename_i e' he
      split at hs
      · injection hs with hs; subst hs; exact he
      · cases hs
    · cases hs
  · unfold sliceOf? at hs
    split at hs
    · split at hs
      · rename_i he; injection hs with hs; subst hs; exact he
      · cases hs
    · cases hs
  · unfold isStr? at hd
    split at hd
    · assumption
    · cases hd

theorem run_streq {P : Program} {w : World} {t : TypeId} (a b : ByteArray) : (binOp .eql t (.string a) (.string b)).run P w = .ok (.bool (a.toList == b.toList)) w := by
  simp [binOp, Op.stringOp, Sem.run_pure]
theorem run_strne {P : Program} {w : World} {t : TypeId} (a b : ByteArray) : (binOp .neq t (.string a) (.string b)).run P w = .ok (.bool (!(a.toList == b.toList))) w := by
  simp [binOp, Op.stringOp, Sem.run_pure]
def plainOf : Value → Bool
  | .string _ => true
  | _ => false
theorem Runs.bin {P : Program} {L : Loc} {o : Oper} {w : World} {op : BinOp} {t : TypeId} {x y v : Value} (h : bin? L o = some (op, t, x, y)) (hg : ∀ a b, (eqGuard op t a b x y).run P w = .ok () w) (hr : (binOp op t x y).run P w = .ok v w) : Runs P L o w v w := by
  unfold bin? at h
  cases ho : o.op with
  | binOp op' t' x' y' t2 =>
    rw [ho] at h
    simp only [Option.some.injEq, Prod.mk.injEq] at h
    obtain ⟨rfl, rfl, hx, hy⟩ := h
    unfold Runs execOp
    simp only [ho, hx, hy, Sem.run_bind, hg, Result.andThen_ok, hr, Sem.run_pure]
  | _ => rw [ho] at h; cases h
theorem Runs.streq {P : Program} {L : Loc} {o : Oper} {w : World} {t : TypeId} {a b : List UInt8} (h : bin? L o = some (.eql, t, .string (str a), .string (str b))) : Runs P L o w (.bool (a == b)) w := by
  refine Runs.bin h (fun _ _ => by simp [eqGuard, Sem.run_pure]) ?_
  rw [run_streq, str_toList, str_toList]
theorem Runs.strne {P : Program} {L : Loc} {o : Oper} {w : World} {t : TypeId} {a b : List UInt8} (h : bin? L o = some (.neq, t, .string (str a), .string (str b))) : Runs P L o w (.bool (!(a == b))) w := by
  refine Runs.bin h (fun _ _ => by simp [eqGuard, Sem.run_pure]) ?_
  rw [run_strne, str_toList, str_toList]

/-! ### structs -/

def cellB : Value → Value → Bool
  | .int _ a, .int _ b => a == b
  | .bool a, .bool b => a == b
  | .string a, .string b => a.toList == b.toList
  | _, _ => false
def aggB : List Value → List Value → Bool
  | [], [] => true
  | x :: xs, y :: ys => cellB x y && aggB xs ys
  | _, _ => false
def cellFits (P : Program) (t : TypeId) (x y : Value) : Bool :=
  match P.underlying t with
  | some (.int _) => (match x, y with | .int k _, .int k' _ => decide (k = k') | _, _ => false)
  | some .bool => (match x, y with | .bool _, .bool _ => true | _, _ => false)
  | some .string => (match x, y with | .string _, .string _ => true | _, _ => false)
  | _ => false
def fitsB (P : Program) : List Field → Nat → List Value → List Value → Bool
  | [], _, [], [] => true
  | f :: fs, j, x :: xs, y :: ys => (f.name != "_") && (Nat.beq f.offset j && (cellFits P f.type x y && fitsB P fs (j + 1) xs ys))
  | _, _, _, _ => false

theorem run_cellEq {P : Program} {w : World} {t : TypeId} {x y : Value} (d : Nat) (h : cellFits P t x y = true) : (Op.equalIn (d + 1) t x y).run P w = .ok (cellB x y) w := by
  unfold cellFits at h
  split at h
  · rename_i hk
    split at h
    · have hkk := of_decide_eq_true h
      subst hkk
      exact run_equalIn_int w d t _ _ _ _ hk
    · cases h
  · rename_i hk
    split at h
    · exact run_equalIn_bool w d t _ _ hk
    · cases h
  · rename_i hk
    split at h
    · exact run_equalIn_string w d t _ _ hk
    · cases h
  · cases h
theorem cellFits_plain {P : Program} {t : TypeId} {x y : Value} (h : cellFits P t x y = true) : isAgg? P t = some false := by
  unfold cellFits at h
  unfold isAgg?
  split at h
  · rename_i hk; rw [hk]
  · rename_i hk; rw [hk]
  · rename_i hk; rw [hk]
  · cases h
theorem run_part1 {P : Program} {w : World} {t : TypeId} {cs : Array Value} {j : Nat} {v : Value} (h : isAgg? P t = some false) (hv : cs[j]? = some v) : (part t cs j).run P w = .ok v w := by
  unfold part
  simp [Sem.run_bind, run_isAgg h, hv, Sem.run_pure]
theorem run_fields {P : Program} {w : World} (d : Nat) : ∀ (fs : List Field) (px py xs ys : List Value), px.length = py.length → fitsB P fs px.length xs ys = true →
    (Op.eqFields (d + 1) (px ++ xs).toArray (py ++ ys).toArray fs).run P w = .ok (aggB xs ys) w
  | [], px, py, [], [], _, _ => by simp [Op.eqFields, Sem.run_pure, aggB]
  | [], _, _, _ :: _, _, _, h => by simp [fitsB] at h
  | [], _, _, [], _ :: _, _, h => by simp [fitsB] at h
  | f :: fs, _, _, [], _, _, h => by simp [fitsB] at h
  | f :: fs, _, _, _ :: _, [], _, h => by simp [fitsB] at h
  | f :: fs, px, py, x :: xs, y :: ys, hl, h => by
    simp only [fitsB, Bool.and_eq_true, bne_iff_ne, ne_eq] at h
    obtain ⟨h1, h2, h3, h4⟩ := h
    have h2 := Nat.eq_of_beq_eq_true h2
    have hp := cellFits_plain h3
    have ex : (px ++ x :: xs).toArray[f.offset]? = some x := by rw [h2]; simp
    have ey : (py ++ y :: ys).toArray[f.offset]? = some y := by rw [h2, hl]; simp
    have ih := run_fields d fs (px ++ [x]) (py ++ [y]) xs ys (by simp [hl]) (by simpa using h4) (w := w)
    simp only [List.append_assoc, List.singleton_append] at ih
    simp only [Op.eqFields, ne_eq, h1, not_false_eq_true, if_true, Sem.run_bind, run_part1 hp ex, run_part1 hp ey, Result.andThen_ok, run_cellEq d h3, Sem.run_ite]
    cases hc : cellB x y with
    | false => simp [aggB, hc, Sem.run_pure]
    | true => simp only [Bool.not_true, Bool.false_eq_true, if_false, aggB, hc, Bool.true_and]; exact ih
def eqOk (P : Program) (t : TypeId) (xs ys : List Value) : Bool :=
  match P.underlying t with
  | some (.struct fs) => fitsB P fs.toList 0 xs ys && (!P.stoodInHeld t && !P.eqGuardType P.depth t)
  | _ => false
theorem run_aggeq {P : Program} {w : World} {t : TypeId} {xs ys : List Value} (h : eqOk P t xs ys = true) : (Op.equalIn 10000 t (agg xs) (agg ys)).run P w = .ok (aggB xs ys) w := by
  unfold eqOk at h
  split at h
  · rename_i fs hu
    simp only [Bool.and_eq_true, Bool.not_eq_true'] at h
    have hf : P.fieldsOf t = fs := by simp [Program.fieldsOf, hu]
    rw [run_equalIn_agg w 9999 t _ _ (by rw [hf]; exact hu) h.2.1, hf]
    have := run_fields (P := P) (w := w) 9998 fs.toList [] [] xs ys rfl h.1
    simpa using this
  · cases h
theorem guard_agg {P : Program} {w : World} {op : BinOp} {t : TypeId} {xs ys : List Value} (h : eqOk P t xs ys = true) (a b : Operand) : (eqGuard op t a b (agg xs) (agg ys)).run P w = .ok () w := by
  unfold eqOk at h
  split at h
  · simp only [Bool.and_eq_true, Bool.not_eq_true'] at h
    exact run_eqGuard_agg w op t a b _ _ h.2.2
  · cases h
theorem Runs.aggeq {P : Program} {L : Loc} {o : Oper} {w : World} {t : TypeId} {xs ys : List Value} (h : bin? L o = some (.eql, t, agg xs, agg ys)) (hk : eqOk P t xs ys = true) : Runs P L o w (.bool (aggB xs ys)) w := by
  refine Runs.bin h (guard_agg hk) ?_
  show (binOp .eql t (.agg xs.toArray) (.agg ys.toArray)).run P w = _
  rw [run_eql_struct]
  have := run_aggeq (w := w) hk
  unfold agg at this
  rw [this]; rfl
theorem Runs.aggne {P : Program} {L : Loc} {o : Oper} {w : World} {t : TypeId} {xs ys : List Value} (h : bin? L o = some (.neq, t, agg xs, agg ys)) (hk : eqOk P t xs ys = true) : Runs P L o w (.bool (!(aggB xs ys))) w := by
  refine Runs.bin h (guard_agg hk) ?_
  show (binOp .neq t (.agg xs.toArray) (.agg ys.toArray)).run P w = _
  rw [run_neq_struct]
  have := run_aggeq (w := w) hk
  unfold agg at this
  rw [this]; rfl
theorem cellB_int (k : IntKind) (a : Int) : cellB (.int k a) (.int k a) = true := by simp [cellB]
theorem cellB_bool (a : Bool) : cellB (.bool a) (.bool a) = true := by simp [cellB]
theorem cellB_str (a : ByteArray) : cellB (.string a) (.string a) = true := by simp [cellB]
end Go.Q
