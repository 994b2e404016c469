/- Letters: as they come in, as they are written. -/
import Derived.Test.YtncjidepplaocaaLH
import Derived.SizedLaws
set_option linter.unusedVariables false
namespace Go.Q
open Go.ChangeShapes Go.WideShapes Go.ChangeAt Go.RowKit Go.Deep

structure LetP where
  kind : Int
  n : Int
  group : Int
  op : Opm
  rep : ReplyM
  body : List UInt8
structure LetP.Ok (x : LetP) : Prop where
  kind : -9223372036854775808 ≤ x.kind ∧ x.kind ≤ 9223372036854775807
  n : -9223372036854775808 ≤ x.n ∧ x.n ≤ 9223372036854775807
  group : -9223372036854775808 ≤ x.group ∧ x.group ≤ 9223372036854775807
  op : x.op.Ok
  rep : x.rep.Ok
/-- The cells of a letter whose rows and bytes stand at V and D. -/
def LetP.cells (x : LetP) (V : Option Addr) (c : Nat) (D : Option Addr) (dc : Nat) : List Value :=
  [i64 x.kind, i64 x.n, i64 x.group, i64 x.op.kind, .string (str x.op.frm), .string (str x.op.to), i64 x.op.amount, .string (str x.op.key), i64 x.op.slot, i64 x.op.shard, i64 x.rep.why, i64 x.rep.amount, .slice V x.rep.rows.length c, .slice D x.body.length dc]
section
variable {H : Type} {enc : TypeId × Value → H} {P : Program} {w : World} {base : Nat} {spare : Nat → Bool} {held : Bool}
/-- A field: where it begins, how many cells it has, its type. -/
def fieldAt? (P : Program) (fs : Array Field) (j : Nat) : Option (Nat × Nat × TypeId) := match fs[j]? with
  | some f => some (f.offset, P.cellsOf f.type, f.type)
  | none => none
theorem trod_field {e : TypeId} {fs : Array Field} {m : Nat} {cs : List Value} {y : DataW H × List MemPlace} (he : P.underlying e = some (.struct fs)) (h : DataW.trod enc P w base spare held m e cs = some y) {j off sz : Nat} {t : TypeId} (hj : fieldAt? P fs j = some (off, sz, t)) :
    ∃ m' z, DataW.trod enc P w base spare held m' t ((cs.drop off).take sz) = some z ∧ ∀ n ∈ z.1.weights P t, n ∈ y.1.weights P e := by
  obtain ⟨xs, m', hm, hy, hlen, hxl, hf⟩ := DataW.trod_struct he h
  unfold fieldAt? at hj
  cases hfj : fs[j]? with
  | none => rw [hfj] at hj; cases hj
  | some f =>
    rw [hfj] at hj
    simp only [Option.some.injEq, Prod.mk.injEq] at hj
    obtain ⟨rfl, rfl, rfl⟩ := hj
    have h2 := hf j f hfj
    have hlt : j < xs.length := by have := (Array.getElem?_eq_some_iff.1 hfj).1; omega
    rw [List.getElem?_eq_getElem hlt] at h2
    refine ⟨_, _, h2, fun n hn => ?_⟩
    subst hy
    simp only [DataW.weights, he]
    exact DataW.weights_mem_each (j := j) (by rw [List.getElem?_map, Array.getElem?_toList, hfj]; rfl) (by rw [List.getElem?_map, List.getElem?_eq_getElem hlt]; rfl) n hn
theorem slice_weight {t e : TypeId} {n sz : Nat} {d : DataW H} (hu : P.underlying t = some (.slice e)) (hb : P.bytesOf e = sz) (hz : ∀ k ∈ d.weights P t, k ≤ reachBytes) (h : n = 0 ∨ ∃ el sp, d = .slice el sp ∧ el.length = n) : n * sz ≤ 140737488351232 := by
  rcases h with rfl | ⟨el, sp, rfl, rfl⟩
  · simp
  · have := hz ((el.length + sp.length) * P.bytesOf e) (by simp [DataW.weights, hu])
    rw [hb] at this
    have e : reachBytes = 140737488351232 := by decide
    rw [e, Nat.add_mul] at this
    omega
theorem weight_in {ts : List TypeId} {ds : List (DataW H)} (hz : (DataW.weightsEach P ts ds).all (· ≤ reachBytes) = true) {j : Nat} {t : TypeId} {d : DataW H} (ht : ts[j]? = some t) (hd : ds[j]? = some d) : ∀ k ∈ d.weights P t, k ≤ reachBytes :=
  fun k hk => of_decide_eq_true (List.all_eq_true.1 hz k (DataW.weights_mem_each ht hd k hk))
theorem dec_reply {e r t0 t1 t2 : TypeId} {fs rs : Array Field} {m : Nat} {cs : List Value} {y : DataW H × List MemPlace} (he : P.underlying e = some (.struct fs))
    (k0 : fieldAt? P fs 0 = some (0, 1, t0)) (k1 : fieldAt? P fs 1 = some (1, 1, t1)) (k2 : fieldAt? P fs 2 = some (2, 1, t2)) (u0 : P.underlying t0 = some (.int .i64)) (u1 : P.underlying t1 = some (.int .i64)) (u2 : P.underlying t2 = some (.slice r))
    (hr : P.underlying r = some (.struct rs)) (hrone : oneCellFields P rs = true) (hrC : P.cellsOf r = rs.size) (hr2 : rs.size = 2) (hrb : P.bytesOf r = 24)
    (j0 : fieldOf? P rs 0 = some .string) (j1 : fieldOf? P rs 1 = some (.int .i64)) (hl : cs.length = 3) (hz : ∀ k ∈ y.1.weights P e, k ≤ reachBytes) (h : DataW.trod enc P w base spare held m e cs = some y) :
    ∃ (p : ReplyM) (A : Option Addr) (c : Nat), p.Ok ∧ cs = [i64 p.why, i64 p.amount, .slice A p.rows.length c] ∧ RdR w (.slice A p.rows.length c) p.rows ∧ p.rows.length * 24 ≤ 140737488351232 := by
  match cs, hl with
  | [c0, c1, c2], _ =>
    obtain ⟨m0, z0, s0, _⟩ := trod_field he h k0
    obtain ⟨m1, z1, s1, _⟩ := trod_field he h k1
    obtain ⟨m2, z2, s2, w2⟩ := trod_field he h k2
    obtain ⟨n0, e0, _, r0⟩ := DataW.trod_int u0 s0
    obtain ⟨n1, e1, _, r1⟩ := DataW.trod_int u1 s1
    have hs2 := slice_trod u2 (v := c2) s2
    obtain ⟨l, hR, hg, hd, A, c, rfl⟩ := open_models (d := z2.1) (ps := z2.2) RowM.cells RowM.Ok u2 (by rw [hrC, hr2]) (by decide) hs2 s2 fun m cs y hl h => dec_row hr hrone hrC hr2 j0 j1 hl h
    simp only [List.drop_succ_cons, List.drop_zero, List.take_succ_cons, List.take_zero, List.cons.injEq, and_true] at e0 e1
    subst e0; subst e1
    exact ⟨⟨n0, n1, l⟩, A, c, ⟨wf_i64 r0, wf_i64 r1, hg⟩, rfl, hR, slice_weight u2 hrb (fun k hk => hz k (w2 k hk)) hd⟩
/-- A letter that comes in. -/
theorem open_letter {e i0 i1 i2 to tr tb b r t0 t1 t2 : TypeId} {fs os ps rs : Array Field} {v : Value} {d : DataW H} {pl : List MemPlace} (he : P.underlying e = some (.struct fs)) (hC : P.cellsOf e = 14)
    (k0 : fieldAt? P fs 0 = some (0, 1, i0)) (k1 : fieldAt? P fs 1 = some (1, 1, i1)) (k2 : fieldAt? P fs 2 = some (2, 1, i2)) (k3 : fieldAt? P fs 3 = some (3, 7, to)) (k4 : fieldAt? P fs 4 = some (10, 3, tr)) (k5 : fieldAt? P fs 5 = some (13, 1, tb))
    (u0 : P.underlying i0 = some (.int .i64)) (u1 : P.underlying i1 = some (.int .i64)) (u2 : P.underlying i2 = some (.int .i64))
    (ho : P.underlying to = some (.struct os)) (oone : oneCellFields P os = true) (oC : P.cellsOf to = os.size) (o7 : os.size = 7)
    (o0 : fieldOf? P os 0 = some (.int .i64)) (o1 : fieldOf? P os 1 = some .string) (o2 : fieldOf? P os 2 = some .string) (o3 : fieldOf? P os 3 = some (.int .i64)) (o4 : fieldOf? P os 4 = some .string) (o5 : fieldOf? P os 5 = some (.int .i64)) (o6 : fieldOf? P os 6 = some (.int .i64))
    (hp : P.underlying tr = some (.struct ps)) (p0 : fieldAt? P ps 0 = some (0, 1, t0)) (p1 : fieldAt? P ps 1 = some (1, 1, t1)) (p2 : fieldAt? P ps 2 = some (2, 1, t2)) (v0 : P.underlying t0 = some (.int .i64)) (v1 : P.underlying t1 = some (.int .i64)) (v2 : P.underlying t2 = some (.slice r))
    (hr : P.underlying r = some (.struct rs)) (hrone : oneCellFields P rs = true) (hrC : P.cellsOf r = rs.size) (hr2 : rs.size = 2) (hrb : P.bytesOf r = 24)
    (j0 : fieldOf? P rs 0 = some .string) (j1 : fieldOf? P rs 1 = some (.int .i64)) (hb : P.underlying tb = some (.slice b)) (hb8 : P.underlying b = some (.int .u8)) (hbC : P.cellsOf b = 1) (hbb : P.bytesOf b = 1)
    (hv : Value.okWide P w .any 0 e v) (hz : ∀ k ∈ d.weights P e, k ≤ reachBytes) (h : DataW.Trod enc P w base spare held e v d pl) :
    ∃ (x : LetP) (V D : Option Addr) (c dc : Nat), x.Ok ∧ v = agg (x.cells V c D dc) ∧ RdR w (.slice V x.rep.rows.length c) x.rep.rows ∧ RdB w (.slice D x.body.length dc) x.body ∧ x.rep.rows.length * 24 ≤ 140737488351232 ∧ x.body.length ≤ 140737488351232 := by
  obtain ⟨cs0, rfl, hs⟩ := okWide_struct he hv
  obtain ⟨m, h⟩ := h
  have hl : cs0.toList.length = 14 := by rw [Array.length_toList, hs, hC]
  have h : DataW.trod enc P w base spare held m e cs0.toList = some (d, pl) := h
  obtain ⟨cs, rfl⟩ : ∃ cs : List Value, cs0 = ⟨cs⟩ := ⟨cs0.toList, rfl⟩
  simp only at hl h
  match cs, hl with
  | [c0, c1, c2, c3, c4, c5, c6, c7, c8, c9, c10, c11, c12, c13], _ =>
    obtain ⟨m0, z0, s0, _⟩ := trod_field he h k0
    obtain ⟨m1, z1, s1, _⟩ := trod_field he h k1
    obtain ⟨m2, z2, s2, _⟩ := trod_field he h k2
    obtain ⟨m3, z3, s3, _⟩ := trod_field he h k3
    obtain ⟨m4, z4, s4, w4⟩ := trod_field he h k4
    obtain ⟨m5, z5, s5, w5⟩ := trod_field he h k5
    obtain ⟨n0, e0, _, w0⟩ := DataW.trod_int u0 s0
    obtain ⟨n1, e1, _, w1⟩ := DataW.trod_int u1 s1
    obtain ⟨n2, e2, _, w2⟩ := DataW.trod_int u2 s2
    obtain ⟨o, hok, eo⟩ := dec_op ho oone oC o7 o0 o1 o2 o3 o4 o5 o6 (by rw [o7]; rfl) s3
    obtain ⟨p, A, c, hpk, ep, hpR, hpz⟩ := dec_reply hp p0 p1 p2 v0 v1 v2 hr hrone hrC hr2 hrb j0 j1 rfl (fun k hk => hz k (w4 k hk)) s4
    have hs5 := slice_trod hb (v := c13) s5
    obtain ⟨bs, hB, hBd⟩ := open_bytes_in (d := z5.1) (ps := z5.2) hb hb8 hbC hs5 s5
    have hbz := slice_weight hb hbb (fun k hk => hz k (w5 k hk)) hBd
    rw [Nat.mul_one] at hbz
    obtain ⟨D, dc, rfl⟩ := hB.form
    simp only [List.drop_succ_cons, List.drop_zero, List.take_succ_cons, List.take_zero, List.cons.injEq, and_true] at e0 e1 e2 eo ep
    have eo2 : [c3, c4, c5, c6, c7, c8, c9] = o.cells := eo
    have ep2 : [c10, c11, c12] = [i64 p.why, i64 p.amount, .slice A p.rows.length c] := by simpa using ep
    unfold Opm.cells at eo2
    simp only [List.cons.injEq, and_true] at eo2 ep2
    obtain ⟨rfl, rfl, rfl, rfl, rfl, rfl, rfl⟩ := eo2
    obtain ⟨rfl, rfl, rfl⟩ := ep2
    subst e0; subst e1; subst e2
    exact ⟨⟨n0, n1, n2, o, p, bs⟩, A, D, c, dc, ⟨wf_i64 w0, wf_i64 w1, wf_i64 w2, hok, hpk⟩, rfl, hpR, hB, hpz, hbz⟩
end
/-! ### as bytes -/
/-- Can it be packed? -/
def LetP.Fits (x : LetP) : Prop :=
  (x.kind = 2 → x.op.frm.length ≤ 65536 ∧ x.op.to.length ≤ 65536 ∧ x.op.key.length ≤ 65536) ∧ (x.kind = 3 → x.rep.rows.length ≤ 600 ∧ ∀ r ∈ x.rep.rows, r.name.length ≤ 65536) ∧ (x.kind ≠ 2 → x.kind ≠ 3 → x.body.length ≤ 65536)
instance (x : LetP) : Decidable x.Fits := by unfold LetP.Fits; infer_instance
def letv (x : LetP) : List UInt8 :=
  iv x.kind ++ (if x.kind = 2 then iv x.n ++ opv x.op else if x.kind = 3 then iv x.n ++ rpv x.rep else if x.kind = 5 then iv x.n ++ (iv x.group ++ tv x.body) else if x.kind = 4 then iv x.n ++ tv x.body else tv x.body)
/-- A letter as bytes, and the error. -/
def packB (x : LetP) : List UInt8 × Int :=
  if x.kind < 1 ∨ 5 < x.kind then ([], 1) else if ¬ x.Fits then ([], 3) else if 1048576 < (letv x).length then ([], 3) else (letv x, 0)
theorem packB_ok {x : LetP} (h : (packB x).2 = 0) : 1 ≤ x.kind ∧ x.kind ≤ 5 ∧ x.Fits ∧ (packB x).1 = letv x ∧ (letv x).length ≤ 1048576 := by
  unfold packB at h ⊢
  split at h
  · cases h
  · rename_i h1
    split at h
    · cases h
    · rename_i h2
      split at h
      · cases h
      · rename_i h3
        rw [if_neg h1, if_neg h2, if_neg h3]
        exact ⟨by omega, by omega, Classical.not_not.1 h2, rfl, by omega⟩
theorem let_op {x : LetP} (h : x.Ok) (hf : x.Fits) (hk : x.kind = 2) : (opv x.op).length ≤ 300000 := by
  obtain ⟨a1, a2, a3⟩ := hf.1 hk
  have := opv_len x.op
  have b1 := tv_le (s := x.op.frm) (by omega)
  have b2 := tv_le (s := x.op.to) (by omega)
  have b3 := tv_le (s := x.op.key) (by omega)
  have b4 := iv_length_10 h.op.kind
  have b5 := iv_length_10 h.op.amount
  have b6 := iv_length_10 h.op.slot
  have b7 := iv_length_10 h.op.shard
  omega
theorem let_rep {x : LetP} (h : x.Ok) (hf : x.Fits) (hk : x.kind = 3) : (rpv x.rep).length ≤ 40000000 := by
  obtain ⟨a1, a2⟩ := hf.2.1 hk
  have := rpv_len x.rep
  have b1 := iv_length_10 h.rep.why
  have b2 := iv_length_10 h.rep.amount
  have b3 := uv_length_10 (n := x.rep.rows.length) (by omega)
  have b4 := rowsv_len_le x.rep.rows a2 h.rep.rows (by decide)
  have b5 : x.rep.rows.length * (65536 + 20) ≤ 600 * (65536 + 20) := Nat.mul_le_mul_right _ a1
  omega
theorem let_body {x : LetP} (hf : x.Fits) (h2 : x.kind ≠ 2) (h3 : x.kind ≠ 3) : x.body.length ≤ 65536 := hf.2.2 h2 h3
theorem LetP.ext6 {x y : LetP} (h1 : x.kind = y.kind) (h2 : x.n = y.n) (h3 : x.group = y.group) (h4 : x.op = y.op) (h5 : x.rep = y.rep) (h6 : x.body = y.body) : x = y := by
  cases x; cases y
  simp only at *
  subst h1; subst h2; subst h3; subst h4; subst h5; subst h6
  rfl
/-- The group that an operation goes to. -/
def groupI (k : Int) : Int := if k = 6 ∨ k = 7 then 0 else -1
/-- What counts of a letter. -/
def LetP.just (x : LetP) : LetP :=
  ⟨x.kind, if x.kind = 1 then 0 else x.n, if x.kind = 5 then x.group else 0, if x.kind = 2 then x.op else ⟨0, [], [], 0, [], 0, 0⟩, if x.kind = 3 then x.rep else ⟨0, 0, []⟩, if x.kind = 2 ∨ x.kind = 3 then [] else x.body⟩
theorem letv_just {x y : LetP} (h : x.just = y.just) (hx : 1 ≤ x.kind ∧ x.kind ≤ 5) : letv x = letv y := by
  unfold LetP.just at h
  simp only [LetP.mk.injEq] at h
  obtain ⟨h1, h2, h3, h4, h5, h6⟩ := h
  unfold letv
  rw [← h1] at h2 h3 h4 h5 h6 ⊢
  by_cases k2 : x.kind = 2
  · simp only [if_pos k2, if_neg (show ¬ x.kind = 1 by omega)] at h2 h4 ⊢; rw [h2, h4]
  · by_cases k3 : x.kind = 3
    · simp only [if_neg k2, if_pos k3, if_neg (show ¬ x.kind = 1 by omega)] at h2 h5 ⊢; rw [h2, h5]
    · simp only [if_neg (show ¬ (x.kind = 2 ∨ x.kind = 3) by omega)] at h6
      by_cases k5 : x.kind = 5
      · simp only [if_neg k2, if_neg k3, if_pos k5, if_neg (show ¬ x.kind = 1 by omega)] at h2 h3 ⊢; rw [h2, h3, h6]
      · by_cases k4 : x.kind = 4
        · simp only [if_neg k2, if_neg k3, if_neg k5, if_pos k4, if_neg (show ¬ x.kind = 1 by omega)] at h2 ⊢; rw [h2, h6]
        · simp only [if_neg k2, if_neg k3, if_neg k5, if_neg k4]; rw [h6]
theorem letv_inj {x y : LetP} (hx : x.Ok) (hy : y.Ok) (fx : x.Fits) (fy : y.Fits) (kx : 1 ≤ x.kind ∧ x.kind ≤ 5) (h : letv x = letv y) : x.just = y.just := by
  unfold letv at h
  obtain ⟨hk, h⟩ := iv_prefix hx.kind hy.kind h
  unfold LetP.just
  unfold LetP.Fits at fx fy
  rw [← hk] at h fy ⊢
  simp only [LetP.mk.injEq, true_and]
  by_cases k2 : x.kind = 2
  · simp only [if_pos k2] at h
    obtain ⟨a1, a2, a3⟩ := fx.1 k2
    obtain ⟨b1, b2, b3⟩ := fy.1 k2
    obtain ⟨e1, e2⟩ := iv_prefix hx.n hy.n h
    have e3 := opv_inj hx.op hy.op (by omega) (by omega) (by omega) (by omega) (by omega) (by omega) e2
    simp [k2, e1, e3]
  · by_cases k3 : x.kind = 3
    · simp only [if_neg k2, if_pos k3] at h
      obtain ⟨a1, a2⟩ := fx.2.1 k3
      obtain ⟨b1, b2⟩ := fy.2.1 k3
      obtain ⟨e1, e2⟩ := iv_prefix hx.n hy.n h
      have e3 := rpv_inj hx.rep hy.rep (by omega) (by omega) (fun r hr => by have := a2 r hr; omega) (fun r hr => by have := b2 r hr; omega) e2
      simp [k3, e1, e3]
    · have a := fx.2.2 k2 k3
      have b := fy.2.2 k2 k3
      have hn : ¬ (x.kind = 2 ∨ x.kind = 3) := by omega
      by_cases k5 : x.kind = 5
      · simp only [if_neg k2, if_neg k3, if_pos k5] at h
        obtain ⟨e1, h⟩ := iv_prefix hx.n hy.n h
        obtain ⟨e2, h⟩ := iv_prefix hx.group hy.group h
        obtain ⟨e3, _⟩ := tv_prefix (a := x.body) (b := y.body) (r := []) (s := []) (by omega) (by omega) (by rw [h])
        simp [k5, e1, e2, e3]
      · by_cases k4 : x.kind = 4
        · simp only [if_neg k2, if_neg k3, if_neg k5, if_pos k4] at h
          obtain ⟨e1, h⟩ := iv_prefix hx.n hy.n h
          obtain ⟨e3, _⟩ := tv_prefix (a := x.body) (b := y.body) (r := []) (s := []) (by omega) (by omega) (by rw [h])
          simp [k4, e1, e3]
        · simp only [if_neg k2, if_neg k3, if_neg k5, if_neg k4] at h
          obtain ⟨e3, _⟩ := tv_prefix (a := x.body) (b := y.body) (r := []) (s := []) (by omega) (by omega) (by rw [h])
          have k1 : x.kind = 1 := by omega
          simp [k1, e3]
end Go.Q
