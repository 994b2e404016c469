/- What is written apart is apart; messages compared. -/
import Derived.Test.YtooginpgclcldaaDoorLG
set_option linter.unusedVariables false
namespace Go.Q
open Go.RowKit

structure MsgP.Same (a b : MsgP) : Prop where
  kind : a.kind = b.kind
  group : a.group = b.group
  frm : a.frm = b.frm
  to : a.to = b.to
  term : a.term = b.term
  index : a.index = b.index
  logTerm : a.logTerm = b.logTerm
  commit : a.commit = b.commit
  ok : a.ok = b.ok
  ents : a.entries.map EntP.key = b.entries.map EntP.key
  data : a.data = b.data
theorem key_take {l : List EntP} {i : Nat} {x : EntP} (h : l[i]? = some x) : (l.take (i + 1)).map EntP.key = (l.take i).map EntP.key ++ [x.key] := by
  obtain ⟨h1, h2⟩ := List.getElem?_eq_some_iff.1 h
  rw [List.take_succ_eq_append_getElem h1, List.map_append, h2]
  rfl
theorem key_at {l : List EntP} {i : Nat} {x : EntP} (h : l[i]? = some x) : (l.map EntP.key)[i]? = some x.key := by rw [List.getElem?_map, h]; rfl
theorem uv_prefix {a b : Nat} {r s : List UInt8} (ha : a < 18446744073709551616) (hb : b < 18446744073709551616) (h : uv a ++ r = uv b ++ s) : a = b ∧ r = s := by
  have h1 := scanB_uv r ha
  have h2 := scanB_uv s hb
  rw [h, h2] at h1
  have e : b = a := congrArg Prod.fst h1
  subst e
  exact ⟨rfl, List.append_cancel_left h⟩
theorem iv_prefix {a b : Int} {r s : List UInt8} (ha : -9223372036854775808 ≤ a ∧ a ≤ 9223372036854775807) (hb : -9223372036854775808 ≤ b ∧ b ≤ 9223372036854775807) (h : iv a ++ r = iv b ++ s) : a = b ∧ r = s := by
  obtain ⟨h1, h2⟩ := uv_prefix (zz_lt ha) (zz_lt hb) h
  exact ⟨by rw [← unzz_zz a, h1, unzz_zz], h2⟩
theorem tv_prefix {a b r s : List UInt8} (ha : a.length < 18446744073709551616) (hb : b.length < 18446744073709551616) (h : tv a ++ r = tv b ++ s) : a = b ∧ r = s := by
  unfold tv at h
  rw [List.append_assoc, List.append_assoc] at h
  obtain ⟨h1, h2⟩ := uv_prefix ha hb h
  exact List.append_inj h2 h1
theorem opv_inj {o p : Opm} (ho : o.Ok) (hp : p.Ok) (h1 : o.frm.length ≤ 1048576) (h2 : o.to.length ≤ 1048576) (h3 : o.key.length ≤ 1048576) (k1 : p.frm.length ≤ 1048576) (k2 : p.to.length ≤ 1048576) (k3 : p.key.length ≤ 1048576) (h : opv o = opv p) : o = p := by
  have h := congrArg (· ++ ([] : List UInt8)) h
  simp only [opv, List.append_assoc] at h
  obtain ⟨e1, h⟩ := iv_prefix ho.kind hp.kind h
  obtain ⟨e2, h⟩ := tv_prefix (by omega) (by omega) h
  obtain ⟨e3, h⟩ := tv_prefix (by omega) (by omega) h
  obtain ⟨e4, h⟩ := iv_prefix ho.amount hp.amount h
  obtain ⟨e5, h⟩ := tv_prefix (by omega) (by omega) h
  obtain ⟨e6, h⟩ := iv_prefix ho.slot hp.slot h
  obtain ⟨e7, h⟩ := iv_prefix ho.shard hp.shard h
  cases o; cases p
  simp only at *
  subst e1; subst e2; subst e3; subst e4; subst e5; subst e6; subst e7
  rfl
theorem aggB_op (o p : Opm) : aggB [i64 o.kind, .string (str o.frm), .string (str o.to), i64 o.amount, .string (str o.key), i64 o.slot, i64 o.shard] [i64 p.kind, .string (str p.frm), .string (str p.to), i64 p.amount, .string (str p.key), i64 p.slot, i64 p.shard] = true ↔ o = p := by
  cases o; cases p
  simp only [aggB, Bool.and_eq_true, cellB_str_iff, cellB_int_iff, Opm.mk.injEq, and_true]
theorem rowsv_prefix : ∀ {l m : List RowM} {r s : List UInt8}, (∀ x ∈ l, x.Ok) → (∀ x ∈ m, x.Ok) → (∀ x ∈ l, x.name.length ≤ 1048576) → (∀ x ∈ m, x.name.length ≤ 1048576) → l.length = m.length → rowsv l ++ r = rowsv m ++ s → l = m ∧ r = s
  | [], [], r, s, _, _, _, _, _, h => ⟨rfl, h⟩
  | [], _ :: _, _, _, _, _, _, _, hl, _ => by simp at hl
  | _ :: _, [], _, _, _, _, _, _, hl, _ => by simp at hl
  | x :: l, y :: m, r, s, h1, h2, h3, h4, hl, h => by
    simp only [rowsv, List.append_assoc] at h
    have n1 := h3 x (by simp)
    have n2 := h4 y (by simp)
    obtain ⟨e1, h⟩ := tv_prefix (by omega) (by omega) h
    obtain ⟨e2, h⟩ := iv_prefix (h1 x (by simp)) (h2 y (by simp)) h
    obtain ⟨e3, hrs⟩ := rowsv_prefix (fun z hz => h1 z (by simp [hz])) (fun z hz => h2 z (by simp [hz])) (fun z hz => h3 z (by simp [hz])) (fun z hz => h4 z (by simp [hz])) (by simpa using hl) h
    subst e3
    cases x; cases y
    simp only at e1 e2
    subst e1; subst e2
    exact ⟨rfl, hrs⟩
theorem rpv_inj {p q : ReplyM} (hp : p.Ok) (hq : q.Ok) (hp1 : p.rows.length ≤ 1048576) (hq1 : q.rows.length ≤ 1048576) (hp2 : ∀ x ∈ p.rows, x.name.length ≤ 1048576) (hq2 : ∀ x ∈ q.rows, x.name.length ≤ 1048576) (h : rpv p = rpv q) : p = q := by
  have h := congrArg (· ++ ([] : List UInt8)) h
  simp only [rpv, List.append_assoc] at h
  obtain ⟨e1, h⟩ := iv_prefix hp.why hq.why h
  obtain ⟨e2, h⟩ := iv_prefix hp.amount hq.amount h
  obtain ⟨e3, h⟩ := uv_prefix (by omega) (by omega) h
  obtain ⟨e4, h⟩ := rowsv_prefix hp.rows hq.rows hp2 hq2 e3 h
  cases p; cases q
  simp only at *
  subst e1; subst e2; subst e4
  rfl
theorem entsv_prefix : ∀ {l m : List EntP} {r s : List UInt8}, EntsOk l → EntsOk m → (∀ x ∈ l, x.cmd.length ≤ 65536) → (∀ x ∈ m, x.cmd.length ≤ 65536) → l.length = m.length → entsv l ++ r = entsv m ++ s → l.map EntP.key = m.map EntP.key ∧ r = s
  | [], [], r, s, _, _, _, _, _, h => ⟨rfl, h⟩
  | [], _ :: _, _, _, _, _, _, _, hl, _ => by simp at hl
  | _ :: _, [], _, _, _, _, _, _, hl, _ => by simp at hl
  | x :: l, y :: m, r, s, h1, h2, h3, h4, hl, h => by
    simp only [entsv, List.append_assoc] at h
    have n1 := h3 x (by simp)
    have n2 := h4 y (by simp)
    obtain ⟨e2, h⟩ := iv_prefix (h1 x (by simp)) (h2 y (by simp)) h
    obtain ⟨e1, h⟩ := tv_prefix (by omega) (by omega) h
    obtain ⟨e3, hrs⟩ := entsv_prefix (fun z hz => h1 z (by simp [hz])) (fun z hz => h2 z (by simp [hz])) (fun z hz => h3 z (by simp [hz])) (fun z hz => h4 z (by simp [hz])) (by simpa using hl) h
    refine ⟨?_, hrs⟩
    rw [List.map_cons, List.map_cons, e3]
    simp only [EntP.key, e1, e2]
theorem entsv_key : ∀ {l m : List EntP}, l.map EntP.key = m.map EntP.key → entsv l = entsv m
  | [], [], _ => rfl
  | [], _ :: _, h => by simp at h
  | _ :: _, [], h => by simp at h
  | x :: l, y :: m, h => by
    simp only [List.map_cons, List.cons.injEq, EntP.key, Prod.mk.injEq] at h
    simp only [entsv]
    rw [h.1.1, h.1.2, entsv_key h.2]
theorem msgv_same {a b : MsgP} (h : a.Same b) : msgv a = msgv b := by
  have hl := congrArg List.length h.ents
  simp only [List.length_map] at hl
  unfold msgv headv
  rw [h.kind, h.group, h.frm, h.to, h.term, h.index, h.logTerm, h.commit, h.ok, hl, entsv_key h.ents, h.data]
theorem msgv_inj {a b : MsgP} (ha : a.Ok) (hb : b.Ok) (fa : a.Fits) (fb : b.Fits) (h : msgv a = msgv b) : a.Same b := by
  have h := congrArg (· ++ ([] : List UInt8)) h
  simp only [msgv, headv, List.append_assoc] at h
  have c1 := fa.count
  have c2 := fb.count
  have d1 := fa.data
  have d2 := fb.data
  obtain ⟨e1, h⟩ := iv_prefix ha.kind hb.kind h
  obtain ⟨e2, h⟩ := iv_prefix ha.group hb.group h
  obtain ⟨e3, h⟩ := iv_prefix ha.frm hb.frm h
  obtain ⟨e4, h⟩ := iv_prefix ha.to hb.to h
  obtain ⟨e5, h⟩ := iv_prefix ha.term hb.term h
  obtain ⟨e6, h⟩ := iv_prefix ha.index hb.index h
  obtain ⟨e7, h⟩ := iv_prefix ha.logTerm hb.logTerm h
  obtain ⟨e8, h⟩ := iv_prefix ha.commit hb.commit h
  obtain ⟨e9, h⟩ := uv_prefix (by cases a.ok <;> decide) (by cases b.ok <;> decide) h
  obtain ⟨e10, h⟩ := uv_prefix (by omega) (by omega) h
  obtain ⟨e11, h⟩ := entsv_prefix ha.ents hb.ents fa.cmds fb.cmds e10 h
  obtain ⟨e12, _⟩ := tv_prefix (by omega) (by omega) h
  refine ⟨e1, e2, e3, e4, e5, e6, e7, e8, ?_, e11, e12⟩
  cases h1 : a.ok <;> cases h2 : b.ok <;> rw [h1, h2] at e9 <;> first | rfl | cases e9
end Go.Q
