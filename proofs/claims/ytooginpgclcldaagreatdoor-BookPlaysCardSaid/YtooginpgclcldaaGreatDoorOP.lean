/- A book is read of its bytes. -/
import Derived.Test.YtooginpgclcldaaGreatDoorOB
import Derived.Test.YtooginpgclcldaaGreatDoorOK
import Derived.Test.YtooginpgclcldaaGreatDoorOJ
import Derived.Test.YtooginpgclcldaaGreatDoorLD
set_option linter.unusedVariables false
namespace Go.Q
def loadStep (s : Rdr × List AccM × Int) : Rdr × List AccM × Int :=
  (s.1.bytes.2.int.2.bytes.2,
    if putE s.2.1 s.1.bytes.1 s.1.bytes.2.int.1 = 0 ∧ s.1.bytes.2.int.2.bytes.1 ≠ [] then chgS (holdF s.1.bytes.2.int.2.bytes.1) (putS s.2.1 s.1.bytes.1 s.1.bytes.2.int.1) s.1.bytes.1 else putS s.2.1 s.1.bytes.1 s.1.bytes.2.int.1,
    if putE s.2.1 s.1.bytes.1 s.1.bytes.2.int.1 ≠ 0 ∨ (s.1.bytes.2.int.2.bytes.1 ≠ [] ∧ chgE (holdF s.1.bytes.2.int.2.bytes.1) (putS s.2.1 s.1.bytes.1 s.1.bytes.2.int.1) s.1.bytes.1 ≠ 0) then 11 else s.2.2)
def loadR : Nat → Rdr × List AccM × Int → Rdr × List AccM × Int
  | 0, s => s
  | n + 1, s => loadR n (loadStep s)
def loadN (bs : List UInt8) : Nat × Rdr := (⟨bs, 0, 0⟩ : Rdr).sized 200
def loadE (bs : List UInt8) : Rdr × List AccM × Int := loadR (loadN bs).1 ((loadN bs).2, [], 0)
theorem ins_last {S : List AccM} {a : AccM} (h : ∀ b ∈ S, b.name < a.name) : insS S a = S ++ [a] := by
  induction S with
  | nil => rfl
  | cons b S ih =>
    unfold insS
    rw [if_pos (h b (List.mem_cons_self ..)), ih fun c hc => h c (List.mem_cons_of_mem _ hc)]
    rfl
theorem get_last {S : List AccM} {a : AccM} (h : ∀ b ∈ S, b.name < a.name) : getS (S ++ [a]) a.name = some a := by
  unfold getS
  rw [List.find?_append, List.find?_eq_none.2 fun b hb => by
    have := h b hb
    simp only [decide_eq_true_eq]
    intro e; rw [e] at this; exact ltN_irrefl _ this]
  simp
theorem get_new {S : List AccM} {n : List UInt8} (h : ∀ b ∈ S, b.name < n) : getS S n = none := by
  unfold getS
  refine List.find?_eq_none.2 fun b hb => ?_
  have := h b hb
  simp only [decide_eq_true_eq]
  intro e; rw [e] at this; exact ltN_irrefl _ this
theorem set_last {S : List AccM} {a : AccM} (h : ∀ b ∈ S, b.name < a.name) (x : AccV) : setS (S ++ [a]) a.name x = S ++ [⟨a.name, x.1, x.2⟩] := by
  unfold setS
  rw [List.map_append]
  congr 1
  · refine (List.map_congr_left fun b hb => ?_).trans (List.map_id S)
    show (if b.name = a.name then _ else b) = b
    rw [if_neg]
    intro e
    have := h b hb
    rw [e] at this
    exact ltN_irrefl _ this
  · simp
theorem load_one {S : List AccM} {a : AccM} (ha : a.Ok) (hl : S.length < 200) (h : ∀ b ∈ S, b.name < a.name) :
    putE S a.name a.amt = 0 ∧ (if putE S a.name a.amt = 0 ∧ a.own ≠ [] then chgS (holdF a.own) (putS S a.name a.amt) a.name else putS S a.name a.amt) = S ++ [a] ∧ (a.own ≠ [] → chgE (holdF a.own) (putS S a.name a.amt) a.name = 0) := by
  have hg := get_new h
  have h0 : putE S a.name a.amt = 0 := by
    have := ha.lo
    unfold putE
    rw [if_neg (by rw [ha.name]; decide), if_neg (by omega), if_neg (by rw [hg]; decide), if_neg (by omega)]
  have h1 : putS S a.name a.amt = S ++ [⟨a.name, a.amt, []⟩] := by
    unfold putS
    rw [if_pos h0, ins_last (a := ⟨a.name, a.amt, []⟩) h]
  have hga : getS (S ++ [⟨a.name, a.amt, []⟩]) a.name = some ⟨a.name, a.amt, []⟩ := get_last (a := ⟨a.name, a.amt, []⟩) h
  have hf : a.own ≠ [] → holdF a.own (a.amt, []) = (0, a.amt, a.own) := fun hne => by
    have := ha.own
    unfold holdF
    rw [if_neg (by rintro (q | q); (exact hne q); omega), if_neg (fun q => q.1 rfl)]
  refine ⟨h0, ?_, fun hne => ?_⟩
  · rw [h1]
    by_cases hne : a.own = []
    · rw [if_neg (fun q => q.2 hne)]
      cases a; simp only at hne; subst hne; rfl
    · rw [if_pos ⟨h0, hne⟩]
      unfold chgS
      rw [hga]
      show setS _ a.name (holdF a.own (a.amt, [])).2 = _
      rw [hf hne]
      exact set_last (a := ⟨a.name, a.amt, []⟩) h _
  · rw [h1]
    unfold chgE
    rw [hga]
    show (holdF a.own (a.amt, [])).1 = 0
    rw [hf hne]
theorem load_loop {T : List AccM} (hT : Accs T) (bs : List UInt8) : ∀ (l S : List AccM) (k : Nat), S ++ l = T → bs.drop k = l.flatMap accB → k ≤ bs.length → loadR l.length (⟨bs, k, 0⟩, S, 0) = (⟨bs, bs.length, 0⟩, T, 0)
  | [], S, k, h, hd, hk => by
    rw [List.append_nil] at h
    have hkl : k = bs.length := by
      have := congrArg List.length hd
      rw [List.length_drop] at this
      simp only [List.flatMap_nil, List.length_nil] at this
      omega
    rw [h, hkl]
    rfl
  | a :: l, S, k, h, hd, hk => by
    have haT : a ∈ T := by rw [← h]; simp
    have hao := hT.ok a haT
    have hlt : ∀ b ∈ S, b.name < a.name := fun b hb => by
      have hs := hT.sorted
      rw [← h] at hs
      exact (List.pairwise_append.1 hs).2.2 b hb a (List.mem_cons_self ..)
    have hl : S.length < 200 := by
      have := hT.len
      rw [← h, List.length_append, List.length_cons] at this
      omega
    obtain ⟨e0, e1, e2⟩ := load_one hao hl hlt
    rw [List.flatMap_cons] at hd
    have hd1 : bs.drop k = tv a.name ++ (iv a.amt ++ (tv a.own ++ l.flatMap accB)) := by rw [hd]; unfold accB; simp
    have hn := hao.len
    have r1 := bytes_at hd1 (by omega)
    have hd2 := drop_next hd1
    have r2 := int_at hd2 ⟨by have := hao.lo; omega, hao.hi⟩
    have hd3 := drop_next hd2
    have r3 := bytes_at hd3 hao.own
    have hd4 := drop_next hd3
    have hk4 : k + (tv a.name).length + (iv a.amt).length + (tv a.own).length ≤ bs.length := by
      have q1 := congrArg List.length hd1
      simp only [List.length_drop, List.length_append] at q1
      have q2 := iv_pos a.amt
      omega
    have hstep : loadStep (⟨bs, k, 0⟩, S, 0) = (⟨bs, k + (tv a.name).length + (iv a.amt).length + (tv a.own).length, 0⟩, S ++ [a], 0) := by
      unfold loadStep
      simp only [r1, r2, r3]
      rw [e1, if_neg]
      rintro (q | ⟨q1, q2⟩)
      · exact q e0
      · exact q2 (e2 q1)
    show loadR l.length (loadStep _) = _
    rw [hstep]
    exact load_loop hT bs l (S ++ [a]) _ (by rw [List.append_assoc]; exact h) hd4 hk4
theorem load_back {S : List AccM} (hS : Accs S) : (loadE (bookB S)).1.end_ = 0 ∧ (loadE (bookB S)).2.1 = S ∧ (loadE (bookB S)).2.2 = 0 := by
  have hl := hS.len
  have hge : ∀ l : List AccM, l.length ≤ (l.flatMap accB).length := fun l => by
    induction l with
    | nil => exact Nat.le_refl _
    | cons a l ih =>
      rw [List.flatMap_cons, List.length_append, List.length_cons]
      have : 0 < (accB a).length := by unfold accB; have := iv_pos a.amt; simp only [List.length_append]; omega
      omega
  have hd : (bookB S).drop 0 = uv S.length ++ S.flatMap accB := rfl
  have hn : loadN (bookB S) = (S.length, ⟨bookB S, 0 + (uv S.length).length, 0⟩) := sized_at hd (by omega) (by omega) (hge S)
  have hE : loadE (bookB S) = (⟨bookB S, (bookB S).length, 0⟩, S, 0) := by
    unfold loadE
    rw [hn]
    refine load_loop hS (bookB S) S [] _ rfl (drop_next hd) ?_
    unfold bookB
    rw [List.length_append]; omega
  rw [hE]
  exact ⟨end_at rfl, rfl, rfl⟩
theorem loadR_step {n i : Nat} (h : i < n) (s : Rdr × List AccM × Int) : loadR (n - i) s = loadR (n - (i + 1)) (loadStep s) := by
  rw [show n - i = (n - (i + 1)) + 1 from by omega]
  rfl
def loadX (bs : List UInt8) : Int := if (loadE bs).1.end_ ≠ 0 then (loadE bs).1.end_ else if (loadE bs).2.2 ≠ 0 ∨ bookB (loadE bs).2.1 ≠ bs then 11 else 0
theorem loadX_good {S : List AccM} (hS : Accs S) : loadX (bookB S) = 0 := by
  obtain ⟨h1, h2, h3⟩ := load_back hS
  unfold loadX
  rw [if_neg (by rw [h1]; decide), if_neg]
  rintro (q | q)
  · exact q h3
  · exact q (by rw [h2])
theorem loadN_le (bs : List UInt8) : (loadN bs).1 ≤ 200 := by
  have := Rdr.sized_most (⟨bs, 0, 0⟩ : Rdr) 200
  show ((⟨bs, 0, 0⟩ : Rdr).sized 200).1 ≤ 200
  omega
theorem bookB_len {S : List AccM} (h : Accs S) : (bookB S).length ≤ 20000000 := by
  have hone : ∀ a ∈ S, (accB a).length ≤ 65600 := fun a ha => by
    have ho := h.ok a ha
    have h1 := ho.len
    have h2 := ho.own
    have h3 := tv_le (s := a.name) (by omega)
    have h4 := tv_le (s := a.own) (by omega)
    have h5 := iv_length_10 (n := a.amt) ⟨by have := ho.lo; omega, ho.hi⟩
    unfold accB
    simp only [List.length_append]
    omega
  have hsum : ∀ l : List AccM, (∀ a ∈ l, (accB a).length ≤ 65600) → (l.flatMap accB).length ≤ l.length * 65600 := fun l => by
    induction l with
    | nil => intro _; exact Nat.le_refl _
    | cons a l ih =>
      intro hl
      have := ih fun b hb => hl b (List.mem_cons_of_mem _ hb)
      have := hl a (List.mem_cons_self ..)
      rw [List.flatMap_cons, List.length_append, List.length_cons, Nat.add_mul]
      omega
  have h1 := hsum S hone
  have h2 := h.len
  have h3 := uv_length_10 (n := S.length) (by omega)
  unfold bookB
  rw [List.length_append]
  omega
theorem put_len {S : List AccM} {n : List UInt8} {k : Int} (h : putE S n k = 0) : putS S n k ≠ S := fun e => by
  have := congrArg List.length e
  unfold putS at this
  rw [if_pos h, (insS_perm S _).length_eq, List.length_append] at this
  simp at this
theorem put_same {S : List AccM} {n : List UInt8} {k : Int} (h : ¬ putE S n k = 0) : putS S n k = S := by unfold putS; rw [if_neg h]
theorem eqt_f {t : Bool} {p : Prop} (h : t = true ↔ p) (hp : ¬ p) : t = false := by
  cases t
  · rfl
  · exact absurd (h.1 rfl) hp
end Go.Q
