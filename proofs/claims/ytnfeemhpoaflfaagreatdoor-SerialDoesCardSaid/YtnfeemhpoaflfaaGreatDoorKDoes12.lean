/- What the claim stands on, part 12: rules of the walk, contracts of the functions, plain laws. -/
import Derived.Test.YtnfeemhpoaflfaaGreatDoorKDoes9
import Derived.Test.YtnfeemhpoaflfaaGreatDoorKDoes11
import Derived.Lib.ItoaLen
import Derived.Lib.ItoaMem
import Derived.Lib.LaidTab
import Derived.Lib.Bytealg
import Derived.Sort.LotA
import Derived.Sort.Grow
import Derived.Test.YtnfeemhpoaflfaaGreatDoorKDoes8
import Derived.Test.YtnfeemhpoaflfaaGreatDoorProg
import Derived.Test.YtnfeemhpoaflfaaGreatDoorKDoes6
import Derived.Test.YtnfeemhpoaflfaaGreatDoorKDoes10
import Derived.Shelf.SlSortCmp.NoneTotal
set_option linter.unusedVariables false
namespace Go.Q
open Go.RowKit
def rowT (a : RowM) : List UInt8 := a.name ++ [61] ++ Lib.itoa a.amount ++ [32]
def idT (x : List UInt8 × List UInt8) (why : Int) : List UInt8 := x.1 ++ [47] ++ x.2 ++ [58] ++ Lib.decDigits why.toNat ++ [32]
def keptT (k : KeptM) : List UInt8 := idT k.id k.why
/-- The order of what is kept. -/
def ltI (a b : List UInt8 × List UInt8) : Prop := a.1 < b.1 ∨ (a.1 = b.1 ∧ a.2 < b.2)
instance (a b : List UInt8 × List UInt8) : Decidable (ltI a b) := by unfold ltI; infer_instance
def insK : List KeptM → KeptM → List KeptM
  | [], x => [x]
  | y :: l, x => if ltI y.id x.id then y :: insK l x else x :: y :: l
def sortK (K : List KeptM) : List KeptM := K.foldl insK []
def textE (S : List RowM) (K : List KeptM) : List UInt8 := S.flatMap rowT ++ (sortK K).flatMap keptT
theorem ltI_irrefl (a : List UInt8 × List UInt8) : ¬ ltI a a := by
  rintro (h | h)
  · exact List.lt_irrefl _ h
  · exact List.lt_irrefl _ h.2
theorem ltI_trans {a b c : List UInt8 × List UInt8} (h : ltI a b) (k : ltI b c) : ltI a c := by
  rcases h with h | ⟨h1, h2⟩ <;> rcases k with k | ⟨k1, k2⟩
  · exact .inl (List.lt_trans h k)
  · exact .inl (by rw [← k1]; exact h)
  · exact .inl (by rw [h1]; exact k)
  · exact .inr ⟨h1.trans k1, List.lt_trans h2 k2⟩
theorem ltI_or (a b : List UInt8 × List UInt8) : ltI a b ∨ a = b ∨ ltI b a := by
  rcases ltN_or a.1 b.1 with h | h | h
  · exact .inl (.inl h)
  · rcases ltN_or a.2 b.2 with k | k | k
    · exact .inl (.inr ⟨h, k⟩)
    · exact .inr (.inl (Prod.ext h k))
    · exact .inr (.inr (.inr ⟨h.symm, k⟩))
  · exact .inr (.inr (.inl h))
theorem insK_perm : ∀ (l : List KeptM) (x : KeptM), (insK l x).Perm (l ++ [x])
  | [], x => List.Perm.refl _
  | y :: l, x => by
    unfold insK
    split
    · exact (insK_perm l x).cons y
    · exact (List.perm_append_comm (l₁ := [x]) (l₂ := y :: l))
theorem foldK_perm : ∀ (K l : List KeptM), (K.foldl insK l).Perm (l ++ K)
  | [], l => by rw [List.append_nil]; exact List.Perm.refl _
  | x :: K, l => by
    rw [List.foldl_cons]
    refine (foldK_perm K (insK l x)).trans ?_
    refine ((insK_perm l x).append_right K).trans ?_
    rw [List.append_assoc]
    exact List.Perm.refl _
theorem sortK_perm (K : List KeptM) : (sortK K).Perm K := foldK_perm K []
abbrev ordK (l : List KeptM) : Prop := l.Pairwise (fun a b => ltI a.id b.id)
theorem insK_sorted : ∀ {l : List KeptM} {x : KeptM}, ordK l → (∀ y ∈ l, y.id ≠ x.id) → ordK (insK l x)
  | [], x, _, _ => by simp [insK, ordK]
  | y :: l, x, h, hn => by
    have h' := List.pairwise_cons.1 h
    unfold insK
    split
    · next hlt =>
      refine List.pairwise_cons.2 ⟨fun c hc => ?_, insK_sorted h'.2 fun c hc => hn c (List.mem_cons_of_mem _ hc)⟩
      rcases List.mem_append.1 ((insK_perm l x).mem_iff.1 hc) with hc | hc
      · exact h'.1 c hc
      · rw [List.mem_singleton.1 hc]; exact hlt
    · next hlt =>
      have hxy : ltI x.id y.id := by
        rcases ltI_or y.id x.id with h1 | h1 | h1
        · exact absurd h1 hlt
        · exact absurd h1 (hn y (List.mem_cons_self ..))
        · exact h1
      refine List.pairwise_cons.2 ⟨fun c hc => ?_, h⟩
      rcases List.mem_cons.1 hc with rfl | hc
      · exact hxy
      · exact ltI_trans hxy (h'.1 c hc)
theorem foldK_sorted : ∀ {K l : List KeptM}, ordK l → ((l ++ K).map KeptM.id).Nodup → ordK (K.foldl insK l)
  | [], l, h, _ => h
  | x :: K, l, h, hn => by
    rw [List.foldl_cons]
    refine foldK_sorted (insK_sorted h fun y hy e => ?_) ?_
    · rw [List.map_append, List.nodup_append] at hn
      exact hn.2.2 _ (List.mem_map.2 ⟨y, hy, rfl⟩) _ (List.mem_map.2 ⟨x, List.mem_cons_self .., rfl⟩) e
    · refine (((insK_perm l x).append_right K).map KeptM.id).nodup_iff.2 ?_
      rw [List.append_assoc]
      exact hn
theorem sortK_sorted {K : List KeptM} (h : (K.map KeptM.id).Nodup) : ordK (sortK K) := foldK_sorted List.Pairwise.nil (by simpa using h)
theorem ordK_unique : ∀ {l r : List KeptM}, ordK l → ordK r → l.Perm r → l = r
  | [], r, _, _, hp => (List.Perm.nil_eq hp)
  | a :: l, [], _, _, hp => absurd hp.length_eq (by simp)
  | a :: l, b :: r, hl, hr, hp => by
    have hl' := List.pairwise_cons.1 hl
    have hr' := List.pairwise_cons.1 hr
    have hab : a = b := by
      rcases List.mem_cons.1 (hp.mem_iff.1 (List.mem_cons_self ..)) with h | h
      · exact h
      · rcases List.mem_cons.1 (hp.mem_iff.2 (List.mem_cons_self ..)) with k | k
        · exact k.symm
        · exact absurd (ltI_trans (hr'.1 a h) (hl'.1 b k)) (ltI_irrefl _)
    subst hab
    rw [ordK_unique hl'.2 hr'.2 (List.Perm.cons_inv hp)]
theorem sortK_of_perm {K R : List KeptM} (h : (K.map KeptM.id).Nodup) (hp : K.Perm R) : sortK K = sortK R :=
  ordK_unique (sortK_sorted h) (sortK_sorted ((hp.map KeptM.id).nodup_iff.1 h)) ((sortK_perm K).trans (hp.trans (sortK_perm R).symm))
/-- What is in order is not turned by sorting. -/
def cmpI (x y : List UInt8 × List UInt8) : Int := if x.1 = y.1 then Lib.compareBytes x.2 y.2 else Lib.compareBytes x.1 y.1
theorem compare_neg : ∀ (a b : List UInt8), (Lib.compareBytes a b < 0 ↔ a < b) ∧ (Lib.compareBytes a b = 0 ↔ a = b)
  | [], [] => by simp [Lib.compareBytes]
  | [], _ :: _ => by simp [Lib.compareBytes]
  | _ :: _, [] => by simp [Lib.compareBytes]
  | a :: xs, b :: ys => by
    have ih := compare_neg xs ys
    unfold Lib.compareBytes
    rw [List.cons_lt_cons_iff, List.cons.injEq]
    by_cases h1 : a < b
    · rw [if_pos h1]
      have hne : a ≠ b := fun e => by subst e; exact absurd h1 (UInt8.lt_irrefl _)
      exact ⟨⟨fun _ => .inl h1, fun _ => by decide⟩, ⟨fun h => absurd h (by decide), fun h => absurd h.1 hne⟩⟩
    · rw [if_neg h1]
      by_cases h2 : b < a
      · rw [if_pos h2]
        have hne : a ≠ b := fun e => by subst e; exact absurd h2 (UInt8.lt_irrefl _)
        exact ⟨⟨fun h => absurd h (by decide), fun h => by rcases h with h | h; exact absurd h h1; exact absurd h.1 hne⟩, ⟨fun h => absurd h (by decide), fun h => absurd h.1 hne⟩⟩
      · rw [if_neg h2]
        have hab : a = b := UInt8.le_antisymm (UInt8.not_lt.1 h2) (UInt8.not_lt.1 h1)
        subst hab
        exact ⟨⟨fun h => .inr ⟨rfl, ih.1.1 h⟩, fun h => by rcases h with h | h; exact absurd h h1; exact ih.1.2 h.2⟩, ⟨fun h => ⟨rfl, ih.2.1 h⟩, fun h => ih.2.2 h.2⟩⟩
theorem cmpI_neg (x y : List UInt8 × List UInt8) : cmpI x y < 0 ↔ ltI x y := by
  unfold cmpI ltI
  by_cases h : x.1 = y.1
  · rw [if_pos h, (compare_neg _ _).1]
    constructor
    · exact fun k => .inr ⟨h, k⟩
    · rintro (k | k)
      · rw [h] at k; exact absurd k (List.lt_irrefl _)
      · exact k.2
  · rw [if_neg h, (compare_neg _ _).1]
    constructor
    · exact .inl
    · rintro (k | k)
      · exact k
      · exact absurd k.1 h
theorem ids_mergeSort {K : List KeptM} (h : (K.map KeptM.id).Nodup) {l : List (List UInt8 × List UInt8)} (hp : l.Perm (K.map KeptM.id)) (le : List UInt8 × List UInt8 → List UInt8 × List UInt8 → Bool) (hle : ∀ x y, le x y = true ↔ ¬ ltI y x) : l.mergeSort le = (sortK K).map KeptM.id := by
  have hs := sortK_sorted h
  have htr : ∀ a b c, le a b = true → le b c = true → le a c = true := by
    intro a b c h1 h2
    rw [hle] at h1 h2 ⊢
    intro h3
    rcases ltI_or a b with q | q | q
    · exact h2 (ltI_trans h3 q)
    · subst q; exact h2 h3
    · exact h1 q
  have hto : ∀ a b, (le a b || le b a) = true := by
    intro a b
    rw [Bool.or_eq_true, hle, hle]
    rcases ltI_or a b with q | q | q
    · exact .inl fun k => ltI_irrefl _ (ltI_trans q k)
    · subst q; exact .inl (ltI_irrefl _)
    · exact .inr fun k => ltI_irrefl _ (ltI_trans q k)
  have hms := List.pairwise_mergeSort htr hto l
  have hpm := (List.mergeSort_perm l le).trans (hp.trans ((sortK_perm K).map KeptM.id).symm)
  have hnd : (l.mergeSort le).Nodup := hpm.nodup_iff.2 (((sortK_perm K).map KeptM.id).nodup_iff.2 h)
  have key : ∀ (a b : List (List UInt8 × List UInt8)), a.Pairwise ltI → b.Pairwise ltI → a.Perm b → a = b := by
    intro a
    induction a with
    | nil => intro b _ _ hp; exact List.Perm.nil_eq hp
    | cons x a ih =>
      intro b ha hb hp
      cases b with
      | nil => exact absurd hp.length_eq (by simp)
      | cons y b =>
        have ha' := List.pairwise_cons.1 ha
        have hb' := List.pairwise_cons.1 hb
        have hxy : x = y := by
          rcases List.mem_cons.1 (hp.mem_iff.1 (List.mem_cons_self ..)) with h | h
          · exact h
          · rcases List.mem_cons.1 (hp.mem_iff.2 (List.mem_cons_self ..)) with k | k
            · exact k.symm
            · exact absurd (ltI_trans (hb'.1 x h) (ha'.1 y k)) (ltI_irrefl _)
        subst hxy
        rw [ih b ha'.2 hb'.2 (List.Perm.cons_inv hp)]
  refine key _ _ ?_ (List.pairwise_map.2 hs) hpm
  refine (List.pairwise_and_iff.2 ⟨hms, hnd⟩).imp fun {a b} ⟨h1, h2⟩ => ?_
  rcases ltI_or a b with q | q | q
  · exact q
  · exact absurd q h2
  · exact absurd q ((hle a b).1 h1)

/-! ### how long -/
theorem dec_len {n : Nat} (h : n < 18446744073709551616) : (Lib.decDigits n).length ≤ 20 := by rw [Lib.decDigits_length]; exact Lib.nDigits_le20 n h
theorem itoa_len {n : Int} (h : 0 ≤ n ∧ n ≤ 9223372036854775807) : (Lib.itoa n).length ≤ 20 := by
  unfold Lib.itoa
  rw [if_neg (by omega)]
  exact dec_len (by omega)
theorem rowT_len {a : RowM} (h : a.Fit) : (rowT a).length ≤ 50 := by
  have h1 := (nameOk_len h.name).2
  have h2 := itoa_len ⟨h.lo, h.hi⟩
  unfold rowT
  simp only [List.length_append, List.length_cons, List.length_nil]
  omega
theorem keptT_len {k : KeptM} (h : k.Ok) : (keptT k).length ≤ 80 := by
  have h1 := (nameOk_len h.frm).2
  have h2 := (nameOk_len h.key).2
  have h3 := dec_len (n := k.why.toNat) (by have := h.why; omega)
  unfold keptT idT KeptM.id
  simp only [List.length_append, List.length_cons, List.length_nil]
  omega
theorem flatM_len {α : Type} {f : α → List UInt8} {c : Nat} : ∀ {l : List α}, (∀ x ∈ l, (f x).length ≤ c) → (l.flatMap f).length ≤ l.length * c
  | [], _ => by simp
  | x :: l, h => by
    rw [List.flatMap_cons, List.length_append, List.length_cons, Nat.add_mul]
    have h1 := h x (List.mem_cons_self ..)
    have h2 := flatM_len fun y hy => h y (List.mem_cons_of_mem _ hy)
    omega
theorem flatM_take {α : Type} {f : α → List UInt8} {l : List α} {i : Nat} {x : α} (h : l[i]? = some x) : (l.take (i + 1)).flatMap f = (l.take i).flatMap f ++ f x := by
  rw [List.take_add_one, h, Option.toList_some, List.flatMap_append]
  simp
theorem Led.flat {S : List RowM} (h : Led S) (i : Nat) : ((S.take i).flatMap rowT).length ≤ S.length * 50 := by
  have h1 := flatM_len (f := rowT) (c := 50) (l := S.take i) fun x hx => rowT_len (h.ok x (List.mem_of_mem_take hx))
  have h2 : (S.take i).length ≤ S.length := by rw [List.length_take]; omega
  have h3 := Nat.mul_le_mul_right 50 h2
  omega
theorem Ledg.kflat {S : List RowM} {K : List KeptM} (h : Ledg S K) (i : Nat) : (((sortK K).take i).flatMap keptT).length ≤ K.length * 80 := by
  have h1 := flatM_len (f := keptT) (c := 80) (l := (sortK K).take i) fun x hx => keptT_len (h.ok x ((sortK_perm K).mem_iff.1 (List.mem_of_mem_take hx)))
  have h2 : ((sortK K).take i).length ≤ K.length := by rw [List.length_take, (sortK_perm K).length_eq]; omega
  have h3 := Nat.mul_le_mul_right 80 h2
  omega

theorem kept_at {K : List KeptM} (h : (K.map KeptM.id).Nodup) {i : Nat} {y : KeptM} (hy : (sortK K)[i]? = some y) : y ∈ K ∧ ((sortK K).map KeptM.id)[i]? = some y.id ∧ getM (K.map KeptM.kv) y.id = some y := by
  have hm := (sortK_perm K).mem_iff.1 (List.mem_of_getElem? hy)
  refine ⟨hm, by rw [List.getElem?_map, hy]; rfl, ?_⟩
  obtain ⟨j, hj⟩ := List.getElem?_of_mem hm
  exact getM_at (by rw [kv_fst]; exact h) (i := j) (y := y.kv) (by rw [List.getElem?_map, hj]; rfl) rfl

/-! ### the table that numerals are made by -/
def Tab (P : Program) (w : World) (g : Nat) : Prop := P.globalNamed "internal/strconv.uint64pow10" = some g ∧ Lib.TabIs P w "internal/strconv.uint64pow10" .u64 Lib.pow10Tab
theorem Tab.cells {P : Program} {w : World} {g : Nat} (h : Tab P w g) : ∃ cs t fz, w.heap[g]? = some (.cells cs t fz) ∧ cs = (Lib.pow10Tab.map fun z => Value.int .u64 z).toArray := by
  obtain ⟨h1, h2⟩ := h
  unfold Lib.TabIs World.var? at h2
  rw [h1] at h2
  simp only [Option.bind_some] at h2
  split at h2
  · next cs t fz hc => exact ⟨cs, t, fz, hc, by injection h2⟩
  · cases h2
theorem Tab.lt {P : Program} {w : World} {g : Nat} (h : Tab P w g) : g < w.heap.size := by
  obtain ⟨_, _, _, h1, _⟩ := h.cells
  exact (Array.getElem?_eq_some_iff.1 h1).1
theorem Tab.keep {P : Program} {w w' : World} {g : Nat} {S : Nat → Prop} (h : Tab P w g) (k : Keeps S w w') (hg : ¬ S g) : Tab P w' g := by
  have hl := h.lt
  refine ⟨h.1, ?_⟩
  have h2 := h.2
  unfold Lib.TabIs World.var? at h2 ⊢
  rw [h.1] at h2 ⊢
  simp only [Option.bind_some] at h2 ⊢
  rw [k.blk g hl hg]
  exact h2
theorem Keeps.grown {w : World} (q : Nat) (os : Array Obj) : Keeps none_ w (Sort.grow (w.drewN q) os) :=
  ⟨rfl, rfl, rfl, by show w.heap.size ≤ (w.heap ++ os).size; rw [Array.size_append]; omega, fun i hi _ => by show (w.heap ++ os)[i]? = _; rw [Array.getElem?_append_left hi]⟩
end Go.Q
namespace Go.Q
open Go.RowKit
abbrev IdM := List UInt8 × List UInt8
def encP (x : IdM) : List Value := [.string (str x.1), .string (str x.2)]
theorem encP_two (x : IdM) : (encP x).length = 2 := rfl
theorem encP_one (x : IdM) : oneCells (encP x) = true := rfl
/-- What a loop over a function has laid behind one's own row, in the box b. -/
def Laid (e ts : TypeId) (b B0 : Nat) (w0 : World) (l : List IdM) (W : World) : Prop :=
  ∃ A c, Has W b (rowL [.slice A l.length c] ts) ∧ OwnT W B0 e 2 encP (.slice A l.length c) l ∧ (∀ i, (Value.slice A l.length c).ownBlock = some i → i ≠ b) ∧ Keeps (fun i => B0 ≤ i) w0 W
theorem Laid.loose {e ts : TypeId} {b B0 B : Nat} {w0 W W' : World} {l : List IdM} (h : Laid e ts b B0 w0 l W) (k : Loose B W W') (hB : B0 ≤ B) : Laid e ts b B0 w0 l W' := by
  obtain ⟨A, c, h1, h2, h3, h4⟩ := h
  exact ⟨A, c, k.has h1, k.own h2, h3, h4.trans k.keeps (fun _ _ h => h) (fun i _ hi => by have hi : B ≤ i := hi; omega)⟩
theorem hold_own {w : World} {base e : Nat} {v : Value} {l : List IdM} (h : OwnT w base e 2 encP v l) : (l = [] ∧ v = .slice none 0 0) ∨ ∃ g cap cur, v = .slice (some ⟨g, 0, none⟩) l.length cap ∧ base ≤ g ∧ w.heap[g]? = some (.cells cur e (0, 0)) ∧ l.length ≤ cap ∧ cap ≤ maxLen ∧ cur.size = cap * 2 ∧ cur.toList.take (l.length * 2) = l.flatMap encP := by
  rcases h.2 with ⟨h1, h2⟩ | ⟨g, cap, cur, h1, h2, h3, h4, h5, h6, h7⟩
  · exact .inl ⟨List.eq_nil_of_length_eq_zero h2, h1⟩
  · exact .inr ⟨g, cap, cur, h1, h2, h3, h4, h5, h6, h7⟩
end Go.Q
namespace Go.Proofs.YtnfeemhpoaflfaaGreatDoor
open Go.Q Go.RowKit

theorem Check_calls (w : World) (b : Nat) (p V : Value) (hp : p = .pointer none ∨ p = ptr b) (H : Has w b (rowL [p, V] 68)) : Calls Tryz.prog 51 ⟨[ptr b]⟩ w (fun e w' => e = .returned (.tuple #[]) ∧ Keeps (fun i => i = b) w w' ∧ Has w' b (rowL [ptr b, V] 68)) := by
 rcases hp with rfl | rfl
 ·refine (Go.Proofs.Any.Builder_copyCheck_fresh (ρ := Go.Proofs.Tryz.bwrite26_ren) { Go.Proofs.Tryz.bwrite26 with } { Go.Proofs.Tryz.bwrite26_x with } b w (by simpa using H.cell 0) ?_ ?_).mono ?_
  ·unfold Has at H; simp [World.shape?, H, rowL]; rfl
  ·unfold Has at H; simp [World.frozen?, H, rowL]
  ·rintro e w' ⟨rfl, rfl⟩; exact ⟨rfl, (Has.set0 H).2, (Has.set0 H).1⟩
 ·refine (Go.Proofs.Any.Builder_copyCheck_used (ρ := Go.Proofs.Tryz.bwrite26_ren) { Go.Proofs.Tryz.bwrite26 with } { Go.Proofs.Tryz.bwrite26_x with } b w (by simpa using H.cell 0)).mono ?_
  rintro e w' ⟨rfl, rfl⟩
  exact ⟨rfl, (Keeps.refl _).mono (fun _ _ h => h.elim), H⟩

theorem WS_calls (w : World) (b : Nat) (p : Value) (A : Option Addr) (c : Nat) (xs s : List UInt8) (base : Nat) (hp : p = .pointer none ∨ p = ptr b) (H : Has w b (rowL [p, (Value.slice A xs.length c)] 68)) (hO : OwnB w base 5 (Value.slice A xs.length c) xs) (hvb : ∀ i, ((Value.slice A xs.length c)).ownBlock = some i → i ≠ b) (hl : xs.length + s.length ≤ 140737488351232) (hbase : base ≤ w.heap.size) : Calls Tryz.prog 26 ⟨[(ptr b), (Value.string (str s))]⟩ w (fun e w' => ∃ A' c', e = .returned (.tuple #[i64 ((s.length : Nat) : Int), .nilIface]) ∧ Keeps (fun i => i = b ∨ ((Value.slice A xs.length c)).ownBlock = some i) w w' ∧ Has w' b (rowL [ptr b, .slice A' (xs ++ s).length c'] 68) ∧ OwnB w' base 5 (.slice A' (xs ++ s).length c') (xs ++ s) ∧ ∀ i, (Value.slice A' (xs ++ s).length c').ownBlock = some i → ((Value.slice A xs.length c)).ownBlock = some i ∨ w.heap.size ≤ i) := by
 have Hbl := H.lt
 have K0 : Keeps (fun i => i = b ∨ ((Value.slice A xs.length c)).ownBlock = some i) w w := (Keeps.refl w).mono (fun _ _ h => h.elim)
 refine q_calls Tryz.func26 (by kernel_rfl) (by kernel_rfl) ?_
 refine qs ?_
 refine qg ?_
 refine og 2 [(0, (ptr b)), (1, (Value.string (str s))), (4, (i64 0)), (5, Value.nilIface)] 2 ?_
 refine od ?_
 refine qs ?_
 refine qg ?_
 refine og 1 [(0, (ptr b)), (1, (Value.string (str s))), (4, (i64 0)), (5, Value.nilIface), (6, (ptr b))] 1 ?_
 refine Ops.call (by kernel_rfl) (d := (some 7)) (by kernel_rfl) (Check_calls _ b _ _ hp H) ?_
 rintro _ w2 ⟨rfl, K1, H3⟩
 refine ⟨_, _, rfl, rfl, ?_⟩
 replace K0 := K0.trans K1 (U := (fun i => i = b ∨ ((Value.slice A xs.length c)).ownBlock = some i)) (fun i h1 h2 => h2) (fun i h1 h2 => by have h2 : i = b := h2; exact .inl h2)
 replace hO := own_keep hO K1 (fun i hi hs => by have hs : i = b := hs; have := hvb i hi; omega)
 clear K1
 refine od ?_
 refine qs ?_
 refine qg ?_
 refine og 4 [(1, (Value.string (str s))), (4, (i64 0)), (5, Value.nilIface), (8, (ptr b)), (11, (Value.pointer (some ⟨b, 1, none⟩)))] 4 ?_
 refine Ops.go (v := (Value.slice A xs.length c)) (by kernel_rfl) (Runs.load (t := 66) (a := ⟨b, 1, none⟩) (by kernel_rfl) (H3.loads (by kernel_rfl))) (d := (some 12)) (by kernel_rfl) rfl ?_
 refine og 1 [(1, (Value.string (str s))), (4, (i64 0)), (5, Value.nilIface), (8, (ptr b)), (12, (Value.slice A xs.length c)), (13, (Value.string (str s)))] 6 ?_
 obtain ⟨v4, w5, hr6, hO7, K8, hg9⟩ := OwnB.app2S (t := 66) (u := 9) (ty := 66) (ys := s) (by kernel_rfl) hO (by omega) (Nat.le_trans hbase K0.size)
 have hsz := K0.size
 obtain ⟨A10, c11, hf12⟩ := RdB.form (OwnB.rd hO7)
 subst hf12
 have ob13 : ∀ i, ((Value.slice A10 ((xs ++ s).length) c11)).ownBlock = some i → i ≠ b := fun i hi => by rcases hg9 i hi with h | h; (have := hvb i h; omega); (have := H3.lt; omega)
 refine Ops.go (v := (Value.slice A10 ((xs ++ s).length) c11)) (by kernel_rfl) (Runs.append (ts := #[66, 9]) (ty := 66) (vs := [(Value.slice A xs.length c), (Value.string (str s))]) (by kernel_rfl) hr6) (d := (some 14)) (by kernel_rfl) rfl ?_
 replace K0 := K0.trans K8 (U := (fun i => i = b ∨ ((Value.slice A xs.length c)).ownBlock = some i)) (fun i h1 h2 => h2) (fun i h1 h2 => by have h2 : ((Value.slice A xs.length c)).ownBlock = some i := h2; exact .inr (h2))
 replace H3 := H3.keep K8 (by intro h; change ((Value.slice A xs.length c)).ownBlock = some b at h; have := hvb b h; omega)
 clear hO
 clear K8 hr6
 refine og 2 [(1, (Value.string (str s))), (4, (i64 0)), (5, Value.nilIface), (14, (Value.slice A10 ((xs ++ s).length) c11)), (16, (Value.pointer (some ⟨b, 1, none⟩)))] 9 ?_
 refine Ops.put (t := 66) (b := b) (off := 1) (v := (Value.slice A10 ((xs ++ s).length) c11)) (ys := [(ptr b), (Value.slice A10 ((xs ++ s).length) c11)]) (by kernel_rfl) (by kernel_rfl) H3 (by kernel_rfl) (d := none) (by kernel_rfl) rfl (fun w14 H15 K16 => ?_)
 clear H3
 replace K0 := K0.trans K16 (U := (fun i => i = b ∨ ((Value.slice A xs.length c)).ownBlock = some i)) (fun i h1 h2 => h2) (fun i h1 h2 => by have h2 : i = b := h2; exact .inl h2)
 replace hO7 := own_keep hO7 K16 (fun i hi hs => by have hs : i = b := hs; have := ob13 i hi; omega)
 clear K16
 refine od ?_
 refine qs ?_
 refine qg ?_
 refine og 4 [(4, (i64 ((s.length : Nat) : Int))), (5, Value.nilIface)] 4 ?_
 refine od ?_
 refine q_ret (by kernel_rfl) ?_
 refine ⟨(Value.tuple #[(i64 ((s.length : Nat) : Int)), Value.nilIface]), retv_tmp2 rfl rfl rfl, ?_⟩
 exact ⟨_, _, rfl, K0, H15, hO7, fun i hi => by rcases hg9 i hi with h | h; exact .inl h; exact .inr (by omega)⟩

theorem BStr_calls (w : World) (b : Nat) (p v : Value) (xs : List UInt8) (hp : p = .pointer none ∨ p = ptr b) (H : Has w b (rowL [p, v] 68)) (hO : OwnB w b 5 v xs) (hvb : ∀ i, v.ownBlock = some i → i ≠ b) : Calls Tryz.prog 33 ⟨[ptr b]⟩ w (fun e w' => e = .returned (.string (str xs)) ∧ Keeps (fun i => b ≤ i) w w') := by
 have hI : Lib.BuilderAt 68 5 b b p (Lib.byteCells xs) w := ⟨Nat.le_refl _, v, H, by have h := hO; unfold OwnB at h; simpa [Lib.byteCells, bv] using h, fun q => hvb b q rfl⟩
 have hI2 : Lib.IsBuilder 68 5 b b (Lib.byteCells xs) w := by rcases hp with rfl | rfl; exact .inl hI; exact .inr hI
 refine (Go.Proofs.Any.Builder_String_any_k Go.Proofs.Tryz.bstring33 Go.Proofs.Tryz.bstring33_x b b xs w (Lib.IsBuilderF.of hI2) (Nat.le_of_lt H.lt)).mono ?_
 rintro e w' ⟨rfl, _, hb, _⟩
 exact ⟨rfl, hb.os, hb.tape, hb.output, hb.size, fun i hi hn => hb.block i (by omega)⟩

theorem FormatInt_calls (w : World) (tb : Nat) (n : Int) (HT : Tab Tryz.prog w tb) (h : -9223372036854775808 ≤ n ∧ n ≤ 9223372036854775807) : Calls Tryz.prog 27 ⟨[i64 n, i64 10]⟩ w (fun e w' => e = .returned (.string (str (Lib.itoa n))) ∧ Keeps none_ w w') := by
 refine (Go.Proofs.Any.strconv_FormatInt_10 Go.Proofs.Tryz.fmtint27 n h.1 h.2 w HT.2).mono ?_
 rintro e w' ⟨rfl, q, os, rfl⟩
 exact ⟨rfl, Keeps.grown q os⟩

theorem Itoa_calls (w : World) (n : Int) (h : 0 ≤ n ∧ n < 100) : Calls Tryz.prog 32 ⟨[i64 n]⟩ w (fun e w' => e = .returned (.string (str (Lib.decDigits n.toNat))) ∧ Keeps none_ w w') := by
 have e : n = ((n.toNat : Nat) : Int) := by omega
 have h2 := Go.Proofs.Any.strconv_Itoa_small Go.Proofs.Tryz.itoa32 n.toNat (by omega) w
 rw [← e] at h2
 refine h2.mono ?_
 rintro e w' ⟨rfl, rfl⟩
 exact ⟨rfl, Keeps.refl _⟩
end Go.Proofs.YtnfeemhpoaflfaaGreatDoor
namespace Go.Proofs.YtnfeemhpoaflfaaGreatDoor
open Go.Q Go.RowKit

theorem Keys2_calls (w : World) (kb : Nat)  : Calls Tryz.prog 29 ⟨[(Value.map (some kb))]⟩ w (fun e w' => ∃ C : Nat, e = .returned (Value.func (Fn.func 55) ⟨[]⟩ ⟨[ptr C]⟩) ∧ Keeps none_ w w' ∧ Has w' C (rowL [.map (some kb)] 52) ∧ w.heap.size ≤ C) := by
 have K0 : Keeps none_ w w := Keeps.refl w
 refine q_calls Tryz.func29 (by kernel_rfl) (by kernel_rfl) ?_
 refine qs ?_
 refine qg ?_
 refine Ops.new (o := rowL [(Value.map (some kb))] 52) (V := fun b => (ptr b)) (by kernel_rfl) (d := (some 1)) (by kernel_rfl) (fun b => rfl) (fun b1 w2 hb3 H4 K5 hs6 => ?_)
 have nb1 : w.heap.size ≤ b1 := by have := K0.size; omega
 replace K0 := K0.t0 K5
 clear K5 hs6
 refine og 1 [(1, (ptr b1)), (2, Value.nilFunc)] 2 ?_
 refine od ?_
 refine qs ?_
 refine qg ?_
 refine og 2 [(2, (Value.func (Fn.func 55) ⟨[]⟩ ⟨[(ptr b1)]⟩))] 2 ?_
 refine od ?_
 refine q_ret (by kernel_rfl) ?_
 refine ⟨(Value.func (Fn.func 55) ⟨[]⟩ ⟨[(ptr b1)]⟩), retv_tmp rfl rfl, ?_⟩
 exact ⟨_, rfl, K0, H4, nb1⟩

/-- What maps.Keys makes of what is kept tells its keys, in some order. -/
theorem Keys2_tells (w0 : World) (m0 : Nat) (C mb : Nat) (m : List (IdM × KeptM)) (T : Nat → Prop) (hC : Has w0 C (rowL [.map (some mb)] 52)) (hTC : ¬ T C) (hM : HasMap w0 mb kpair keptv m) (hTM : ¬ T mb) :
  TellsM Tryz.prog m0 55 [ptr C] (fun x : IdM × KeptM => [kpair x.1]) T (fun all => all.Perm m) w0 := by
 intro l J W hW hJ hY h0
 obtain ⟨Y, hYd⟩ : ∃ Y, Y = Value.func (.yield l) #[] #[] := ⟨_, rfl⟩
 rw [← hYd]
 refine qr_calls (m0 + 1) Tryz.func55 (by kernel_rfl) (by kernel_rfl) ?_
 have hCW := hC.keep hW hTC
 have hMW := hM.keep hW hTM
 refine qr_seq (by kernel_rfl) ?_
 refine qr_region Open.wide (by kernel_rfl) (by kernel_rfl) ?_
 refine Ops.go (v := .map (some mb)) (by kernel_rfl) (Runs.load (t := 52) (a := ⟨C, 0, none⟩) (by kernel_rfl) (hCW.loads (by kernel_rfl))) (d := some 4) (by kernel_rfl) rfl ?_
 obtain ⟨r, w1, hrun, k1, hr, hI⟩ := HasMap.range (P := Tryz.prog) (t := 52) Tryz.underlying52 hMW
 refine Ops.go (v := ptr r) (by kernel_rfl) (Runs.of_range (by kernel_rfl) hrun) (d := some 5) (by kernel_rfl) rfl ?_
 refine Ops.keep (R := [(0, Y), (5, ptr r)]) (by kernel_rfl) ?_
 refine od ?_
 refine qr_block (id := 0) (by kernel_rfl) ?_
 refine qr_loop (fun (s : List (IdM × KeptM) × List (IdM × KeptM)) ds L wx => ds = [] ∧ L = [(0, Y), (5, ptr r)] ∧ J s.1 wx ∧ Keeps T w0 wx ∧ (s.1 ++ s.2).Perm m ∧ ∃ last, IterM wx r mb kpair keptv m s.2 last) (fun s => s.2.length) ([], m) (by kernel_rfl)
  ⟨rfl, rfl, hJ _ _ _ h0 (Loose.none k1), hW.trans k1 (fun _ _ h => h) (fun _ _ h => h.elim), List.Perm.refl _, none, hI⟩ ?_
 clear hI hrun k1
 rintro ⟨came, rest⟩ _ _ wx ⟨rfl, rfl, hj, hK, hp, last, hI⟩
 simp only at hj hp hI ⊢
 refine qr_seq (by kernel_rfl) ?_
 refine qr_region Open.wide (by kernel_rfl) (by kernel_rfl) ?_
 have hrW : W.heap.size ≤ r := by omega
 have hrm : r ≠ mb := by have := hMW.lt; omega
 have hWw := hW.size
 rcases IterM.next (P := Tryz.prog) hI 0 with ⟨rfl, hrun⟩ | ⟨x, a, p1, p2, w2, rfl, hrun, k2, hI2⟩
 ·refine Ops.go (v := .tuple #[.bool false]) (by kernel_rfl) (Runs.of_next (by kernel_rfl) hrun) (d := some 6) (by kernel_rfl) rfl ?_
  refine og 1 [(7, .bool false)] 2 ?_
  refine od ?_
  refine qr_seq (by kernel_rfl) ?_
  refine qr_else (o := .tmp 7) (by kernel_rfl) rfl ?_
  refine qr_exit (id := 0) (by kernel_rfl) ?_
  rw [List.append_nil] at hp
  exact retR_norm (retv_none rfl) ⟨⟨_, rfl⟩, came, hp, hj⟩
 ·have hj2 := hJ _ _ _ hj (hI.loose hrW k2)
  have hK2 : Keeps T w0 w2 := hK.trans k2 (fun _ _ h => h) (fun i hi h => by have h : i = r := h; exfalso; omega)
  replace hI2 := hI2 hrm
  clear hI hj hK
  refine Ops.go (v := .tuple #[.bool true, kpair x, keptv a]) (by kernel_rfl) (Runs.of_next (by kernel_rfl) hrun) (d := some 6) (by kernel_rfl) rfl ?_
  refine og 1 [(0, Y), (5, ptr r), (7, .bool true)] 2 ?_
  refine od ?_
  refine qr_seq (by kernel_rfl) ?_
  refine qr_then (o := .tmp 7) (by kernel_rfl) rfl ?_
  refine qr_skip (by kernel_rfl) ?_
  refine qr_block (id := 1) (by kernel_rfl) ?_
  refine qr_seq (by kernel_rfl) ?_
  refine qr_region Open.wide (by kernel_rfl) (by kernel_rfl) ?_
  refine Ops.go (v := .tuple #[kpair x, keptv a]) (by kernel_rfl) (Runs.of_entry (by kernel_rfl) hI2.entry) (d := some 8) (by kernel_rfl) rfl ?_
  refine og 1 [(0, Y), (5, ptr r), (9, kpair x)] 2 ?_
  refine Ops.new (o := rowL [.string ByteArray.empty, .string ByteArray.empty] 60) (V := fun b => ptr b) (by kernel_rfl) (d := some 3) (by kernel_rfl) (fun b => rfl) (fun b w3 hb H3 k3 hs3 => ?_)
  refine Ops.put (t := 60) (b := b) (off := 0) (v := agg [.string (str x.1), .string (str x.2)]) (ys := [.string (str x.1), .string (str x.2)]) (by kernel_rfl) (by kernel_rfl) H3 (by kernel_rfl) (d := none) (by kernel_rfl) rfl (fun w4 H4 k4 => ?_)
  refine Ops.keep (R := [(0, Y), (3, ptr b), (5, ptr r)]) (by kernel_rfl) ?_
  refine od ?_
  have k24 : Keeps none_ w2 w4 := k3.trans k4 (fun _ _ h => h) (fun i hi h => by have h : i = b := h; omega)
  have hI4 := hI2.keep k24 (fun h => h) (fun h => h)
  have hj4 := hJ _ _ _ hj2 (Loose.none k24)
  have hK4 : Keeps T w0 w4 := hK2.trans k24 (fun _ _ h => h) (fun _ _ h => h.elim)
  clear hI2 hj2 hK2
  refine qr_seq (by kernel_rfl) ?_
  refine qr_opsR (by kernel_rfl) ?_
  refine OpsR.regs Open.wide (by kernel_rfl) 1 [(0, Y), (3, ptr b), (5, ptr r), (10, Y)] (j := 1) (by kernel_rfl) (by kernel_rfl) ?_
  refine OpsR.go Open.wide (by kernel_rfl) (v := kpair x) (by kernel_rfl) (Runs.load (t := 60) (a := ⟨b, 0, none⟩) (by kernel_rfl) (H4.loads (by kernel_rfl))) (d := some 11) (by kernel_rfl) rfl ?_
  subst hYd
  refine OpsR.yield Open.wide (by kernel_rfl) (l := l) (args := ⟨[kpair x]⟩) (at?_opn (by kernel_rfl)) ?_ (hY came (x, a) w4 hj4 ⟨p1 ++ p2, came_next hp⟩) ?_
  ·kernel_rfl
  rintro _ w5 ⟨rfl, hj5, k5, kF5⟩
  refine ⟨_, _, rfl, rfl, ?_⟩
  refine OpsR.regs Open.wide (by kernel_rfl) 1 [(0, .func (.yield l) #[] #[]), (5, ptr r), (13, .bool false)] (j := 4) (by kernel_rfl) (by kernel_rfl) ?_
  refine OpsR.done (by kernel_rfl) ?_
  refine qr_else (o := .tmp 13) (by kernel_rfl) rfl ?_
  refine qr_keep (R := [(0, .func (.yield l) #[] #[]), (5, ptr r)]) (by kernel_rfl) ?_
  refine qr_skip (by kernel_rfl) ?_
  exact ⟨(came ++ [(x, a)], p1 ++ p2), ⟨rfl, rfl, hj5, hK4.trans k5 (fun _ _ h => h) (fun _ _ h => h), came_perm hp, _, hI4.keepF k5 kF5 hrW hTM⟩, by simp⟩

theorem tyO : ElemTy Tryz.prog 74 60 2 32 := elemTy (by kernel_rfl)

theorem App_body (w : World) (ln : Nat) (b2 b5 base : Nat) (A : Option Addr) (c : Nat) (l : List IdM) (x : IdM) (H2 : Has w b2 (rowL [(Value.slice A l.length c)] 74)) (H5 : Has w b5 (rowL (encP x) 60)) (hO : OwnT w base 60 2 encP (Value.slice A l.length c) l) (hvb : ∀ i, ((Value.slice A l.length c)).ownBlock = some i → i ≠ b2) (hvb5 : ∀ i, ((Value.slice A l.length c)).ownBlock = some i → i ≠ b5) (hd : b2 ≠ b5) (hbase : base ≤ w.heap.size) (hl : l.length ≤ 1000) : wpR (Fence.wide.inRound ln) Tryz.prog 9 Tryz.f70.ntmps (cd Tryz.f70 [1, 0, 1, 0, 1]) (fun _ e _ w' => e = .normal ∧ Keeps (fun q => q = b2 ∨ ((Value.slice A l.length c)).ownBlock = some q) w w' ∧ ∃ A' c', Has w' b2 (rowL [.slice A' (l ++ [x]).length c'] 74) ∧ OwnT w' base 60 2 encP (.slice A' (l ++ [x]).length c') (l ++ [x]) ∧ (∀ i, (Value.slice A' (l ++ [x]).length c').ownBlock = some i → i ≠ b2) ∧ ∀ i, (Value.slice A' (l ++ [x]).length c').ownBlock = some i → ((Value.slice A l.length c)).ownBlock = some i ∨ w.heap.size ≤ i) [] [(2, (ptr b2)), (5, (ptr b5))] w := by
 have h2l := H2.lt
 have h5l := H5.lt
 have K0 : Keeps (fun q => q = b2 ∨ ((Value.slice A l.length c)).ownBlock = some q) w w := (Keeps.refl w).mono (fun _ _ h => h.elim)
 refine qr_block (id := 1) (by kernel_rfl) ?_
 refine qr_region (Open.round ln) (by kernel_rfl) (by kernel_rfl) ?_
 refine Ops.go (v := (Value.slice A l.length c)) (by kernel_rfl) (Runs.load (t := 74) (a := ⟨b2, 0, none⟩) (by kernel_rfl) (H2.loads (by kernel_rfl))) (d := (some 8)) (by kernel_rfl) rfl ?_
 refine Ops.go (v := (agg [(Value.string (str x.1)), (Value.string (str x.2))])) (by kernel_rfl) (Runs.load (t := 60) (a := ⟨b5, 0, none⟩) (by kernel_rfl) (H5.loads (by kernel_rfl))) (d := (some 9)) (by kernel_rfl) rfl ?_
 refine Ops.new (o := rowL [(Value.string (str x.1)), (Value.string (str x.2))] 60) (V := fun b => (Value.slice (some ⟨b, 0, none⟩) 1 1)) (by kernel_rfl) (d := (some 10)) (by kernel_rfl) (fun b => rfl) (fun b1 w2 hb3 H4 K5 hs6 => ?_)
 have lb1b2 : b2 < b1 := by have := H2.lt; omega
 have lb1b5 : b5 < b1 := by have := H5.lt; omega
 have nb1 : w.heap.size ≤ b1 := by have := K0.size; omega
 have ob7 : ∀ i, ((Value.slice A l.length c)).ownBlock = some i → i < b1 := fun i hi => by have := (World.ownsRow.lt hO i hi).2; omega
 replace K0 := K0.trans K5 (U := (fun i => i = b2 ∨ ((Value.slice A l.length c)).ownBlock = some i)) (fun i h1 h2 => h2) (fun i h1 h2 => by exact h2.elim)
 replace H2 := H2.keep K5 (fun h => h)
 replace H5 := H5.keep K5 (fun h => h)
 replace hO := own_keep0 hO K5
 clear K5 hs6
 have hszA := K0.size
 obtain ⟨v8, w9, hr10, hO11, hK12, hg13⟩ := OwnT.app (ty := 74) encP_two encP_one tyO hO (show RdT _ 2 encP _ [((x.1, x.2) : IdM)] from Rd.lit H4 (n := 1) rfl (by decide)) (by simp only [List.length_cons, List.length_nil]; omega) (by simp only [List.length_cons, List.length_nil]; omega) (Nat.le_trans hbase K0.size)
 obtain ⟨A15, c16, rfl⟩ := RdT.form encP_two (by decide) (OwnT.rd hO11)
 have ob17 : ∀ i, ((Value.slice A15 ((l ++ [((x.1, x.2) : IdM)]).length) c16)).ownBlock = some i → i ≠ b2 := fun i hi => by rcases hg13 i hi with h | h; (have := hvb i h; omega); (have := H2.lt; omega)
 have ob18 : ∀ i, ((Value.slice A15 ((l ++ [((x.1, x.2) : IdM)]).length) c16)).ownBlock = some i → i ≠ b5 := fun i hi => by rcases hg13 i hi with h | h; (have := hvb5 i h; omega); (have := H5.lt; omega)
 have ob19 : ∀ i, ((Value.slice A15 ((l ++ [((x.1, x.2) : IdM)]).length) c16)).ownBlock = some i → i ≠ b1 := fun i hi => by rcases hg13 i hi with h | h; (have := ob7 i h; omega); (have := H4.lt; omega)
 have K14 := hK12
 refine Ops.go (v := (Value.slice A15 ((l ++ [((x.1, x.2) : IdM)]).length) c16)) (by kernel_rfl) (Runs.append (ts := #[74, 74]) (ty := 74) (vs := [(Value.slice A l.length c), (Value.slice (some ⟨b1, 0, none⟩) 1 1)]) (by kernel_rfl) hr10) (d := (some 11)) (by kernel_rfl) rfl ?_
 replace K0 := K0.trans K14 (U := (fun i => i = b2 ∨ ((Value.slice A l.length c)).ownBlock = some i)) (fun i h1 h2 => h2) (fun i h1 h2 => by have h2 : ((Value.slice A l.length c)).ownBlock = some i := h2; exact .inr (h2))
 replace H2 := H2.keep K14 (by intro h; change ((Value.slice A l.length c)).ownBlock = some b2 at h; have := hvb b2 h; omega)
 replace H5 := H5.keep K14 (by intro h; change ((Value.slice A l.length c)).ownBlock = some b5 at h; have := hvb5 b5 h; omega)
 replace H4 := H4.keep K14 (by intro h; change ((Value.slice A l.length c)).ownBlock = some b1 at h; have := ob7 b1 h; omega)
 clear hO
 clear K14 hr10 hK12
 refine Ops.put (t := 74) (b := b2) (off := 0) (v := (Value.slice A15 ((l ++ [((x.1, x.2) : IdM)]).length) c16)) (ys := [(Value.slice A15 ((l ++ [((x.1, x.2) : IdM)]).length) c16)]) (by kernel_rfl) (by kernel_rfl) H2 (by kernel_rfl) (d := none) (by kernel_rfl) rfl (fun w20 H21 K22 => ?_)
 clear H2
 replace K0 := K0.trans K22 (U := (fun i => i = b2 ∨ ((Value.slice A l.length c)).ownBlock = some i)) (fun i h1 h2 => h2) (fun i h1 h2 => by have h2 : i = b2 := h2; exact .inl h2)
 replace H5 := H5.keep K22 (by intro h; change b5 = b2 at h; omega)
 replace H4 := H4.keep K22 (by intro h; change b1 = b2 at h; omega)
 replace hO11 := own_keep hO11 K22 (fun i hi hs => by have hs : i = b2 := hs; have := ob17 i hi; omega)
 clear K22
 refine od ?_
 exact ⟨rfl, K0, _, _, H21, hO11, ob17, by intro i hi; rcases hg13 i hi with h | h; exact .inl h; exact .inr (by have := hszA; omega)⟩
end Go.Proofs.YtnfeemhpoaflfaaGreatDoor
namespace Go.Proofs.YtnfeemhpoaflfaaGreatDoor
open Go.Q Go.RowKit

theorem has_inj {w : World} {b : Nat} {x y : Value} {e : TypeId} (h : Has w b (rowL [x] e)) (k : Has w b (rowL [y] e)) : x = y := by
 unfold Has at h k
 rw [h] at k
 simpa [rowL] using k

theorem AppendSeq_calls (w : World) (C kb : Nat) (m : List (IdM × KeptM)) (HC : Has w C (rowL [.map (some kb)] 52)) (HM : HasMap w kb kpair keptv m) (hne : C ≠ kb) (hml : m.length ≤ 1000) : Calls Tryz.prog 70 ⟨[(Value.slice none 0 0), (Value.func (Fn.func 55) ⟨[]⟩ ⟨[(ptr C)]⟩)]⟩ w (fun e w' => ∃ A c, ∃ all : List (IdM × KeptM), e = .returned (.slice A (all.map Prod.fst).length c) ∧ all.Perm m ∧ Keeps none_ w w' ∧ OwnT w' w.heap.size 60 2 encP (.slice A (all.map Prod.fst).length c) (all.map Prod.fst)) := by
 have hCl := HC.lt
 have hkl := HM.lt
 have K0 : Keeps none_ w w := Keeps.refl w
 refine qr_calls 11 Tryz.func70 (by kernel_rfl) (by kernel_rfl) ?_
 refine qr_seq (by kernel_rfl) ?_
 refine qr_region Open.wide (by kernel_rfl) (by kernel_rfl) ?_
 refine Ops.new (o := rowL [(Value.slice none 0 0)] 74) (V := fun b => (ptr b)) (by kernel_rfl) (d := (some 2)) (by kernel_rfl) (fun b => rfl) (fun b1 w2 hb3 H4 K5 hs6 => ?_)
 have lb1C : C < b1 := by have := HC.lt; omega
 have lb1kb : kb < b1 := by have := HM.lt; omega
 have nb1 : w.heap.size ≤ b1 := by have := K0.size; omega
 replace K0 := K0.t0 K5
 replace HC := HC.keep K5 (fun h => h)
 replace HM := HM.keep K5 (fun h => h)
 clear K5 hs6
 refine og 1 [(1, (Value.func (Fn.func 55) ⟨[]⟩ ⟨[(ptr C)]⟩)), (2, (ptr b1)), (4, (Value.slice none 0 0))] 2 ?_
 refine od ?_
 refine qr_seq (by kernel_rfl) ?_
 refine qr_seq (by kernel_rfl) ?_
 refine qr_region Open.wide (by kernel_rfl) (by kernel_rfl) ?_
 refine og 1 [(2, (ptr b1)), (4, (Value.slice none 0 0)), (6, (Value.func (Fn.func 55) ⟨[]⟩ ⟨[(ptr C)]⟩))] 1 ?_
 refine od ?_
 refine qr_block (id := 0) (by kernel_rfl) ?_
 have zC := HC.lt
 have zkb := HM.lt
 have zb1 := H4.lt
 have hWs := K0.size
 refine qr_keep (R := [(2, (ptr b1)), (4, (Value.slice none 0 0)), (6, (Value.func (Fn.func 55) ⟨[]⟩ ⟨[(ptr C)]⟩))]) (by kernel_rfl) ?_
 refine qr_eachM (g := .tmp 6) (ts := [7]) (m := 11) (enc := fun x : IdM × KeptM => [kpair x.1]) (S := fun all => all.Perm m) (w0 := w2) (T := fun i => w.heap.size ≤ i) (by kernel_rfl) (by decide) (gf := 55) (lb := [ptr C]) rfl (enters Tryz.func55 (by kernel_rfl) (by kernel_rfl))
  (Keys2_tells w2 9 C kb m _ HC (by intro h; change w.heap.size ≤ C at h; omega) HM (by intro h; change w.heap.size ≤ kb at h; omega))
  (fun i h => Nat.le_trans hWs h) ((Keeps.refl _).mono (fun _ _ h => h.elim)) (fun pre W2 => Laid 60 74 b1 w.heap.size w2 (pre.map Prod.fst) W2)
  (fun k W1 W2 h lo => h.loose lo hWs) ⟨none, 0, H4, OwnT.nil _ _ _ _ _, (fun i hi => by cases hi), (Keeps.refl _).mono (fun _ _ h => h.elim)⟩
  (fun x => (7, kpair x.1) :: [(2, (ptr b1)), (4, (Value.slice none 0 0)), (6, (Value.func (Fn.func 55) ⟨[]⟩ ⟨[(ptr C)]⟩))]) (fun x => rfl)
  (fun x L W1 => ∃ b5 v, L = [(2, ptr b1), (5, ptr b5)] ∧ w2.heap.size ≤ b5 ∧ Has W1 b1 (rowL [v] 74) ∧ (∀ i, v.ownBlock = some i → i ≠ b5) ∧ Has W1 b5 (rowL (encP x.1) 60)) (fun x L W1 W2 h lo => let ⟨b5, v, h1, h2, h3, h4, h5⟩ := h; ⟨b5, v, h1, h2, lo.has h3, h4, lo.has h5⟩) ?_ ?_ ?_
 ·rintro ln pre x W1 hlt ⟨A, c, h1, h2, h3, h4⟩ hp
  refine qr_region (Open.round ln) (by kernel_rfl) (by kernel_rfl) ?_
  refine Ops.new (o := rowL [.string ByteArray.empty, .string ByteArray.empty] 60) (V := fun b => ptr b) (by kernel_rfl) (d := some 5) (by kernel_rfl) (fun b => rfl) (fun b w3 hb H3 k3 hs3 => ?_)
  refine Ops.put (t := 60) (b := b) (off := 0) (v := agg (encP x.1)) (ys := encP x.1) (by kernel_rfl) (by kernel_rfl) H3 (by kernel_rfl) (d := none) (by kernel_rfl) rfl (fun w4 H4 k4 => ?_)
  refine Ops.keep (R := [(2, ptr b1), (5, ptr b)]) (by kernel_rfl) ?_
  refine od ?_
  have k34 : Keeps none_ W1 w4 := k3.trans k4 (fun _ _ h => h) (fun i hi h => by have h : i = b := h; omega)
  exact ⟨rfl, rfl, k34, b, _, rfl, by have := h4.size; omega, h1.keep k34 (fun h => h), (fun i hi => by have := (World.ownsRow.lt h2 i hi).2; omega), H4⟩
 ·rintro ln pre x _ W1 ⟨A, c, h1, h2, h3, h4⟩ ⟨post, hp⟩ ⟨b5, v, rfl, hb5, hv1, hv2, h5⟩
  have hpl := hp.length_eq
  rw [List.length_append, List.length_cons] at hpl
  have e := has_inj h1 hv1
  have hmap : (pre ++ [x]).map Prod.fst = pre.map Prod.fst ++ [x.1] := by simp
  have hlm : (pre.map Prod.fst).length = pre.length := List.length_map ..
  refine qr_mono (App_body W1 ln b1 b5 w.heap.size A c (pre.map Prod.fst) x.1 h1 h5 h2 h3 (fun i hi => hv2 i (by rw [← e]; exact hi)) (by omega) (by have := h4.size; omega) (by omega)) ?_
  rintro ds e2 L W2 ⟨rfl, k2, A2, c2, r1, r2, r3, r4⟩
  rw [hmap]
  refine ⟨rfl, keepsFrom_of k2 (fun i hi hB => ?_), k2.mono (fun i _ h => ?_), A2, c2, r1, r2, r3, h4.trans k2 (fun _ _ h => h) (fun i _ h => ?_)⟩
  ·rcases hi with h | h
   ·exfalso; omega
   ·exact own_is_cells h2 h
  ·rcases h with h | h
   ·show w.heap.size ≤ i; omega
   ·exact (World.ownsRow.lt h2 i h).1
  ·rcases h with h | h
   ·show w.heap.size ≤ i; omega
   ·exact (World.ownsRow.lt h2 i h).1
 ·rintro D all W hDw hall ⟨A, c, h1, h2, h3, h4⟩ hD
  have K7 : Keeps none_ w W := K0.trans h4 (U := none_) (fun _ _ h => h) (fun i hi h => by have h : w.heap.size ≤ i := h; omega)
  have H8 := HC.keep h4 (by intro h; change w.heap.size ≤ C at h; omega)
  have H9 := HM.keep h4 (by intro h; change w.heap.size ≤ kb at h; omega)
  clear HC HM H4 K0
  have hbD : b1 < D := by have := h1.lt; omega
  have hwD : w.heap.size ≤ D := by omega
  have hD1 : Has W D (.deferred (some [])) := hD
  clear hD
  refine qr_seq (by kernel_rfl) ?_
  refine qr_region Open.wide (by kernel_rfl) (by kernel_rfl) ?_
  refine Ops.go (v := (Value.slice A ((all.map Prod.fst).length) c)) (by kernel_rfl) (Runs.load (t := 74) (a := ⟨b1, 0, none⟩) (by kernel_rfl) (h1.loads (by kernel_rfl))) (d := (some 12)) (by kernel_rfl) rfl ?_
  refine og 1 [(4, (Value.slice A ((all.map Prod.fst).length) c))] 2 ?_
  refine od ?_
  refine qr_ret (by kernel_rfl) ?_
  refine retR_one (D := D) hD1 (v := (Value.slice A ((all.map Prod.fst).length) c)) (retv_tmp rfl rfl) ?_
  exact ⟨_, _, all, rfl, hall, (K7.trans (Loose.put (B := D) (.deferred none) (Nat.le_refl _) hD1 rfl).keeps (fun _ _ h => h) (fun i hi h => by have h : D ≤ i := h; omega)), ((Loose.put (B := D) (.deferred none) (Nat.le_refl _) hD1 rfl).own h2)⟩

theorem Collect_calls (w : World) (C kb : Nat) (m : List (IdM × KeptM)) (HC : Has w C (rowL [.map (some kb)] 52)) (HM : HasMap w kb kpair keptv m) (hne : C ≠ kb) (hml : m.length ≤ 1000) : Calls Tryz.prog 53 ⟨[(Value.func (Fn.func 55) ⟨[]⟩ ⟨[(ptr C)]⟩)]⟩ w (fun e w' => ∃ A c, ∃ all : List (IdM × KeptM), e = .returned (.slice A (all.map Prod.fst).length c) ∧ all.Perm m ∧ Keeps none_ w w' ∧ OwnT w' w.heap.size 60 2 encP (.slice A (all.map Prod.fst).length c) (all.map Prod.fst)) := by
 have hCl := HC.lt
 have hkl := HM.lt
 have K0 : Keeps none_ w w := Keeps.refl w
 refine q_calls Tryz.func53 (by kernel_rfl) (by kernel_rfl) ?_
 refine qs ?_
 refine qg ?_
 refine og 1 [(0, (Value.func (Fn.func 55) ⟨[]⟩ ⟨[(ptr C)]⟩)), (2, (Value.slice none 0 0))] 1 ?_
 refine od ?_
 refine qs ?_
 refine qg ?_
 refine og 1 [(2, (Value.slice none 0 0)), (3, (Value.func (Fn.func 55) ⟨[]⟩ ⟨[(ptr C)]⟩))] 1 ?_
 refine Ops.call (by kernel_rfl) (d := (some 4)) (by kernel_rfl) (AppendSeq_calls _ C kb m HC HM (by omega) (by omega)) ?_
 rintro _ w5 ⟨A1, c2, all3, rfl, hp4, K6, hO7⟩
 have ob9 : ∀ i, ((Value.slice A1 ((all3.map Prod.fst).length) c2)).ownBlock = some i → i ≠ C := fun i hi => by have := (World.ownsRow.lt hO7 i hi).1; have := HC.lt; omega
 have ob10 : ∀ i, ((Value.slice A1 ((all3.map Prod.fst).length) c2)).ownBlock = some i → i ≠ kb := fun i hi => by have := (World.ownsRow.lt hO7 i hi).1; have := HM.lt; omega
 have O8 := own_base hO7 K0.size
 clear hO7
 refine ⟨_, _, rfl, rfl, ?_⟩
 replace K0 := K0.t0 K6
 replace HC := HC.keep K6 (fun h => h)
 replace HM := HM.keep K6 (fun h => h)
 clear K6
 refine og 1 [(2, (Value.slice A1 ((all3.map Prod.fst).length) c2))] 3 ?_
 refine od ?_
 refine q_ret (by kernel_rfl) ?_
 refine ⟨(Value.slice A1 ((all3.map Prod.fst).length) c2), retv_tmp rfl rfl, ?_⟩
 exact ⟨_, _, all3, rfl, hp4, K0, O8⟩
end Go.Proofs.YtnfeemhpoaflfaaGreatDoor
namespace Go.Q
open Go.RowKit Go.Sort Go.Proofs Go.Lib
theorem flatP_at : ∀ (l : List IdM) (t : Nat), t < l.length * 2 → (l.flatMap encP)[t]? = some ((encP l[t / 2]!)[t % 2]!)
  | [], t, h => by simp at h
  | x :: l, t, h => by
    rw [List.flatMap_cons]
    by_cases h2 : t < 2
    · rw [List.getElem?_append_left (by rw [encP_two]; exact h2), show t / 2 = 0 from by omega, show t % 2 = t from by omega]
      have : t < (encP x).length := by rw [encP_two]; exact h2
      simp [List.getElem?_eq_getElem this]
    · rw [List.getElem?_append_right (by rw [encP_two]; omega), encP_two, flatP_at l (t - 2) (by simp only [List.length_cons] at h; omega)]
      rw [show t / 2 = (t - 2) / 2 + 1 from by omega, show (t - 2) % 2 = t % 2 from by omega]
      simp
theorem flatP_len (l : List IdM) : (l.flatMap encP).length = l.length * 2 := by
  induction l with
  | nil => rfl
  | cons x l ih => rw [List.flatMap_cons, List.length_append, encP_two, ih, List.length_cons]; omega
theorem flatP (l : List IdM) : (flatK encP 2 l.toArray).toList = l.flatMap encP := by
  apply List.ext_getElem?
  intro t
  by_cases h : t < l.length * 2
  · rw [flatP_at l t h]
    have hs : t < (flatK encP 2 l.toArray).size := by simpa using h
    rw [Array.getElem?_toList, Array.getElem?_eq_getElem hs, ← getElem!_pos (flatK encP 2 l.toArray) t hs, get_flatK _ _ _ _ (by simpa using h)]
    simp
  · rw [List.getElem?_eq_none (by simp; omega), List.getElem?_eq_none (by rw [flatP_len]; omega)]
theorem holdP {w : World} {g : Nat} {cur : Array Value} {e : TypeId} {l : List IdM} (hb : w.heap[g]? = some (.cells cur e (0, 0))) (ht : cur.toList.take (l.length * 2) = l.flatMap encP) : HoldsK encP 2 w g 0 l.toArray := by
  intro j hj
  have hj' : j < l.length * 2 := by simpa using hj
  refine ⟨?_, by simp [World.frozen?, hb]⟩
  have h1 : (cur.toList.take (l.length * 2))[j]? = (l.flatMap encP)[j]? := by rw [ht]
  rw [List.getElem?_take_of_lt hj', ← flatP] at h1
  simp only [World.cell?, hb, Nat.zero_add]
  simp only [Option.isSome_none, Bool.false_eq_true, if_false]
  have hs : j < (flatK encP 2 l.toArray).size := by simpa using hj'
  rw [← Array.getElem?_toList, h1, Array.getElem?_toList, Array.getElem?_eq_getElem hs, getElem!_pos (flatK encP 2 l.toArray) j hs]
  rfl
theorem sortedP {w : World} {base g cap n : Nat} {e : TypeId} {os : Array Obj} {cur : Array Value} {l ts : List IdM} (hl : ts.length = l.length) (hbase : base ≤ g) (hb : w.heap[g]? = some (.cells cur e (0, 0))) (h1 : l.length ≤ cap) (h2 : cap ≤ maxLen) (h3 : cur.size = cap * 2) :
    OwnT (sortWorldK encP 2 w g 0 n ts.toArray os) base e 2 encP (.slice (some ⟨g, 0, none⟩) ts.length cap) ts ∧ Keeps (fun i => i = g) w (sortWorldK encP 2 w g 0 n ts.toArray os) := by
  have hg : g < w.heap.size := (Array.getElem?_eq_some_iff.1 hb).1
  have hh : (sortWorldK encP 2 w g 0 n ts.toArray os).heap[g]? = some (.cells (putCells id 0 (flatK encP 2 ts.toArray) cur) e (0, 0)) := by
    unfold sortWorldK putRowK
    rw [heap_grow_old _ _ (by simpa using hg)]
    simp [putRow, mapBlock, Sort.ahead, Array.getElem?_modify, hb, onCells]
  refine ⟨⟨flatP_len ts, .inr ⟨g, cap, _, rfl, hbase, hh, by omega, h2, by simp [putCells, h3], ?_⟩⟩, rfl, rfl, rfl, ?_, fun k hk hne => ?_⟩
  · rw [← flatP]
    apply List.ext_getElem?
    intro j
    by_cases hj : j < ts.length * 2
    · have hc : j < cur.size := by omega
      rw [List.getElem?_take_of_lt hj, Array.getElem?_toList, Array.getElem?_toList]
      have hs : j < (flatK encP 2 ts.toArray).size := by simpa using hj
      simp [putCells, hc, hs, hj]
    · rw [List.getElem?_take_eq_none (by omega), List.getElem?_eq_none (by simp; omega)]
  · unfold sortWorldK putRowK
    show w.heap.size ≤ ((putRow id (Sort.ahead w n) g 0 (flatK encP 2 ts.toArray)).heap ++ os).size
    rw [Array.size_append, show (putRow id (Sort.ahead w n) g 0 (flatK encP 2 ts.toArray)).heap.size = (Sort.ahead w n).heap.size from by simp [putRow, mapBlock]]
    show w.heap.size ≤ w.heap.size + os.size
    omega
  · unfold sortWorldK putRowK
    rw [heap_grow_old _ _ (by simpa using hk)]
    have : g ≠ k := fun e => hne e.symm
    simp [putRow, mapBlock, Sort.ahead, Array.getElem?_modify, this]
theorem ltOf_cmpI (x y : IdM) : ltOf cmpI x y = decide (ltI x y) := by
  unfold ltOf
  exact decide_eq_decide.2 (cmpI_neg x y)
theorem swo_cmpI : SWO (ltOf cmpI) where
  irrefl x := by rw [ltOf_cmpI]; exact decide_eq_false (ltI_irrefl x)
  trans x y z h1 h2 := by rw [ltOf_cmpI, decide_eq_true_eq] at *; exact ltI_trans h1 h2
  ntrans x y z h1 h2 := by
    rw [ltOf_cmpI, decide_eq_false_iff_not] at *
    intro h3
    rcases ltI_or x y with q | q | q
    · exact h1 q
    · subst q; exact h2 h3
    · exact h2 (ltI_trans q h3)
theorem total_cmpI : ∀ x y, (ltOf cmpI) x y = false → (ltOf cmpI) y x = false → x = y := by
  intro x y h1 h2
  rw [ltOf_cmpI, decide_eq_false_iff_not] at *
  rcases ltI_or x y with q | q | q
  · exact absurd q h1
  · exact q
  · exact absurd q h2
theorem sort_ids {K : List KeptM} (h : (K.map KeptM.id).Nodup) {l : List IdM} (hp : l.Perm (K.map KeptM.id)) : (l.mergeSort fun x y => !(ltOf cmpI) y x) = (sortK K).map KeptM.id :=
  ids_mergeSort h hp _ fun x y => by rw [ltOf_cmpI]; simp
end Go.Q
namespace Go.Proofs.YtnfeemhpoaflfaaGreatDoor
open Go.Q Go.RowKit

set_option maxHeartbeats 1000000 in
theorem cmp_calls (x y : IdM) (W : World) : Calls Tryz.prog 30 #[.agg #[.string (str x.1), .string (str x.2)], .agg #[.string (str y.1), .string (str y.2)]] W fun e w' => e = .returned (.int .i64 (cmpI x y)) ∧ ∃ q os', w' = Go.Sort.grow (W.drewN q) os' := by
 have hcon := fun a b W' => Go.Proofs.Any.strings_Compare Go.Proofs.Tryz.compare31 a b W'
 change ∀ a b W', Calls Tryz.prog 31 _ _ _ at hcon
 go_enter Tryz.func30, Tryz.ntmps30
 go_wp2_with (go_at_call 31; refine (hcon _ _ _).mono ?_; rintro e w' ⟨rfl, rfl⟩)
 ·go_ret
  rename_i h
  rw [str_toList, str_toList] at h
  have hne : ¬ x.1 = y.1 := by simpa using h
  exact ⟨by unfold cmpI; rw [if_neg hne]; rfl, 0, _, by rw [Go.Sort.alloc_eq_grow, Go.Sort.alloc_eq_grow, Go.Sort.grow_grow]; rfl⟩
 ·go_ret
  rename_i h
  rw [str_toList, str_toList] at h
  have hne : x.1 = y.1 := by simpa using h
  exact ⟨by unfold cmpI; rw [if_pos hne]; rfl, 0, _, by rw [Go.Sort.alloc_eq_grow, Go.Sort.alloc_eq_grow, Go.Sort.grow_grow]; rfl⟩

theorem SortFunc_calls (w : World) (base : Nat) (v : Value) (l : List IdM) (hO : OwnT w base 60 2 encP v l) (hl : l.length ≤ 1000) : Calls Tryz.prog 54 ⟨[v, Value.func (Fn.func 30) ⟨[]⟩ ⟨[]⟩]⟩ w (fun e w' => e = .returned (.tuple #[]) ∧ Keeps (fun i => v.ownBlock = some i) w w' ∧ OwnT w' base 60 2 encP v (l.mergeSort fun x y => !(Go.Proofs.ltOf cmpI) y x)) := by
 rcases hold_own hO with ⟨rfl, rfl⟩ | ⟨g, cap, cur, rfl, hb, hc, h1, h2, h3, h4⟩
 ·refine (Go.Proofs.AnyF.slices_SortFunc_none Go.Proofs.Tryz.sortf54 none 0 (Value.func (Fn.func 30) ⟨[]⟩ ⟨[]⟩) w).mono ?_
  rintro e w' ⟨rfl, rfl⟩
  exact ⟨rfl, (Keeps.refl _).mono (fun _ _ h => h.elim), by simpa using hO⟩
 ·have hcon := Go.Proofs.AnyQ.slices_SortFunc_total Go.Proofs.Tryz.sortf54 2 Tryz.isAgg60 Tryz.sizeOf60 encP (fun _ => rfl) (fun x v hv => by simp [encP] at hv; rcases hv with rfl | rfl <;> rfl) cmpI swo_cmpI 30 #[] g 0 cap l.toArray w (Go.Proofs.enters_of Tryz.func30 (by kernel_rfl) rfl) (fun _ _ _ _ x y => cmp_calls x y _) (holdP hc h4) ((Array.getElem?_eq_some_iff.1 hc).1) (by simp; omega) total_cmpI
  refine Calls.mono (show Calls Tryz.prog 54 ⟨[.slice (some ⟨g, 0, none⟩) l.length cap, Value.func (Fn.func 30) ⟨[]⟩ ⟨[]⟩]⟩ w _ from hcon) ?_
  rintro e w' ⟨rfl, n, os, rfl⟩
  have hs := sortedP (n := n) (os := os) (l := l) (ts := l.mergeSort fun x y => !(Go.Proofs.ltOf cmpI) y x) (List.length_mergeSort _) hb hc h1 h2 h3
  rw [List.length_mergeSort] at hs
  exact ⟨rfl, hs.2.mono (fun i _ h => by rw [h]; rfl), hs.1⟩

theorem SortedFunc_calls (w : World) (C kb : Nat) (K : List KeptM) (HC : Has w C (rowL [.map (some kb)] 52)) (HM : HasMap w kb kpair keptv (K.map KeptM.kv)) (hne : C ≠ kb) (hKl : K.length ≤ 1000) (hN : (K.map KeptM.id).Nodup) : Calls Tryz.prog 28 ⟨[(Value.func (Fn.func 55) ⟨[]⟩ ⟨[(ptr C)]⟩), (Value.func (Fn.func 30) ⟨[]⟩ ⟨[]⟩)]⟩ w (fun e w' => ∃ A c, e = .returned (.slice A ((sortK K).map KeptM.id).length c) ∧ Keeps none_ w w' ∧ OwnT w' w.heap.size 60 2 encP (.slice A ((sortK K).map KeptM.id).length c) ((sortK K).map KeptM.id)) := by
 have hCl := HC.lt
 have hkl := HM.lt
 have hmk : (K.map KeptM.kv).length = K.length := List.length_map ..
 have K0 : Keeps none_ w w := Keeps.refl w
 refine q_calls Tryz.func28 (by kernel_rfl) (by kernel_rfl) ?_
 refine qs ?_
 refine qg ?_
 refine og 1 [(0, (Value.func (Fn.func 55) ⟨[]⟩ ⟨[(ptr C)]⟩)), (1, (Value.func (Fn.func 30) ⟨[]⟩ ⟨[]⟩)), (4, (Value.slice none 0 0))] 1 ?_
 refine od ?_
 refine qs ?_
 refine qg ?_
 refine og 1 [(1, (Value.func (Fn.func 30) ⟨[]⟩ ⟨[]⟩)), (4, (Value.slice none 0 0)), (6, (Value.func (Fn.func 55) ⟨[]⟩ ⟨[(ptr C)]⟩))] 1 ?_
 refine Ops.call (by kernel_rfl) (d := (some 7)) (by kernel_rfl) (Collect_calls _ C kb (K.map KeptM.kv) HC HM (by omega) (by simp only [List.length_map]; omega)) ?_
 rintro _ w5 ⟨A1, c2, all3, rfl, hp4, K6, hO7⟩
 have ob9 : ∀ i, ((Value.slice A1 ((all3.map Prod.fst).length) c2)).ownBlock = some i → i ≠ C := fun i hi => by have := (World.ownsRow.lt hO7 i hi).1; have := HC.lt; omega
 have ob10 : ∀ i, ((Value.slice A1 ((all3.map Prod.fst).length) c2)).ownBlock = some i → i ≠ kb := fun i hi => by have := (World.ownsRow.lt hO7 i hi).1; have := HM.lt; omega
 have O8 := own_base hO7 K0.size
 clear hO7
 have hl11 := (hp4).length_eq
 refine ⟨_, _, rfl, rfl, ?_⟩
 replace K0 := K0.t0 K6
 replace HC := HC.keep K6 (fun h => h)
 replace HM := HM.keep K6 (fun h => h)
 clear K6
 refine og 1 [(1, (Value.func (Fn.func 30) ⟨[]⟩ ⟨[]⟩)), (4, (Value.slice none 0 0)), (5, (Value.slice A1 ((all3.map Prod.fst).length) c2))] 3 ?_
 refine od ?_
 refine qs ?_
 refine qg ?_
 refine og 2 [(4, (Value.slice none 0 0)), (5, (Value.slice A1 ((all3.map Prod.fst).length) c2)), (8, (Value.slice A1 ((all3.map Prod.fst).length) c2)), (9, (Value.func (Fn.func 30) ⟨[]⟩ ⟨[]⟩))] 2 ?_
 refine Ops.call (by kernel_rfl) (d := (some 10)) (by kernel_rfl) (SortFunc_calls _ _ (Value.slice A1 ((all3.map Prod.fst).length) c2) (all3.map Prod.fst) O8 (by simp only [List.length_map]; omega)) ?_
 rintro _ w12 ⟨rfl, K13, hO14⟩
 refine ⟨_, _, rfl, rfl, ?_⟩
 replace K0 := K0.trans K13 (U := none_) (fun i h1 h2 => h2) (fun i h1 h2 => by have h2 : ((Value.slice A1 ((all3.map Prod.fst).length) c2)).ownBlock = some i := h2; exfalso; have := (World.ownsRow.lt O8 i h2).1; omega)
 replace HC := HC.keep K13 (by intro h; change ((Value.slice A1 ((all3.map Prod.fst).length) c2)).ownBlock = some C at h; have := ob9 C h; omega)
 replace HM := HM.keep K13 (by intro h; change ((Value.slice A1 ((all3.map Prod.fst).length) c2)).ownBlock = some kb at h; have := ob10 kb h; omega)
 clear O8
 clear K13
 refine od ?_
 refine qs ?_
 refine qg ?_
 refine og 2 [(4, (Value.slice A1 ((all3.map Prod.fst).length) c2))] 2 ?_
 refine od ?_
 refine q_ret (by kernel_rfl) ?_
 refine ⟨(Value.slice A1 ((all3.map Prod.fst).length) c2), retv_tmp rfl rfl, ?_⟩
 have hpm : (all3.map Prod.fst).Perm (K.map KeptM.id) := by have h := hp4.map Prod.fst; rwa [kv_fst] at h
 have hms := sort_ids hN hpm
 have hle := hpm.length_eq
 have hl2 : ((sortK K).map KeptM.id).length = (all3.map Prod.fst).length := by rw [← hms, List.length_mergeSort]
 rw [hms, ← hl2] at hO14
 exact ⟨_, _, by rw [hl2], K0, hO14⟩
end Go.Proofs.YtnfeemhpoaflfaaGreatDoor
namespace Go.Q
theorem str_append (a b : List UInt8) : str a ++ str b = str (a ++ b) := by
  apply ByteArray.ext
  simp [str]
theorem Runs.stradd {P : Program} {L : Loc} {o : Oper} {w : World} {t : TypeId} {a b : List UInt8} (h : bin? L o = some (.add, t, .string (str a), .string (str b))) (hl : a.length + b.length ≤ 9223372036854775807) : Runs P L o w (.string (str (a ++ b))) w := by
  refine Runs.bin h (fun _ _ => by simp [eqGuard, Sem.run_pure]) ?_
  have e1 : (str a).size = a.length := rfl
  have e2 : (str b).size = b.length := rfl
  have hm : IntKind.i64.max = 9223372036854775807 := by decide
  simp only [binOp, Op.stringOp, e1, e2, hm]
  rw [if_neg (by omega), str_append]
  rfl
def RowEq (S R : List AccM) : Prop := S.map AccM.row = R.map AccM.row
theorem RowEq.len {S R : List AccM} (h : RowEq S R) : S.length = R.length := by simpa using congrArg List.length h
theorem RowEq.all {S R : List AccM} (h : RowEq S R) : rowsS S (-1) = rowsS R (-1) := by rw [rows_all, rows_all]; exact h
theorem RowEq.get {S R : List AccM} (h : RowEq S R) (n : List UInt8) : (getS S n).map AccM.row = (getS R n).map AccM.row := by
  unfold getS
  induction S generalizing R with
  | nil =>
    cases R with
    | nil => rfl
    | cons b R => cases h
  | cons a S ih =>
    cases R with
    | nil => cases h
    | cons b R =>
      simp only [RowEq, List.map_cons, List.cons.injEq] at h
      have hn : a.name = b.name := congrArg RowM.name h.1
      rw [List.find?_cons, List.find?_cons, hn]
      by_cases e : b.name = n
      · simp [e, h.1]
      · simpa [e] using ih h.2
theorem RowEq.some {S R : List AccM} (h : RowEq S R) {n : List UInt8} {a : AccM} (ha : getS S n = some a) : ∃ b, getS R n = some b ∧ b.amt = a.amt := by
  have := h.get n
  rw [ha] at this
  cases hb : getS R n with
  | none => rw [hb] at this; cases this
  | some b => rw [hb] at this; exact ⟨b, rfl, (congrArg RowM.amount (Option.some.inj this)).symm⟩
theorem RowEq.none {S R : List AccM} (h : RowEq S R) {n : List UInt8} (ha : getS S n = none) : getS R n = none := by
  have := h.get n
  rw [ha] at this
  cases hb : getS R n with
  | none => rfl
  | some b => rw [hb] at this; cases this
theorem RowEq.putE {S R : List AccM} (h : RowEq S R) (n : List UInt8) (k : Int) : putE S n k = putE R n k := by
  have hs : (getS S n).isSome = (getS R n).isSome := by
    cases ha : getS S n with
    | none => rw [h.none ha]
    | some a => obtain ⟨b, hb, _⟩ := h.some ha; rw [hb]; rfl
  unfold Go.Q.putE
  rw [hs, h.len]
theorem row_ins : ∀ {S R : List AccM} (a : AccM), S.map AccM.row = R.map AccM.row → (insS S a).map AccM.row = (insS R a).map AccM.row
  | [], [], a, _ => rfl
  | [], _ :: _, a, h => by cases h
  | _ :: _, [], a, h => by cases h
  | b :: S, c :: R, a, h => by
    simp only [List.map_cons, List.cons.injEq] at h
    have hn : b.name = c.name := congrArg RowM.name h.1
    unfold insS
    rw [hn]
    split
    · rw [List.map_cons, List.map_cons, h.1, row_ins a h.2]
    · rw [List.map_cons, List.map_cons, List.map_cons, List.map_cons, h.1, h.2]
theorem RowEq.putS {S R : List AccM} (h : RowEq S R) (n : List UInt8) (k : Int) : RowEq (putS S n k) (putS R n k) := by
  unfold Go.Q.putS
  rw [h.putE]
  split
  · exact row_ins _ h
  · exact h
theorem row_set : ∀ {S R : List AccM} (n : List UInt8) (x y : AccV), x.1 = y.1 → S.map AccM.row = R.map AccM.row → (setS S n x).map AccM.row = (setS R n y).map AccM.row
  | [], [], n, x, y, _, _ => rfl
  | [], _ :: _, _, _, _, _, h => by cases h
  | _ :: _, [], _, _, _, _, h => by cases h
  | b :: S, c :: R, n, x, y, hx, h => by
    simp only [List.map_cons, List.cons.injEq] at h
    have hn : b.name = c.name := congrArg RowM.name h.1
    have ih := row_set n x y hx h.2
    unfold setS at ih ⊢
    simp only [List.map_cons, List.cons.injEq]
    refine ⟨?_, ih⟩
    rw [hn]
    split
    · show (⟨n, x.1⟩ : RowM) = ⟨n, y.1⟩; rw [hx]
    · exact h.1
/-- What is changed of an amount does not look at who holds it. -/
def Blind (f : AccV → Int × AccV) : Prop := ∀ k o o', (f (k, o)).1 = (f (k, o')).1 ∧ (f (k, o)).2.1 = (f (k, o')).2.1
theorem RowEq.chgE {S R : List AccM} (h : RowEq S R) {f : AccV → Int × AccV} (hf : Blind f) (n : List UInt8) : chgE f S n = chgE f R n := by
  unfold Go.Q.chgE
  cases ha : getS S n with
  | none => rw [h.none ha]
  | some a =>
    obtain ⟨b, hb, e⟩ := h.some ha
    rw [hb]
    simp only [← e]
    exact ((hf b.amt b.own a.own).1).symm
theorem RowEq.chgS {S R : List AccM} (h : RowEq S R) {f : AccV → Int × AccV} (hf : Blind f) (n : List UInt8) : RowEq (chgS f S n) (chgS f R n) := by
  unfold Go.Q.chgS
  cases ha : getS S n with
  | none => rw [h.none ha]; exact h
  | some a =>
    obtain ⟨b, hb, e⟩ := h.some ha
    rw [hb]
    simp only [← e]
    exact row_set n _ _ ((hf b.amt b.own a.own).2).symm h
theorem set_rows {S : List AccM} {n : List UInt8} {x : AccV} {a : AccM} (hS : Accs S) (ha : getS S n = some a) (hx : x.1 = a.amt) : (setS S n x).map AccM.row = S.map AccM.row := by
  unfold setS
  rw [List.map_map]
  refine List.map_congr_left fun b hb => ?_
  show (if b.name = n then (⟨n, x.1, x.2⟩ : AccM) else b).row = b.row
  split
  · next hn =>
    have := hS.get_of hb
    rw [hn, ha] at this
    obtain rfl := Option.some.inj this
    show (⟨n, x.1⟩ : RowM) = ⟨a.name, a.amt⟩
    rw [hn, hx]
  · rfl
theorem hold_amt (x : List UInt8) (v : AccV) : (holdF x v).2.1 = v.1 := by unfold holdF; split; (rfl); split <;> rfl
theorem RowEq.hold {S R : List AccM} (h : RowEq S R) (hR : Accs R) (x n : List UInt8) : RowEq S (Go.Q.chgS (holdF x) R n) := by
  unfold Go.Q.chgS
  cases ha : getS R n with
  | none => exact h
  | some a => exact h.trans (set_rows hR ha (hold_amt x _)).symm
/-- Nobody holds an account. -/
def NoOwn (S : List AccM) : Prop := ∀ a ∈ S, a.own = []
theorem NoOwn.held {S : List AccM} (h : NoOwn S) : heldN S = 0 := by
  unfold heldN
  rw [List.length_eq_zero_iff, List.filter_eq_nil_iff]
  intro a ha
  simp [h a ha]
theorem NoOwn.put {S : List AccM} (h : NoOwn S) (n : List UInt8) (k : Int) : NoOwn (putS S n k) := by
  unfold putS
  split
  · intro a ha
    rcases List.mem_append.1 ((insS_perm S _).mem_iff.1 ha) with ha | ha
    · exact h a ha
    · rw [List.mem_singleton.1 ha]
  · exact h
end Go.Q
namespace Go.Proofs.YtnfeemhpoaflfaaGreatDoor
open Go.Q Go.RowKit

set_option maxHeartbeats 4000000 in
theorem Text_calls (w : World) (b mb kb : Nat) (m : List (List UInt8 × Int)) (S : List RowM) (K : List KeptM) (tb : Nat) (Hb : Has w b (rowL [.map (some mb), .map (some kb)] 54)) (Hm : HasMap w mb kstr ki64 m) (Hk : HasMap w kb kpair keptv (K.map KeptM.kv)) (hne : b ≠ mb ∧ b ≠ kb ∧ mb ≠ kb) (hB : LBook m S K) (HT : Tab Tryz.prog w tb) (hSl : S.length ≤ 1000) (hKl : K.length ≤ 1000) : Calls Tryz.prog 12 ⟨[(ptr b)]⟩ w (fun e w' => e = .returned (.string (str (textE S K))) ∧ Keeps none_ w w') := by
 have Hbl := Hb.lt
 have Hml := Hm.lt
 have Hkl := Hk.lt
 have hL := hB.lmap
 have HTl := HT.lt
 have K0 : Keeps none_ w w := Keeps.refl w
 refine q_calls Tryz.func12 (by kernel_rfl) (by kernel_rfl) ?_
 refine qs ?_
 refine qg ?_
 refine og 1 [(0, (ptr b)), (2, (Value.string (str ([] : List UInt8))))] 1 ?_
 refine od ?_
 refine qs ?_
 refine qs ?_
 refine qg ?_
 refine og 2 [(0, (ptr b)), (2, (Value.string (str ([] : List UInt8)))), (10, (Value.bool false))] 2 ?_
 refine od ?_
 refine q_else (o := .tmp 10) (by kernel_rfl) rfl ?_
 refine q_skip (by kernel_rfl) ?_
 refine qs ?_
 refine qg ?_
 refine Ops.new (o := rowL [(Value.pointer none), (Value.slice none 0 0)] 68) (V := fun b => (ptr b)) (by kernel_rfl) (d := (some 3)) (by kernel_rfl) (fun b => rfl) (fun b1 w2 hb3 H4 K5 hs6 => ?_)
 have lb1b : b < b1 := by have := Hb.lt; omega
 have lb1mb : mb < b1 := by have := Hm.lt; omega
 have lb1kb : kb < b1 := by have := Hk.lt; omega
 have lb1tb : tb < b1 := by have := HT.lt; omega
 have nb1 : w.heap.size ≤ b1 := by have := K0.size; omega
 replace K0 := K0.t0 K5
 replace Hb := Hb.keep K5 (fun h => h)
 replace Hm := Hm.keep K5 (fun h => h)
 replace Hk := Hk.keep K5 (fun h => h)
 replace HT := HT.keep K5 (fun h => h)
 clear K5 hs6
 refine od ?_
 refine qs ?_
 refine qs ?_
 refine qg ?_
 refine og 1 [(0, (ptr b)), (2, (Value.string (str ([] : List UInt8)))), (3, (ptr b1)), (11, (ptr b))] 1 ?_
 refine Ops.call (by kernel_rfl) (d := (some 12)) (by kernel_rfl) (rows_calls _ b mb kb m S Hb Hm (by omega) hL (by omega)) ?_
 rintro _ w9 ⟨A7, c8, rfl, K10, hO11⟩
 have ob13 : ∀ i, ((Value.slice A7 S.length c8)).ownBlock = some i → i ≠ b := fun i hi => by have := (World.ownsRow.lt hO11 i hi).1; have := Hb.lt; omega
 have ob14 : ∀ i, ((Value.slice A7 S.length c8)).ownBlock = some i → i ≠ mb := fun i hi => by have := (World.ownsRow.lt hO11 i hi).1; have := Hm.lt; omega
 have ob15 : ∀ i, ((Value.slice A7 S.length c8)).ownBlock = some i → i ≠ kb := fun i hi => by have := (World.ownsRow.lt hO11 i hi).1; have := Hk.lt; omega
 have ob16 : ∀ i, ((Value.slice A7 S.length c8)).ownBlock = some i → i ≠ tb := fun i hi => by have := (World.ownsRow.lt hO11 i hi).1; have := HT.lt; omega
 have ob17 : ∀ i, ((Value.slice A7 S.length c8)).ownBlock = some i → i ≠ b1 := fun i hi => by have := (World.ownsRow.lt hO11 i hi).1; have := H4.lt; omega
 have O12 := own_base hO11 K0.size
 clear hO11
 refine ⟨_, _, rfl, rfl, ?_⟩
 replace K0 := K0.t0 K10
 replace Hb := Hb.keep K10 (fun h => h)
 replace Hm := Hm.keep K10 (fun h => h)
 replace Hk := Hk.keep K10 (fun h => h)
 replace HT := HT.keep K10 (fun h => h)
 replace H4 := H4.keep K10 (fun h => h)
 clear K10
 refine og 2 [(0, (ptr b)), (2, (Value.string (str ([] : List UInt8)))), (3, (ptr b1)), (12, (Value.slice A7 S.length c8)), (13, (i64 ((S.length : Nat) : Int))), (14, (i64 0))] 4 ?_
 refine od ?_
 refine q_block (id := 0) (by kernel_rfl) ?_
 refine q_keep (R := [(0, (ptr b)), (2, (Value.string (str ([] : List UInt8)))), (3, (ptr b1)), (12, (Value.slice A7 S.length c8)), (13, (i64 ((S.length : Nat) : Int))), (14, (i64 0))]) (by kernel_rfl) ?_
 refine q_loop (fun (gs : Value × (Option Addr) × Nat × (List UInt8) × Nat) L (wx : World) => match gs with | (p, BA, Bc, ys, i) => L = [(0, (ptr b)), (2, (Value.string (str ([] : List UInt8)))), (3, (ptr b1)), (12, (Value.slice A7 S.length c8)), (13, (i64 ((S.length : Nat) : Int))), (14, (i64 ((i : Nat) : Int)))] ∧ OwnR wx w.heap.size 47 (Value.slice A7 S.length c8) S ∧ (∀ i, ((Value.slice A7 S.length c8)).ownBlock = some i → i ≠ b) ∧ (∀ i, ((Value.slice A7 S.length c8)).ownBlock = some i → i ≠ mb) ∧ (∀ i, ((Value.slice A7 S.length c8)).ownBlock = some i → i ≠ kb) ∧ (∀ i, ((Value.slice A7 S.length c8)).ownBlock = some i → i ≠ tb) ∧ (∀ i, ((Value.slice A7 S.length c8)).ownBlock = some i → i ≠ b1) ∧ (∀ i, ((Value.slice BA ys.length Bc)).ownBlock = some i → ((Value.slice A7 S.length c8)).ownBlock = some i → False) ∧ OwnB wx b1 5 (Value.slice BA ys.length Bc) ys ∧ (∀ i, ((Value.slice BA ys.length Bc)).ownBlock = some i → i ≠ b) ∧ (∀ i, ((Value.slice BA ys.length Bc)).ownBlock = some i → i ≠ mb) ∧ (∀ i, ((Value.slice BA ys.length Bc)).ownBlock = some i → i ≠ kb) ∧ (∀ i, ((Value.slice BA ys.length Bc)).ownBlock = some i → i ≠ tb) ∧ (∀ i, ((Value.slice BA ys.length Bc)).ownBlock = some i → i ≠ b1) ∧ (∀ i, ((Value.slice A7 S.length c8)).ownBlock = some i → ((Value.slice BA ys.length Bc)).ownBlock = some i → False) ∧ (p = .pointer none ∨ p = ptr b1) ∧ i ≤ S.length ∧ ys = (S.take i).flatMap rowT ∧ Keeps none_ w wx ∧ Has wx b (rowL [(Value.map (some mb)), (Value.map (some kb))] 54) ∧ HasMap wx mb kstr ki64 m ∧ HasMap wx kb kpair keptv (K.map KeptM.kv) ∧ Tab Tryz.prog wx tb ∧ Has wx b1 (rowL [p, (Value.slice BA ys.length Bc)] 68)) (fun (gs : Value × (Option Addr) × Nat × (List UInt8) × Nat) => match gs with | (p, BA, Bc, ys, i) => S.length - i) (.pointer none, none, 0, [], 0) (by kernel_rfl) ⟨rfl, O12, ob13, ob14, ob15, ob16, ob17, (fun _ h => by cases h), (World.ownsRow_nil _ _ _ _), (fun i hi => by cases hi), (fun i hi => by cases hi), (fun i hi => by cases hi), (fun i hi => by cases hi), (fun i hi => by cases hi), (fun _ _ h => by cases h), (.inl rfl), Nat.zero_le _, rfl, K0, Hb, Hm, Hk, HT, H4⟩ ?_
 clear Hb Hm Hk HT H4 O12 K0
 rintro ⟨p, BA, Bc, ys, i⟩ _ w18 ⟨rfl, hON, obNb, obNmb, obNkb, obNtb, obNb1, ooNB, hOB, obBb, obBmb, obBkb, obBtb, obBb1, ooBN, hp, hi, hE, K19, H20, H21, H22, H23, H24⟩
 refine qs ?_
 refine qg ?_
 refine og 1 [(0, (ptr b)), (2, (Value.string (str ([] : List UInt8)))), (3, (ptr b1)), (12, (Value.slice A7 S.length c8)), (13, (i64 ((S.length : Nat) : Int))), (14, (i64 ((i : Nat) : Int))), (15, (Value.bool (decide (((i : Nat) : Int) < ((S.length : Nat) : Int)))))] 1 ?_
 refine od ?_
 refine qs ?_
 refine q_cond (o := .tmp 15) (b := (decide (((i : Nat) : Int) < ((S.length : Nat) : Int)))) (by kernel_rfl) rfl (fun h25 => ?_) (fun h25 => ?_)
 ·rw [h25]
  have p26 : ((i : Nat) : Int) < ((S.length : Nat) : Int) := of_decide_eq_true h25
  obtain ⟨a, ha⟩ : ∃ y, S[i]? = some y := ⟨_, List.getElem?_eq_getElem (by omega)⟩
  have hao := hL.led.ok a (List.mem_of_getElem? ha)
  have hal := (nameOk_len hao.name).2
  have ha1 := hao.lo
  have ha2 := hao.hi
  have hyl := hL.led.flat i
  rw [← hE] at hyl
  obtain ⟨rb27, ro28, hA29⟩ := Rd.addr (OwnT.rd hON) (by omega)
  refine q_skip (by kernel_rfl) ?_
  refine qs ?_
  refine q_block (id := 1) (by kernel_rfl) ?_
  refine qs ?_
  refine qg ?_
  refine Ops.go (by kernel_rfl) (Runs.ixSliceE (k := IntKind.i64) (t := 28) (len := S.length) (cap := c8) (s := 2) (off' := ro28 + i * 2) (i := ((i : Nat) : Int)) hA29 (by kernel_rfl) (by kernel_rfl) (by omega) (by omega) (by omega)) (d := (some 16)) (by kernel_rfl) rfl ?_
  refine Ops.go (v := (agg [(Value.string (str a.name)), (i64 a.amount)])) (by kernel_rfl) (Runs.load (t := 47) (a := ⟨rb27, ro28 + i * 2, none⟩) (by kernel_rfl) (RdT.ld (f := RowM.cells) (x := a) RowM.two (OwnT.rd hON) (by kernel_rfl) (by kernel_rfl) hA29 ha)) (d := (some 17)) (by kernel_rfl) rfl ?_
  refine Ops.new (o := rowL [(Value.string ByteArray.empty), (i64 0)] 47) (V := fun b => (ptr b)) (by kernel_rfl) (d := (some 5)) (by kernel_rfl) (fun b => rfl) (fun b30 w31 hb32 H33 K34 hs35 => ?_)
  have lb30b : b < b30 := by have := H20.lt; omega
  have lb30mb : mb < b30 := by have := H21.lt; omega
  have lb30kb : kb < b30 := by have := H22.lt; omega
  have lb30tb : tb < b30 := by have := H23.lt; omega
  have lb30b1 : b1 < b30 := by have := H24.lt; omega
  have nb30 : w.heap.size ≤ b30 := by have := K19.size; omega
  have ob36 : ∀ i, ((Value.slice A7 S.length c8)).ownBlock = some i → i < b30 := fun i hi => by have := (World.ownsRow.lt hON i hi).2; omega
  have ob37 : ∀ i, ((Value.slice BA ys.length Bc)).ownBlock = some i → i < b30 := fun i hi => by have := (World.ownsRow.lt hOB i hi).2; omega
  replace K19 := K19.trans K34 (U := none_) (fun i h1 h2 => h2) (fun i h1 h2 => by exact h2)
  replace H20 := H20.keep K34 (fun h => h)
  replace H21 := H21.keep K34 (fun h => h)
  replace H22 := H22.keep K34 (fun h => h)
  replace H23 := H23.keep K34 (fun h => h)
  replace H24 := H24.keep K34 (fun h => h)
  replace hON := own_keep0 hON K34
  replace hOB := own_keep0 hOB K34
  clear K34 hs35
  refine Ops.put (t := 47) (b := b30) (off := 0) (v := (agg [(Value.string (str a.name)), (i64 a.amount)])) (ys := [(Value.string (str a.name)), (i64 a.amount)]) (by kernel_rfl) (by kernel_rfl) H33 (by kernel_rfl) (d := none) (by kernel_rfl) rfl (fun w38 H39 K40 => ?_)
  clear H33
  replace K19 := K19.trans K40 (U := none_) (fun i h1 h2 => h2) (fun i h1 h2 => by have h2 : i = b30 := h2; exfalso; omega)
  replace H20 := H20.keep K40 (by intro h; change b = b30 at h; omega)
  replace H21 := H21.keep K40 (by intro h; change mb = b30 at h; omega)
  replace H22 := H22.keep K40 (by intro h; change kb = b30 at h; omega)
  replace H23 := H23.keep K40 (by intro h; change tb = b30 at h; omega)
  replace H24 := H24.keep K40 (by intro h; change b1 = b30 at h; omega)
  replace hON := own_keep hON K40 (fun i hi hs => by have hs : i = b30 := hs; have := ob36 i hi; omega)
  replace hOB := own_keep hOB K40 (fun i hi hs => by have hs : i = b30 := hs; have := ob37 i hi; omega)
  clear K40
  refine od ?_
  refine q_draw (fun wz => Keeps (fun i => ((Value.slice BA ys.length Bc)).ownBlock = some i ∨ i = b1) w38 wz) 9 (by kernel_rfl) (by kernel_rfl) (by kernel_rfl) (fun w41 K42 _ _ => ⟨(K42.mono (fun _ _ h => h.elim)), ?_⟩)
  replace K19 := K19.trans K42 (U := none_) (fun i h1 h2 => h2) (fun i h1 h2 => by exact h2)
  replace H20 := H20.keep K42 (fun h => h)
  replace H21 := H21.keep K42 (fun h => h)
  replace H22 := H22.keep K42 (fun h => h)
  replace H23 := H23.keep K42 (fun h => h)
  replace H24 := H24.keep K42 (fun h => h)
  replace H39 := H39.keep K42 (fun h => h)
  replace hON := own_keep0 hON K42
  replace hOB := own_keep0 hOB K42
  refine Dr.strong (S' := (fun wz => Keeps (fun i => ((Value.slice BA ys.length Bc)).ownBlock = some i ∨ i = b1) w41 wz)) ((Keeps.refl w41).mono (fun _ _ h => h.elim)) (fun wz hx => K42.trans hx (fun i _ h => h.elim) (fun _ _ h => h)) ?_
  clear K42
  refine Dr.takes (fuel' := 8) (is' := [0]) [0] [(0, (ptr b)), (2, (Value.string (str ([] : List UInt8)))), (3, (ptr b1)), (5, (ptr b30)), (12, (Value.slice A7 S.length c8)), (13, (i64 ((S.length : Nat) : Int))), (14, (i64 ((i : Nat) : Int))), (15, (Value.bool true)), (18, (ptr b30))] (by kernel_rfl) rfl (by kernel_rfl) ?_
  refine Dr.take (i := 1) (v := (Value.string (str a.name))) (by kernel_rfl) (by kernel_rfl) (fun wz hS => Runs.load (t := 9) (a := ⟨b30, 0, none⟩) (by kernel_rfl) ((H39.keep hS (by intro h; change ((Value.slice BA ys.length Bc)).ownBlock = some b30 ∨ b30 = b1 at h; rcases h with h | h; (have := ob37 b30 h; omega); (omega))).loads (by kernel_rfl))) (d := (some 19)) (by kernel_rfl) rfl ?_
  refine Dr.take (i := 2) (v := (Value.string (str (a.name ++ [61])))) (by kernel_rfl) (by kernel_rfl) (fun wz hS => Runs.stradd (t := 9) (a := a.name) (b := [61]) (by kernel_rfl) (by simp only [List.length_append, List.length_cons, List.length_nil]; omega)) (d := (some 20)) (by kernel_rfl) rfl ?_
  refine Dr.takes (fuel' := 5) (is' := [3, 2, 1, 0]) [3] [(0, (ptr b)), (2, (Value.string (str ([] : List UInt8)))), (3, (ptr b1)), (5, (ptr b30)), (12, (Value.slice A7 S.length c8)), (13, (i64 ((S.length : Nat) : Int))), (14, (i64 ((i : Nat) : Int))), (15, (Value.bool true)), (20, (Value.string (str (a.name ++ [61])))), (21, (Value.pointer (some ⟨b30, 1, none⟩)))] (by kernel_rfl) rfl (by kernel_rfl) ?_
  refine Dr.take (i := 4) (v := (i64 a.amount)) (by kernel_rfl) (by kernel_rfl) (fun wz hS => Runs.load (t := 2) (a := ⟨b30, 1, none⟩) (by kernel_rfl) ((H39.keep hS (by intro h; change ((Value.slice BA ys.length Bc)).ownBlock = some b30 ∨ b30 = b1 at h; rcases h with h | h; (have := ob37 b30 h; omega); (omega))).loads (by kernel_rfl))) (d := (some 22)) (by kernel_rfl) rfl ?_
  refine Dr.call (i := 5) (by kernel_rfl) (by kernel_rfl) (d := (some 23)) (by kernel_rfl) (fun _ => FormatInt_calls _ tb a.amount H23 (by omega)) ?_
  rintro _ w44 ⟨rfl, K43⟩
  have hn45 := itoa_len (n := a.amount) (by omega)
  replace K19 := K19.trans K43 (U := none_) (fun i h1 h2 => h2) (fun i h1 h2 => by exact h2)
  replace H20 := H20.keep K43 (fun h => h)
  replace H21 := H21.keep K43 (fun h => h)
  replace H22 := H22.keep K43 (fun h => h)
  replace H23 := H23.keep K43 (fun h => h)
  replace H24 := H24.keep K43 (fun h => h)
  replace H39 := H39.keep K43 (fun h => h)
  replace hON := own_keep0 hON K43
  replace hOB := own_keep0 hOB K43
  refine ⟨_, _, rfl, rfl, (K43.mono (fun _ _ h => h.elim)), ?_⟩
  refine Dr.strong (S' := (fun wz => Keeps (fun i => ((Value.slice BA ys.length Bc)).ownBlock = some i ∨ i = b1) w44 wz)) ((Keeps.refl w44).mono (fun _ _ h => h.elim)) (fun wz hx => K43.trans hx (fun i _ h => h.elim) (fun _ _ h => h)) ?_
  clear K43
  refine Dr.take (i := 6) (v := (Value.string (str ((a.name ++ [61]) ++ (Lib.itoa a.amount))))) (by kernel_rfl) (by kernel_rfl) (fun wz hS => Runs.stradd (t := 9) (a := (a.name ++ [61])) (b := (Lib.itoa a.amount)) (by kernel_rfl) (by simp only [List.length_append, List.length_cons, List.length_nil]; omega)) (d := (some 24)) (by kernel_rfl) rfl ?_
  refine Dr.take (i := 7) (v := (Value.string (str (((a.name ++ [61]) ++ (Lib.itoa a.amount)) ++ [32])))) (by kernel_rfl) (by kernel_rfl) (fun wz hS => Runs.stradd (t := 9) (a := ((a.name ++ [61]) ++ (Lib.itoa a.amount))) (b := [32]) (by kernel_rfl) (by simp only [List.length_append, List.length_cons, List.length_nil]; omega)) (d := (some 25)) (by kernel_rfl) rfl ?_
  refine Dr.call (i := 8) (by kernel_rfl) (by kernel_rfl) (d := (some 26)) (by kernel_rfl) (fun _ => WS_calls _ b1 p BA Bc ys (((a.name ++ [61]) ++ (Lib.itoa a.amount)) ++ [32]) b1 hp H24 hOB obBb1 (by simp only [List.length_append, List.length_cons, List.length_nil]; omega) (Nat.le_of_lt H24.lt)) ?_
  rintro _ w48 ⟨A46, c47, rfl, K49, H50, hO51, hg52⟩
  have ob53 : ∀ i, ((Value.slice A46 ((ys ++ (((a.name ++ [61]) ++ (Lib.itoa a.amount)) ++ [32])).length) c47)).ownBlock = some i → i ≠ b := fun i hi => by rcases hg52 i hi with h | h; (have := obBb i h; omega); (have := H20.lt; omega)
  have ob54 : ∀ i, ((Value.slice A46 ((ys ++ (((a.name ++ [61]) ++ (Lib.itoa a.amount)) ++ [32])).length) c47)).ownBlock = some i → i ≠ mb := fun i hi => by rcases hg52 i hi with h | h; (have := obBmb i h; omega); (have := H21.lt; omega)
  have ob55 : ∀ i, ((Value.slice A46 ((ys ++ (((a.name ++ [61]) ++ (Lib.itoa a.amount)) ++ [32])).length) c47)).ownBlock = some i → i ≠ kb := fun i hi => by rcases hg52 i hi with h | h; (have := obBkb i h; omega); (have := H22.lt; omega)
  have ob56 : ∀ i, ((Value.slice A46 ((ys ++ (((a.name ++ [61]) ++ (Lib.itoa a.amount)) ++ [32])).length) c47)).ownBlock = some i → i ≠ tb := fun i hi => by rcases hg52 i hi with h | h; (have := obBtb i h; omega); (have := H23.lt; omega)
  have ob57 : ∀ i, ((Value.slice A46 ((ys ++ (((a.name ++ [61]) ++ (Lib.itoa a.amount)) ++ [32])).length) c47)).ownBlock = some i → i ≠ b1 := fun i hi => by rcases hg52 i hi with h | h; (have := obBb1 i h; omega); (have := H24.lt; omega)
  have ob58 : ∀ i, ((Value.slice A46 ((ys ++ (((a.name ++ [61]) ++ (Lib.itoa a.amount)) ++ [32])).length) c47)).ownBlock = some i → i ≠ b30 := fun i hi => by rcases hg52 i hi with h | h; (have := ob37 i h; omega); (have := H39.lt; omega)
  have oo59 : ∀ i, ((Value.slice A7 S.length c8)).ownBlock = some i → ((Value.slice A46 ((ys ++ (((a.name ++ [61]) ++ (Lib.itoa a.amount)) ++ [32])).length) c47)).ownBlock = some i → False := fun i hi hs => by rcases hg52 i hs with h | h; (exact ooBN i hi h); (have := (World.ownsRow.lt hON i hi).2; omega)
  have oo60 : ∀ i, ((Value.slice A46 ((ys ++ (((a.name ++ [61]) ++ (Lib.itoa a.amount)) ++ [32])).length) c47)).ownBlock = some i → ((Value.slice A7 S.length c8)).ownBlock = some i → False := fun i hi hs => oo59 i hs hi
  replace K19 := K19.trans K49 (U := none_) (fun i h1 h2 => h2) (fun i h1 h2 => by have h2 : i = b1 ∨ ((Value.slice BA ys.length Bc)).ownBlock = some i := h2; rcases h2 with h2 | h2; (exfalso; omega); (exfalso; have := (World.ownsRow.lt hOB i h2).1; omega))
  replace H20 := H20.keep K49 (by intro h; change b = b1 ∨ ((Value.slice BA ys.length Bc)).ownBlock = some b at h; rcases h with h | h; (omega); (have := obBb b h; omega))
  replace H21 := H21.keep K49 (by intro h; change mb = b1 ∨ ((Value.slice BA ys.length Bc)).ownBlock = some mb at h; rcases h with h | h; (omega); (have := obBmb mb h; omega))
  replace H22 := H22.keep K49 (by intro h; change kb = b1 ∨ ((Value.slice BA ys.length Bc)).ownBlock = some kb at h; rcases h with h | h; (omega); (have := obBkb kb h; omega))
  replace H23 := H23.keep K49 (by intro h; change tb = b1 ∨ ((Value.slice BA ys.length Bc)).ownBlock = some tb at h; rcases h with h | h; (omega); (have := obBtb tb h; omega))
  replace H39 := H39.keep K49 (by intro h; change b30 = b1 ∨ ((Value.slice BA ys.length Bc)).ownBlock = some b30 at h; rcases h with h | h; (omega); (have := ob37 b30 h; omega))
  replace hON := own_keep hON K49 (fun i hi hs => by have hs : i = b1 ∨ ((Value.slice BA ys.length Bc)).ownBlock = some i := hs; rcases hs with hs | hs; (have := obNb1 i hi; omega); (exact ooBN i hi hs))
  clear hOB
  refine ⟨_, _, rfl, rfl, (K49.mono (fun i _ h => by have h : i = b1 ∨ ((Value.slice BA ys.length Bc)).ownBlock = some i := h; show ((Value.slice BA ys.length Bc)).ownBlock = some i ∨ i = b1; rcases h with h | h; (exact (.inr h)); (exact (.inl h)))), ?_⟩
  refine Dr.strong (S' := (fun wz => Keeps (fun i => ((Value.slice BA ys.length Bc)).ownBlock = some i ∨ i = b1) w48 wz)) ((Keeps.refl w48).mono (fun _ _ h => h.elim)) (fun wz hx => K49.trans hx (fun i _ h => by have h : i = b1 ∨ ((Value.slice BA ys.length Bc)).ownBlock = some i := h; show ((Value.slice BA ys.length Bc)).ownBlock = some i ∨ i = b1; rcases h with h | h; (exact (.inr h)); (exact (.inl h))) (fun _ _ h => h)) ?_
  clear K49
  refine Dr.done (by kernel_rfl) ?_
  refine qg ?_
  refine og 1 [(0, (ptr b)), (2, (Value.string (str ([] : List UInt8)))), (3, (ptr b1)), (5, (ptr b30)), (12, (Value.slice A7 S.length c8)), (13, (i64 ((S.length : Nat) : Int))), (14, (i64 ((i : Nat) : Int))), (15, (Value.bool true)), (27, (i64 (IntKind.i64.wrap (((i : Nat) : Int) + 1))))] 1 ?_
  have e61 : IntKind.i64.wrap (((i : Nat) : Int) + 1) = ((i + 1 : Nat) : Int) := by rw [wrap_i64 (by omega) (by omega)]; omega
  rw [e61]
  clear e61
  refine og 1 [(0, (ptr b)), (2, (Value.string (str ([] : List UInt8)))), (3, (ptr b1)), (5, (ptr b30)), (12, (Value.slice A7 S.length c8)), (13, (i64 ((S.length : Nat) : Int))), (14, (i64 ((i + 1 : Nat) : Int))), (15, (Value.bool true))] 2 ?_
  refine Ops.keep (R := [(0, (ptr b)), (2, (Value.string (str ([] : List UInt8)))), (3, (ptr b1)), (12, (Value.slice A7 S.length c8)), (13, (i64 ((S.length : Nat) : Int))), (14, (i64 ((i + 1 : Nat) : Int)))]) (by kernel_rfl) ?_
  refine od ?_
  exact ⟨(ptr b1, A46, c47, ys ++ (((a.name ++ [61]) ++ (Lib.itoa a.amount)) ++ [32]), i + 1), ⟨rfl, hON, obNb, obNmb, obNkb, obNtb, obNb1, oo60, hO51, ob53, ob54, ob55, ob56, ob57, oo59, (.inr rfl), (by omega), (by rw [flatM_take ha, ← hE]; rfl), K19, H20, H21, H22, H23, H50⟩, (show S.length - (i + 1) < S.length - i from by omega)⟩
 ·rw [h25]
  have p62 : ¬ (((i : Nat) : Int) < ((S.length : Nat) : Int)) := of_decide_eq_false h25
  refine q_exit (id := 0) (by kernel_rfl) ?_
  refine qs ?_
  refine qg ?_
  refine og 3 [(0, (ptr b)), (2, (Value.string (str ([] : List UInt8)))), (3, (ptr b1)), (30, (Value.pointer (some ⟨b, 1, none⟩)))] 3 ?_
  refine Ops.go (v := (Value.map (some kb))) (by kernel_rfl) (Runs.load (t := 52) (a := ⟨b, 1, none⟩) (by kernel_rfl) (H20.loads (by kernel_rfl))) (d := (some 31)) (by kernel_rfl) rfl ?_
  refine Ops.call (by kernel_rfl) (d := (some 32)) (by kernel_rfl) (Keys2_calls _ kb) ?_
  rintro _ w65 ⟨kc63, rfl, K64, H66, nb67⟩
  have lkc63b : b < kc63 := by have := H20.lt; omega
  have lkc63mb : mb < kc63 := by have := H21.lt; omega
  have lkc63kb : kb < kc63 := by have := H22.lt; omega
  have lkc63tb : tb < kc63 := by have := H23.lt; omega
  have lkc63b1 : b1 < kc63 := by have := H24.lt; omega
  have nkc63 : w.heap.size ≤ kc63 := by have := K19.size; omega
  have ob68 : ∀ i, ((Value.slice A7 S.length c8)).ownBlock = some i → i ≠ kc63 := fun i hi => by have := (World.ownsRow.lt hON i hi).2; omega
  have ob69 : ∀ i, ((Value.slice BA ys.length Bc)).ownBlock = some i → i ≠ kc63 := fun i hi => by have := (World.ownsRow.lt hOB i hi).2; omega
  refine ⟨_, _, rfl, rfl, ?_⟩
  replace K19 := K19.trans K64 (U := none_) (fun i h1 h2 => h2) (fun i h1 h2 => by exact h2)
  replace H20 := H20.keep K64 (fun h => h)
  replace H21 := H21.keep K64 (fun h => h)
  replace H22 := H22.keep K64 (fun h => h)
  replace H23 := H23.keep K64 (fun h => h)
  replace H24 := H24.keep K64 (fun h => h)
  replace hON := own_keep0 hON K64
  replace hOB := own_keep0 hOB K64
  clear K64
  refine Ops.call (by kernel_rfl) (d := (some 33)) (by kernel_rfl) (SortedFunc_calls _ kc63 kb K H66 H22 (by omega) (by omega) hB.ledg.ids) ?_
  rintro _ w72 ⟨A70, c71, rfl, K73, hO74⟩
  have ob76 : ∀ i, ((Value.slice A70 (((sortK K).map KeptM.id).length) c71)).ownBlock = some i → i ≠ b := fun i hi => by have := (World.ownsRow.lt hO74 i hi).1; have := H20.lt; omega
  have ob77 : ∀ i, ((Value.slice A70 (((sortK K).map KeptM.id).length) c71)).ownBlock = some i → i ≠ mb := fun i hi => by have := (World.ownsRow.lt hO74 i hi).1; have := H21.lt; omega
  have ob78 : ∀ i, ((Value.slice A70 (((sortK K).map KeptM.id).length) c71)).ownBlock = some i → i ≠ kb := fun i hi => by have := (World.ownsRow.lt hO74 i hi).1; have := H22.lt; omega
  have ob79 : ∀ i, ((Value.slice A70 (((sortK K).map KeptM.id).length) c71)).ownBlock = some i → i ≠ tb := fun i hi => by have := (World.ownsRow.lt hO74 i hi).1; have := H23.lt; omega
  have ob80 : ∀ i, ((Value.slice A70 (((sortK K).map KeptM.id).length) c71)).ownBlock = some i → i ≠ b1 := fun i hi => by have := (World.ownsRow.lt hO74 i hi).1; have := H24.lt; omega
  have ob81 : ∀ i, ((Value.slice A70 (((sortK K).map KeptM.id).length) c71)).ownBlock = some i → i ≠ kc63 := fun i hi => by have := (World.ownsRow.lt hO74 i hi).1; have := H66.lt; omega
  have oo82 : ∀ i, ((Value.slice A7 S.length c8)).ownBlock = some i → ((Value.slice A70 (((sortK K).map KeptM.id).length) c71)).ownBlock = some i → False := fun i hi hs => by have := (World.ownsRow.lt hO74 i hs).1; have := (World.ownsRow.lt hON i hi).2; omega
  have oo83 : ∀ i, ((Value.slice A70 (((sortK K).map KeptM.id).length) c71)).ownBlock = some i → ((Value.slice A7 S.length c8)).ownBlock = some i → False := fun i hi hs => oo82 i hs hi
  have oo84 : ∀ i, ((Value.slice BA ys.length Bc)).ownBlock = some i → ((Value.slice A70 (((sortK K).map KeptM.id).length) c71)).ownBlock = some i → False := fun i hi hs => by have := (World.ownsRow.lt hO74 i hs).1; have := (World.ownsRow.lt hOB i hi).2; omega
  have oo85 : ∀ i, ((Value.slice A70 (((sortK K).map KeptM.id).length) c71)).ownBlock = some i → ((Value.slice BA ys.length Bc)).ownBlock = some i → False := fun i hi hs => oo84 i hs hi
  have O75 := own_base hO74 K19.size
  clear hO74
  refine ⟨_, _, rfl, rfl, ?_⟩
  replace K19 := K19.trans K73 (U := none_) (fun i h1 h2 => h2) (fun i h1 h2 => by exact h2)
  replace H20 := H20.keep K73 (fun h => h)
  replace H21 := H21.keep K73 (fun h => h)
  replace H22 := H22.keep K73 (fun h => h)
  replace H23 := H23.keep K73 (fun h => h)
  replace H24 := H24.keep K73 (fun h => h)
  replace H66 := H66.keep K73 (fun h => h)
  replace hON := own_keep0 hON K73
  replace hOB := own_keep0 hOB K73
  clear K73
  refine og 1 [(0, (ptr b)), (2, (Value.string (str ([] : List UInt8)))), (3, (ptr b1)), (6, (Value.slice A70 (((sortK K).map KeptM.id).length) c71))] 7 ?_
  refine od ?_
  refine qs ?_
  refine qs ?_
  refine qg ?_
  refine og 3 [(0, (ptr b)), (2, (Value.string (str ([] : List UInt8)))), (3, (ptr b1)), (34, (Value.slice A70 (((sortK K).map KeptM.id).length) c71)), (35, (i64 ((((sortK K).map KeptM.id).length : Nat) : Int))), (36, (i64 0))] 3 ?_
  refine od ?_
  refine q_block (id := 2) (by kernel_rfl) ?_
  have hE1 : ys = S.flatMap rowT := by rw [hE, List.take_of_length_le (by omega)]
  have hSf := hL.led.flat S.length
  rw [List.take_of_length_le (Nat.le_refl _)] at hSf
  have hll : ((sortK K).map KeptM.id).length = (sortK K).length := List.length_map ..
  have hkl2 := (sortK_perm K).length_eq
  have hp1 := hp
  clear hE hp
  refine q_keep (R := [(0, (ptr b)), (2, (Value.string (str ([] : List UInt8)))), (3, (ptr b1)), (34, (Value.slice A70 (((sortK K).map KeptM.id).length) c71)), (35, (i64 ((((sortK K).map KeptM.id).length : Nat) : Int))), (36, (i64 0))]) (by kernel_rfl) ?_
  refine q_loop (fun (gs : Value × (Option Addr) × Nat × (List UInt8) × Nat) L (wx : World) => match gs with | (p, BA, Bc, ys, j) => L = [(0, (ptr b)), (2, (Value.string (str ([] : List UInt8)))), (3, (ptr b1)), (34, (Value.slice A70 (((sortK K).map KeptM.id).length) c71)), (35, (i64 ((((sortK K).map KeptM.id).length : Nat) : Int))), (36, (i64 ((j : Nat) : Int)))] ∧ OwnT wx w.heap.size 60 2 encP (Value.slice A70 (((sortK K).map KeptM.id).length) c71) ((sortK K).map KeptM.id) ∧ (∀ i, ((Value.slice A70 (((sortK K).map KeptM.id).length) c71)).ownBlock = some i → i ≠ b) ∧ (∀ i, ((Value.slice A70 (((sortK K).map KeptM.id).length) c71)).ownBlock = some i → i ≠ mb) ∧ (∀ i, ((Value.slice A70 (((sortK K).map KeptM.id).length) c71)).ownBlock = some i → i ≠ kb) ∧ (∀ i, ((Value.slice A70 (((sortK K).map KeptM.id).length) c71)).ownBlock = some i → i ≠ tb) ∧ (∀ i, ((Value.slice A70 (((sortK K).map KeptM.id).length) c71)).ownBlock = some i → i ≠ b1) ∧ (∀ i, ((Value.slice BA ys.length Bc)).ownBlock = some i → ((Value.slice A70 (((sortK K).map KeptM.id).length) c71)).ownBlock = some i → False) ∧ OwnB wx b1 5 (Value.slice BA ys.length Bc) ys ∧ (∀ i, ((Value.slice BA ys.length Bc)).ownBlock = some i → i ≠ b) ∧ (∀ i, ((Value.slice BA ys.length Bc)).ownBlock = some i → i ≠ mb) ∧ (∀ i, ((Value.slice BA ys.length Bc)).ownBlock = some i → i ≠ kb) ∧ (∀ i, ((Value.slice BA ys.length Bc)).ownBlock = some i → i ≠ tb) ∧ (∀ i, ((Value.slice BA ys.length Bc)).ownBlock = some i → i ≠ b1) ∧ (∀ i, ((Value.slice A70 (((sortK K).map KeptM.id).length) c71)).ownBlock = some i → ((Value.slice BA ys.length Bc)).ownBlock = some i → False) ∧ (p = .pointer none ∨ p = ptr b1) ∧ j ≤ ((sortK K).map KeptM.id).length ∧ ys = S.flatMap rowT ++ ((sortK K).take j).flatMap keptT ∧ Keeps none_ w wx ∧ Has wx b (rowL [(Value.map (some mb)), (Value.map (some kb))] 54) ∧ HasMap wx mb kstr ki64 m ∧ HasMap wx kb kpair keptv (K.map KeptM.kv) ∧ Tab Tryz.prog wx tb ∧ Has wx b1 (rowL [p, (Value.slice BA ys.length Bc)] 68)) (fun (gs : Value × (Option Addr) × Nat × (List UInt8) × Nat) => match gs with | (p, BA, Bc, ys, j) => ((sortK K).map KeptM.id).length - j) (p, BA, Bc, ys, 0) (by kernel_rfl) ⟨rfl, O75, ob76, ob77, ob78, ob79, ob80, oo84, hOB, obBb, obBmb, obBkb, obBtb, obBb1, oo85, hp1, Nat.zero_le _, (by rw [hE1]; simp), K19, H20, H21, H22, H23, H24⟩ ?_
  clear H20 H21 H22 H23 H24 hON hOB O75 K19
  rintro ⟨p, BA, Bc, ys, j⟩ _ w86 ⟨rfl, hON, obNb, obNmb, obNkb, obNtb, obNb1, ooNB, hOB, obBb, obBmb, obBkb, obBtb, obBb1, ooBN, hp, hi, hE, K87, H88, H89, H90, H91, H92⟩
  refine qs ?_
  refine qg ?_
  refine og 1 [(0, (ptr b)), (2, (Value.string (str ([] : List UInt8)))), (3, (ptr b1)), (34, (Value.slice A70 (((sortK K).map KeptM.id).length) c71)), (35, (i64 ((((sortK K).map KeptM.id).length : Nat) : Int))), (36, (i64 ((j : Nat) : Int))), (37, (Value.bool (decide (((j : Nat) : Int) < ((((sortK K).map KeptM.id).length : Nat) : Int)))))] 1 ?_
  refine od ?_
  refine qs ?_
  refine q_cond (o := .tmp 37) (b := (decide (((j : Nat) : Int) < ((((sortK K).map KeptM.id).length : Nat) : Int)))) (by kernel_rfl) rfl (fun h93 => ?_) (fun h93 => ?_)
  ·rw [h93]
   have p94 : ((j : Nat) : Int) < ((((sortK K).map KeptM.id).length : Nat) : Int) := of_decide_eq_true h93
   obtain ⟨y, hy⟩ : ∃ y, (sortK K)[j]? = some y := ⟨_, List.getElem?_eq_getElem (by omega)⟩
   obtain ⟨hyK, hyi, hyg⟩ := kept_at hB.ledg.ids hy
   have hyo := hB.ledg.ok y hyK
   have hyw := hyo.why
   have hyf := (nameOk_len hyo.frm).2
   have hyk := (nameOk_len hyo.key).2
   have hyf2 : y.id.1.length ≤ 24 := hyf
   have hyk2 : y.id.2.length ≤ 24 := hyk
   have hyl := hB.ledg.kflat j
   have hyl2 := congrArg List.length hE
   rw [List.length_append] at hyl2
   obtain ⟨rb95, ro96, hA97⟩ := Rd.addr (OwnT.rd hON) (by omega)
   refine q_skip (by kernel_rfl) ?_
   refine qs ?_
   refine q_block (id := 3) (by kernel_rfl) ?_
   refine qs ?_
   refine qg ?_
   refine Ops.go (by kernel_rfl) (Runs.ixSliceE (k := IntKind.i64) (t := 74) (len := (((sortK K).map KeptM.id).length)) (cap := c71) (s := 2) (off' := ro96 + j * 2) (i := ((j : Nat) : Int)) hA97 (by kernel_rfl) (by kernel_rfl) (by omega) (by omega) (by omega)) (d := (some 38)) (by kernel_rfl) rfl ?_
   refine Ops.go (v := (agg [(Value.string (str y.id.1)), (Value.string (str y.id.2))])) (by kernel_rfl) (Runs.load (t := 60) (a := ⟨rb95, ro96 + j * 2, none⟩) (by kernel_rfl) (RdT.ld (f := encP) (x := y.id) encP_two (OwnT.rd hON) (by kernel_rfl) (by kernel_rfl) hA97 hyi)) (d := (some 39)) (by kernel_rfl) rfl ?_
   refine Ops.new (o := rowL [(Value.string ByteArray.empty), (Value.string ByteArray.empty)] 60) (V := fun b => (ptr b)) (by kernel_rfl) (d := (some 8)) (by kernel_rfl) (fun b => rfl) (fun b98 w99 hb100 H101 K102 hs103 => ?_)
   have lb98b : b < b98 := by have := H88.lt; omega
   have lb98mb : mb < b98 := by have := H89.lt; omega
   have lb98kb : kb < b98 := by have := H90.lt; omega
   have lb98tb : tb < b98 := by have := H91.lt; omega
   have lb98b1 : b1 < b98 := by have := H92.lt; omega
   have nb98 : w.heap.size ≤ b98 := by have := K87.size; omega
   have ob104 : ∀ i, ((Value.slice A70 (((sortK K).map KeptM.id).length) c71)).ownBlock = some i → i < b98 := fun i hi => by have := (World.ownsRow.lt hON i hi).2; omega
   have ob105 : ∀ i, ((Value.slice BA ys.length Bc)).ownBlock = some i → i < b98 := fun i hi => by have := (World.ownsRow.lt hOB i hi).2; omega
   replace K87 := K87.trans K102 (U := none_) (fun i h1 h2 => h2) (fun i h1 h2 => by exact h2)
   replace H88 := H88.keep K102 (fun h => h)
   replace H89 := H89.keep K102 (fun h => h)
   replace H90 := H90.keep K102 (fun h => h)
   replace H91 := H91.keep K102 (fun h => h)
   replace H92 := H92.keep K102 (fun h => h)
   replace hON := own_keep0 hON K102
   replace hOB := own_keep0 hOB K102
   clear K102 hs103
   refine Ops.put (t := 60) (b := b98) (off := 0) (v := (agg [(Value.string (str y.id.1)), (Value.string (str y.id.2))])) (ys := [(Value.string (str y.id.1)), (Value.string (str y.id.2))]) (by kernel_rfl) (by kernel_rfl) H101 (by kernel_rfl) (d := none) (by kernel_rfl) rfl (fun w106 H107 K108 => ?_)
   clear H101
   replace K87 := K87.trans K108 (U := none_) (fun i h1 h2 => h2) (fun i h1 h2 => by have h2 : i = b98 := h2; exfalso; omega)
   replace H88 := H88.keep K108 (by intro h; change b = b98 at h; omega)
   replace H89 := H89.keep K108 (by intro h; change mb = b98 at h; omega)
   replace H90 := H90.keep K108 (by intro h; change kb = b98 at h; omega)
   replace H91 := H91.keep K108 (by intro h; change tb = b98 at h; omega)
   replace H92 := H92.keep K108 (by intro h; change b1 = b98 at h; omega)
   replace hON := own_keep hON K108 (fun i hi hs => by have hs : i = b98 := hs; have := ob104 i hi; omega)
   replace hOB := own_keep hOB K108 (fun i hi hs => by have hs : i = b98 := hs; have := ob105 i hi; omega)
   clear K108
   refine od ?_
   refine q_draw (fun wz => Keeps (fun i => ((Value.slice BA ys.length Bc)).ownBlock = some i ∨ i = b1) w106 wz) 18 (by kernel_rfl) (by kernel_rfl) (by kernel_rfl) (fun w109 K110 _ _ => ⟨(K110.mono (fun _ _ h => h.elim)), ?_⟩)
   replace K87 := K87.trans K110 (U := none_) (fun i h1 h2 => h2) (fun i h1 h2 => by exact h2)
   replace H88 := H88.keep K110 (fun h => h)
   replace H89 := H89.keep K110 (fun h => h)
   replace H90 := H90.keep K110 (fun h => h)
   replace H91 := H91.keep K110 (fun h => h)
   replace H92 := H92.keep K110 (fun h => h)
   replace H107 := H107.keep K110 (fun h => h)
   replace hON := own_keep0 hON K110
   replace hOB := own_keep0 hOB K110
   refine Dr.strong (S' := (fun wz => Keeps (fun i => ((Value.slice BA ys.length Bc)).ownBlock = some i ∨ i = b1) w109 wz)) ((Keeps.refl w109).mono (fun _ _ h => h.elim)) (fun wz hx => K110.trans hx (fun i _ h => h.elim) (fun _ _ h => h)) ?_
   clear K110
   refine Dr.takes (fuel' := 17) (is' := [0]) [0] [(0, (ptr b)), (2, (Value.string (str ([] : List UInt8)))), (3, (ptr b1)), (8, (ptr b98)), (34, (Value.slice A70 (((sortK K).map KeptM.id).length) c71)), (35, (i64 ((((sortK K).map KeptM.id).length : Nat) : Int))), (36, (i64 ((j : Nat) : Int))), (37, (Value.bool true)), (40, (ptr b98))] (by kernel_rfl) rfl (by kernel_rfl) ?_
   refine Dr.take (i := 1) (v := (Value.string (str y.id.1))) (by kernel_rfl) (by kernel_rfl) (fun wz hS => Runs.load (t := 9) (a := ⟨b98, 0, none⟩) (by kernel_rfl) ((H107.keep hS (by intro h; change ((Value.slice BA ys.length Bc)).ownBlock = some b98 ∨ b98 = b1 at h; rcases h with h | h; (have := ob105 b98 h; omega); (omega))).loads (by kernel_rfl))) (d := (some 41)) (by kernel_rfl) rfl ?_
   refine Dr.take (i := 2) (v := (Value.string (str (y.id.1 ++ [47])))) (by kernel_rfl) (by kernel_rfl) (fun wz hS => Runs.stradd (t := 9) (a := y.id.1) (b := [47]) (by kernel_rfl) (by simp only [List.length_append, List.length_cons, List.length_nil]; omega)) (d := (some 42)) (by kernel_rfl) rfl ?_
   refine Dr.takes (fuel' := 14) (is' := [3, 2, 1, 0]) [3] [(0, (ptr b)), (2, (Value.string (str ([] : List UInt8)))), (3, (ptr b1)), (8, (ptr b98)), (34, (Value.slice A70 (((sortK K).map KeptM.id).length) c71)), (35, (i64 ((((sortK K).map KeptM.id).length : Nat) : Int))), (36, (i64 ((j : Nat) : Int))), (37, (Value.bool true)), (42, (Value.string (str (y.id.1 ++ [47])))), (43, (Value.pointer (some ⟨b98, 1, none⟩)))] (by kernel_rfl) rfl (by kernel_rfl) ?_
   refine Dr.take (i := 4) (v := (Value.string (str y.id.2))) (by kernel_rfl) (by kernel_rfl) (fun wz hS => Runs.load (t := 9) (a := ⟨b98, 1, none⟩) (by kernel_rfl) ((H107.keep hS (by intro h; change ((Value.slice BA ys.length Bc)).ownBlock = some b98 ∨ b98 = b1 at h; rcases h with h | h; (have := ob105 b98 h; omega); (omega))).loads (by kernel_rfl))) (d := (some 44)) (by kernel_rfl) rfl ?_
   refine Dr.take (i := 5) (v := (Value.string (str ((y.id.1 ++ [47]) ++ y.id.2)))) (by kernel_rfl) (by kernel_rfl) (fun wz hS => Runs.stradd (t := 9) (a := (y.id.1 ++ [47])) (b := y.id.2) (by kernel_rfl) (by simp only [List.length_append, List.length_cons, List.length_nil]; omega)) (d := (some 45)) (by kernel_rfl) rfl ?_
   refine Dr.take (i := 6) (v := (Value.string (str (((y.id.1 ++ [47]) ++ y.id.2) ++ [58])))) (by kernel_rfl) (by kernel_rfl) (fun wz hS => Runs.stradd (t := 9) (a := ((y.id.1 ++ [47]) ++ y.id.2)) (b := [58]) (by kernel_rfl) (by simp only [List.length_append, List.length_cons, List.length_nil]; omega)) (d := (some 46)) (by kernel_rfl) rfl ?_
   refine Dr.takes (fuel' := 8) (is' := [9, 8, 7, 6, 5, 4, 3, 2, 1, 0]) [7, 8, 9] [(0, (ptr b)), (2, (Value.string (str ([] : List UInt8)))), (3, (ptr b1)), (8, (ptr b98)), (34, (Value.slice A70 (((sortK K).map KeptM.id).length) c71)), (35, (i64 ((((sortK K).map KeptM.id).length : Nat) : Int))), (36, (i64 ((j : Nat) : Int))), (37, (Value.bool true)), (46, (Value.string (str (((y.id.1 ++ [47]) ++ y.id.2) ++ [58])))), (49, (Value.pointer (some ⟨b, 1, none⟩)))] (by kernel_rfl) rfl (by kernel_rfl) ?_
   refine Dr.take (i := 10) (v := (Value.map (some kb))) (by kernel_rfl) (by kernel_rfl) (fun wz hS => Runs.load (t := 52) (a := ⟨b, 1, none⟩) (by kernel_rfl) ((H88.keep hS (by intro h; change ((Value.slice BA ys.length Bc)).ownBlock = some b ∨ b = b1 at h; rcases h with h | h; (have := obBb b h; omega); (omega))).loads (by kernel_rfl))) (d := (some 50)) (by kernel_rfl) rfl ?_
   refine Dr.take (i := 11) (v := (agg [(Value.string (str y.id.1)), (Value.string (str y.id.2))])) (by kernel_rfl) (by kernel_rfl) (fun wz hS => Runs.load (t := 60) (a := ⟨b98, 0, none⟩) (by kernel_rfl) ((H107.keep hS (by intro h; change ((Value.slice BA ys.length Bc)).ownBlock = some b98 ∨ b98 = b1 at h; rcases h with h | h; (have := ob105 b98 h; omega); (omega))).loads (by kernel_rfl))) (d := (some 51)) (by kernel_rfl) rfl ?_
   refine Dr.take (i := 12) (v := (agg [(i64 y.op.kind), (Value.string (str y.op.frm)), (Value.string (str y.op.to)), (i64 y.op.amount), (Value.string (str y.op.key)), (i64 y.op.slot), (i64 y.op.shard), (i64 y.why)])) (by kernel_rfl) (by kernel_rfl) (fun wz hS => Runs.lookup_some (ok := false) (vf := keptv) (a := (⟨y.op, y.why⟩ : KeptM)) KT2 Tryz.underlying52 (H90.keep hS (by intro h; change ((Value.slice BA ys.length Bc)).ownBlock = some kb ∨ kb = b1 at h; rcases h with h | h; (have := obBkb kb h; omega); (omega))) hyg (by kernel_rfl)) (d := (some 52)) (by kernel_rfl) rfl ?_
   refine Dr.takes (fuel' := 4) (is' := [13, 12, 11, 10, 9, 8, 7, 6, 5, 4, 3, 2, 1, 0]) [13] [(0, (ptr b)), (2, (Value.string (str ([] : List UInt8)))), (3, (ptr b1)), (8, (ptr b98)), (34, (Value.slice A70 (((sortK K).map KeptM.id).length) c71)), (35, (i64 ((((sortK K).map KeptM.id).length : Nat) : Int))), (36, (i64 ((j : Nat) : Int))), (37, (Value.bool true)), (46, (Value.string (str (((y.id.1 ++ [47]) ++ y.id.2) ++ [58])))), (53, (i64 y.why))] (by kernel_rfl) rfl (by kernel_rfl) ?_
   refine Dr.call (i := 14) (by kernel_rfl) (by kernel_rfl) (d := (some 54)) (by kernel_rfl) (fun _ => Itoa_calls _ y.why (by omega)) ?_
   rintro _ w112 ⟨rfl, K111⟩
   have hn113 := dec_len (n := y.why.toNat) (by omega)
   replace K87 := K87.trans K111 (U := none_) (fun i h1 h2 => h2) (fun i h1 h2 => by exact h2)
   replace H88 := H88.keep K111 (fun h => h)
   replace H89 := H89.keep K111 (fun h => h)
   replace H90 := H90.keep K111 (fun h => h)
   replace H91 := H91.keep K111 (fun h => h)
   replace H92 := H92.keep K111 (fun h => h)
   replace H107 := H107.keep K111 (fun h => h)
   replace hON := own_keep0 hON K111
   replace hOB := own_keep0 hOB K111
   refine ⟨_, _, rfl, rfl, (K111.mono (fun _ _ h => h.elim)), ?_⟩
   refine Dr.strong (S' := (fun wz => Keeps (fun i => ((Value.slice BA ys.length Bc)).ownBlock = some i ∨ i = b1) w112 wz)) ((Keeps.refl w112).mono (fun _ _ h => h.elim)) (fun wz hx => K111.trans hx (fun i _ h => h.elim) (fun _ _ h => h)) ?_
   clear K111
   refine Dr.take (i := 15) (v := (Value.string (str ((((y.id.1 ++ [47]) ++ y.id.2) ++ [58]) ++ (Lib.decDigits y.why.toNat))))) (by kernel_rfl) (by kernel_rfl) (fun wz hS => Runs.stradd (t := 9) (a := (((y.id.1 ++ [47]) ++ y.id.2) ++ [58])) (b := (Lib.decDigits y.why.toNat)) (by kernel_rfl) (by simp only [List.length_append, List.length_cons, List.length_nil]; omega)) (d := (some 55)) (by kernel_rfl) rfl ?_
   refine Dr.take (i := 16) (v := (Value.string (str (((((y.id.1 ++ [47]) ++ y.id.2) ++ [58]) ++ (Lib.decDigits y.why.toNat)) ++ [32])))) (by kernel_rfl) (by kernel_rfl) (fun wz hS => Runs.stradd (t := 9) (a := ((((y.id.1 ++ [47]) ++ y.id.2) ++ [58]) ++ (Lib.decDigits y.why.toNat))) (b := [32]) (by kernel_rfl) (by simp only [List.length_append, List.length_cons, List.length_nil]; omega)) (d := (some 56)) (by kernel_rfl) rfl ?_
   refine Dr.call (i := 17) (by kernel_rfl) (by kernel_rfl) (d := (some 57)) (by kernel_rfl) (fun _ => WS_calls _ b1 p BA Bc ys (((((y.id.1 ++ [47]) ++ y.id.2) ++ [58]) ++ (Lib.decDigits y.why.toNat)) ++ [32]) b1 hp H92 hOB obBb1 (by simp only [List.length_append, List.length_cons, List.length_nil]; omega) (Nat.le_of_lt H92.lt)) ?_
   rintro _ w116 ⟨A114, c115, rfl, K117, H118, hO119, hg120⟩
   have ob121 : ∀ i, ((Value.slice A114 ((ys ++ (((((y.id.1 ++ [47]) ++ y.id.2) ++ [58]) ++ (Lib.decDigits y.why.toNat)) ++ [32])).length) c115)).ownBlock = some i → i ≠ b := fun i hi => by rcases hg120 i hi with h | h; (have := obBb i h; omega); (have := H88.lt; omega)
   have ob122 : ∀ i, ((Value.slice A114 ((ys ++ (((((y.id.1 ++ [47]) ++ y.id.2) ++ [58]) ++ (Lib.decDigits y.why.toNat)) ++ [32])).length) c115)).ownBlock = some i → i ≠ mb := fun i hi => by rcases hg120 i hi with h | h; (have := obBmb i h; omega); (have := H89.lt; omega)
   have ob123 : ∀ i, ((Value.slice A114 ((ys ++ (((((y.id.1 ++ [47]) ++ y.id.2) ++ [58]) ++ (Lib.decDigits y.why.toNat)) ++ [32])).length) c115)).ownBlock = some i → i ≠ kb := fun i hi => by rcases hg120 i hi with h | h; (have := obBkb i h; omega); (have := H90.lt; omega)
   have ob124 : ∀ i, ((Value.slice A114 ((ys ++ (((((y.id.1 ++ [47]) ++ y.id.2) ++ [58]) ++ (Lib.decDigits y.why.toNat)) ++ [32])).length) c115)).ownBlock = some i → i ≠ tb := fun i hi => by rcases hg120 i hi with h | h; (have := obBtb i h; omega); (have := H91.lt; omega)
   have ob125 : ∀ i, ((Value.slice A114 ((ys ++ (((((y.id.1 ++ [47]) ++ y.id.2) ++ [58]) ++ (Lib.decDigits y.why.toNat)) ++ [32])).length) c115)).ownBlock = some i → i ≠ b1 := fun i hi => by rcases hg120 i hi with h | h; (have := obBb1 i h; omega); (have := H92.lt; omega)
   have ob126 : ∀ i, ((Value.slice A114 ((ys ++ (((((y.id.1 ++ [47]) ++ y.id.2) ++ [58]) ++ (Lib.decDigits y.why.toNat)) ++ [32])).length) c115)).ownBlock = some i → i ≠ b98 := fun i hi => by rcases hg120 i hi with h | h; (have := ob105 i h; omega); (have := H107.lt; omega)
   have oo127 : ∀ i, ((Value.slice A70 (((sortK K).map KeptM.id).length) c71)).ownBlock = some i → ((Value.slice A114 ((ys ++ (((((y.id.1 ++ [47]) ++ y.id.2) ++ [58]) ++ (Lib.decDigits y.why.toNat)) ++ [32])).length) c115)).ownBlock = some i → False := fun i hi hs => by rcases hg120 i hs with h | h; (exact ooBN i hi h); (have := (World.ownsRow.lt hON i hi).2; omega)
   have oo128 : ∀ i, ((Value.slice A114 ((ys ++ (((((y.id.1 ++ [47]) ++ y.id.2) ++ [58]) ++ (Lib.decDigits y.why.toNat)) ++ [32])).length) c115)).ownBlock = some i → ((Value.slice A70 (((sortK K).map KeptM.id).length) c71)).ownBlock = some i → False := fun i hi hs => oo127 i hs hi
   replace K87 := K87.trans K117 (U := none_) (fun i h1 h2 => h2) (fun i h1 h2 => by have h2 : i = b1 ∨ ((Value.slice BA ys.length Bc)).ownBlock = some i := h2; rcases h2 with h2 | h2; (exfalso; omega); (exfalso; have := (World.ownsRow.lt hOB i h2).1; omega))
   replace H88 := H88.keep K117 (by intro h; change b = b1 ∨ ((Value.slice BA ys.length Bc)).ownBlock = some b at h; rcases h with h | h; (omega); (have := obBb b h; omega))
   replace H89 := H89.keep K117 (by intro h; change mb = b1 ∨ ((Value.slice BA ys.length Bc)).ownBlock = some mb at h; rcases h with h | h; (omega); (have := obBmb mb h; omega))
   replace H90 := H90.keep K117 (by intro h; change kb = b1 ∨ ((Value.slice BA ys.length Bc)).ownBlock = some kb at h; rcases h with h | h; (omega); (have := obBkb kb h; omega))
   replace H91 := H91.keep K117 (by intro h; change tb = b1 ∨ ((Value.slice BA ys.length Bc)).ownBlock = some tb at h; rcases h with h | h; (omega); (have := obBtb tb h; omega))
   replace H107 := H107.keep K117 (by intro h; change b98 = b1 ∨ ((Value.slice BA ys.length Bc)).ownBlock = some b98 at h; rcases h with h | h; (omega); (have := ob105 b98 h; omega))
   replace hON := own_keep hON K117 (fun i hi hs => by have hs : i = b1 ∨ ((Value.slice BA ys.length Bc)).ownBlock = some i := hs; rcases hs with hs | hs; (have := obNb1 i hi; omega); (exact ooBN i hi hs))
   clear hOB
   refine ⟨_, _, rfl, rfl, (K117.mono (fun i _ h => by have h : i = b1 ∨ ((Value.slice BA ys.length Bc)).ownBlock = some i := h; show ((Value.slice BA ys.length Bc)).ownBlock = some i ∨ i = b1; rcases h with h | h; (exact (.inr h)); (exact (.inl h)))), ?_⟩
   refine Dr.strong (S' := (fun wz => Keeps (fun i => ((Value.slice BA ys.length Bc)).ownBlock = some i ∨ i = b1) w116 wz)) ((Keeps.refl w116).mono (fun _ _ h => h.elim)) (fun wz hx => K117.trans hx (fun i _ h => by have h : i = b1 ∨ ((Value.slice BA ys.length Bc)).ownBlock = some i := h; show ((Value.slice BA ys.length Bc)).ownBlock = some i ∨ i = b1; rcases h with h | h; (exact (.inr h)); (exact (.inl h))) (fun _ _ h => h)) ?_
   clear K117
   refine Dr.done (by kernel_rfl) ?_
   refine qg ?_
   refine og 1 [(0, (ptr b)), (2, (Value.string (str ([] : List UInt8)))), (3, (ptr b1)), (8, (ptr b98)), (34, (Value.slice A70 (((sortK K).map KeptM.id).length) c71)), (35, (i64 ((((sortK K).map KeptM.id).length : Nat) : Int))), (36, (i64 ((j : Nat) : Int))), (37, (Value.bool true)), (58, (i64 (IntKind.i64.wrap (((j : Nat) : Int) + 1))))] 1 ?_
   have e129 : IntKind.i64.wrap (((j : Nat) : Int) + 1) = ((j + 1 : Nat) : Int) := by rw [wrap_i64 (by omega) (by omega)]; omega
   rw [e129]
   clear e129
   refine og 1 [(0, (ptr b)), (2, (Value.string (str ([] : List UInt8)))), (3, (ptr b1)), (8, (ptr b98)), (34, (Value.slice A70 (((sortK K).map KeptM.id).length) c71)), (35, (i64 ((((sortK K).map KeptM.id).length : Nat) : Int))), (36, (i64 ((j + 1 : Nat) : Int))), (37, (Value.bool true))] 2 ?_
   refine Ops.keep (R := [(0, (ptr b)), (2, (Value.string (str ([] : List UInt8)))), (3, (ptr b1)), (34, (Value.slice A70 (((sortK K).map KeptM.id).length) c71)), (35, (i64 ((((sortK K).map KeptM.id).length : Nat) : Int))), (36, (i64 ((j + 1 : Nat) : Int)))]) (by kernel_rfl) ?_
   refine od ?_
   exact ⟨(ptr b1, A114, c115, ys ++ (((((y.id.1 ++ [47]) ++ y.id.2) ++ [58]) ++ (Lib.decDigits y.why.toNat)) ++ [32]), j + 1), ⟨rfl, hON, obNb, obNmb, obNkb, obNtb, obNb1, oo128, hO119, ob121, ob122, ob123, ob124, ob125, oo127, (.inr rfl), (by omega), (by rw [flatM_take hy, ← List.append_assoc (S.flatMap rowT), ← hE]; rfl), K87, H88, H89, H90, H91, H118⟩, (show ((sortK K).map KeptM.id).length - (j + 1) < ((sortK K).map KeptM.id).length - j from by omega)⟩
  ·rw [h93]
   have p130 : ¬ (((j : Nat) : Int) < ((((sortK K).map KeptM.id).length : Nat) : Int)) := of_decide_eq_false h93
   refine q_exit (id := 2) (by kernel_rfl) ?_
   refine qs ?_
   refine qg ?_
   refine Ops.call (by kernel_rfl) (d := (some 59)) (by kernel_rfl) (BStr_calls _ b1 p (Value.slice BA ys.length Bc) ys hp H92 (own_base hOB (by omega)) obBb1) ?_
   rintro _ w133 ⟨rfl, K132⟩
   have K134 := K87
   replace K134 := K134.trans K132 (U := none_) (fun _ _ h => h) (fun i h1 h2 => by have h2 : b1 ≤ i := h2; exfalso; omega)
   have K131 := Keeps.refl w133
   refine ⟨_, _, rfl, rfl, ?_⟩
   replace K134 := K134.trans K131 (U := none_) (fun i h1 h2 => h2) (fun i h1 h2 => by exact h2)
   clear K131
   refine og 1 [(2, (Value.string (str ys)))] 2 ?_
   refine od ?_
   refine q_ret (by kernel_rfl) ?_
   refine ⟨(Value.string (str ys)), retv_tmp rfl rfl, ?_⟩
   have e : ys = textE S K := by rw [hE, List.take_of_length_le (by omega)]; rfl
   exact ⟨by rw [e], K134⟩
end Go.Proofs.YtnfeemhpoaflfaaGreatDoor
namespace Go.Q
open Go.RowKit
abbrev ann_ : List UInt8 := [97, 110, 110]
abbrev ko1 : Opm := ⟨1, [97, 110, 110], [], 0, [107, 49], 0, 0⟩
abbrev ko2 : Opm := ⟨2, [97, 110, 110], [], 5, [107, 50], 0, 0⟩
abbrev ko4 : Opm := ⟨2, [97, 110, 110], [], 6, [107, 50], 0, 0⟩
abbrev ko5 : Opm := ⟨4, [97, 110, 110], [98, 111, 98], 5, [107, 51], 0, 0⟩
abbrev kA : List RowM := [⟨[97, 110, 110], 0⟩]
abbrev kB : List RowM := [⟨[97, 110, 110], 5⟩]
theorem ks1 : doR [] [] ko1 = ⟨0, 0, []⟩ ∧ doS [] [] ko1 = kA ∧ doK [] [] ko1 = [⟨ko1, 0⟩] := do_fresh (S := []) (K := []) (o := ko1) (by decide) (by decide) (by decide) (by decide) rfl
theorem ks2 : doR kA [⟨ko1, 0⟩] ko2 = ⟨0, 0, []⟩ ∧ doS kA [⟨ko1, 0⟩] ko2 = kB ∧ doK kA [⟨ko1, 0⟩] ko2 = [⟨ko1, 0⟩, ⟨ko2, 0⟩] := do_fresh (S := kA) (K := [⟨ko1, 0⟩]) (o := ko2) (by decide) (by decide) (by decide) (by decide) rfl
theorem ks3 : doR kB [⟨ko1, 0⟩, ⟨ko2, 0⟩] ko2 = ⟨0, 0, []⟩ ∧ doS kB [⟨ko1, 0⟩, ⟨ko2, 0⟩] ko2 = kB ∧ doK kB [⟨ko1, 0⟩, ⟨ko2, 0⟩] ko2 = [⟨ko1, 0⟩, ⟨ko2, 0⟩] := do_again (S := kB) (K := [⟨ko1, 0⟩, ⟨ko2, 0⟩]) (o := ko2) (k := ⟨ko2, 0⟩) (by decide) (by decide) (by decide) (by decide) rfl ((opEq_iff _ _).2 rfl)
theorem ks4 : doR kB [⟨ko1, 0⟩, ⟨ko2, 0⟩] ko4 = ⟨45, 0, []⟩ ∧ doS kB [⟨ko1, 0⟩, ⟨ko2, 0⟩] ko4 = kB ∧ doK kB [⟨ko1, 0⟩, ⟨ko2, 0⟩] ko4 = [⟨ko1, 0⟩, ⟨ko2, 0⟩] :=
  do_other (S := kB) (K := [⟨ko1, 0⟩, ⟨ko2, 0⟩]) (o := ko4) (k := ⟨ko2, 0⟩) (by decide) (by decide) (by decide) (by decide) rfl (by rw [← Bool.not_eq_true, opEq_iff]; intro h; have := congrArg Opm.amount h; revert this; decide)
theorem ks5 : doR kB [⟨ko1, 0⟩, ⟨ko2, 0⟩] ko5 = ⟨40, 0, []⟩ ∧ doS kB [⟨ko1, 0⟩, ⟨ko2, 0⟩] ko5 = kB ∧ doK kB [⟨ko1, 0⟩, ⟨ko2, 0⟩] ko5 = [⟨ko1, 0⟩, ⟨ko2, 0⟩, ⟨ko5, 40⟩] := do_fresh (S := kB) (K := [⟨ko1, 0⟩, ⟨ko2, 0⟩]) (o := ko5) (by decide) (by decide) (by decide) (by decide) rfl
theorem kt5 : textE kB [⟨ko1, 0⟩, ⟨ko2, 0⟩, ⟨ko5, 40⟩] = [97, 110, 110, 61, 53, 32, 97, 110, 110, 47, 107, 49, 58, 48, 32, 97, 110, 110, 47, 107, 50, 58, 48, 32, 97, 110, 110, 47, 107, 51, 58, 52, 48, 32] := by
  have hs : sortK [⟨ko1, 0⟩, ⟨ko2, 0⟩, ⟨ko5, 40⟩] = [⟨ko1, 0⟩, ⟨ko2, 0⟩, ⟨ko5, 40⟩] := rfl
  have h5 : Lib.itoa 5 = [53] := by rw [show (5 : Int) = ((5 : Nat) : Int) from rfl, Lib.itoa_nonneg, Lib.decDigits_one (by decide)]; rfl
  have d0 : Lib.decDigits 0 = [48] := by rw [Lib.decDigits_one (by decide)]; rfl
  have d40 : Lib.decDigits 40 = [52, 48] := by rw [Lib.decDigits_two (by decide) (by decide)]; rfl
  unfold textE
  rw [hs]
  simp only [List.flatMap_cons, List.flatMap_nil, rowT, keptT, idT, KeptM.id, h5, show (0 : Int).toNat = 0 from rfl, show (40 : Int).toNat = 40 from rfl, d0, d40]
  rfl
theorem doK_len (S : List RowM) (K : List KeptM) (o : Opm) : (doK S K o).length ≤ K.length + 1 := by
  unfold doK
  split
  · rw [List.length_append]; exact Nat.le_refl _
  · omega
theorem doK_pre (S : List RowM) (K : List KeptM) (o : Opm) : K <+: doK S K o := by
  unfold doK
  split
  · exact List.prefix_append _ _
  · exact List.prefix_refl _
end Go.Q
namespace Go.Proofs.YtnfeemhpoaflfaaGreatDoor
open Go.Q Go.RowKit

set_option maxHeartbeats 4000000 in
theorem known_calls (w : World) (tb : Nat) (HT : Tab Tryz.prog w tb) : Calls Tryz.prog 11 ⟨[]⟩ w (fun e w' => e = .returned (.bool true) ∧ Keeps none_ w w') := by
 have HTl := HT.lt
 have K0 : Keeps none_ w w := Keeps.refl w
 refine q_calls Tryz.func11 (by kernel_rfl) (by kernel_rfl) ?_
 refine qs ?_
 refine qg ?_
 refine og 1 [(0, (Value.bool false))] 1 ?_
 refine od ?_
 refine qs ?_
 refine qg ?_
 refine Ops.call (by kernel_rfl) (d := (some 7)) (by kernel_rfl) (New_calls _) ?_
 rintro _ w4 ⟨b1, mb2, kb3, rfl, K5, H6, Hm7, Hk8, hb9, hb10, hb11, hb12, hb13, hb14⟩
 have lb1tb : tb < b1 := by have := HT.lt; omega
 have lmb2tb : tb < mb2 := by have := HT.lt; omega
 have lkb3tb : tb < kb3 := by have := HT.lt; omega
 have nb1 : w.heap.size ≤ b1 := by have := K0.size; omega
 have nmb2 : w.heap.size ≤ mb2 := by have := K0.size; omega
 have nkb3 : w.heap.size ≤ kb3 := by have := K0.size; omega
 refine ⟨_, _, rfl, rfl, ?_⟩
 replace K0 := K0.t0 K5
 replace HT := HT.keep K5 (fun h => h)
 clear K5
 refine og 1 [(0, (Value.bool false)), (1, (ptr b1))] 2 ?_
 refine od ?_
 refine qs ?_
 refine qs ?_
 refine qg ?_
 refine og 2 [(0, (Value.bool false)), (1, (ptr b1)), (9, (Value.bool false))] 2 ?_
 refine od ?_
 refine q_else (o := .tmp 9) (by kernel_rfl) rfl ?_
 refine q_skip (by kernel_rfl) ?_
 refine qs ?_
 refine qg ?_
 refine og 2 [(0, (Value.bool false)), (1, (ptr b1)), (10, (ptr b1)), (11, (agg [(i64 1), (Value.string (str [97, 110, 110])), (Value.string ByteArray.empty), (i64 0), (Value.string (str [107, 49])), (i64 0), (i64 0)]))] 2 ?_
 refine Ops.call (by kernel_rfl) (d := (some 12)) (by kernel_rfl) (Do_calls _ b1 mb2 kb3 [] ([] : List RowM) ([] : List KeptM) (⟨1, [97, 110, 110], ([] : List UInt8), 0, [107, 49], 0, 0⟩ : Opm) H6 Hm7 Hk8 (by omega) LBook.nil (by decide) (by first | omega | decide)) ?_
 rintro _ w18 ⟨m15, A16, c17, rfl, K19, Hm20, Hk21, hB22, hO23⟩
 rw [ks1.2.2] at Hk21
 rw [ks1.2.1, ks1.2.2] at hB22
 rw [ks1.1] at hO23
 have ob27 : ∀ i, ((Value.slice A16 (([] : List RowM).length) c17)).ownBlock = some i → i ≠ tb := fun i hi => by have := (World.ownsRow.lt hO23 i hi).1; have := HT.lt; omega
 have ob28 : ∀ i, ((Value.slice A16 (([] : List RowM).length) c17)).ownBlock = some i → i ≠ b1 := fun i hi => by have := (World.ownsRow.lt hO23 i hi).1; have := H6.lt; omega
 have ob29 : ∀ i, ((Value.slice A16 (([] : List RowM).length) c17)).ownBlock = some i → i ≠ mb2 := fun i hi => by have := (World.ownsRow.lt hO23 i hi).1; have := Hm7.lt; omega
 have ob30 : ∀ i, ((Value.slice A16 (([] : List RowM).length) c17)).ownBlock = some i → i ≠ kb3 := fun i hi => by have := (World.ownsRow.lt hO23 i hi).1; have := Hk8.lt; omega
 have O24 := own_base hO23 K0.size
 clear hO23
 have hl25 := hB22.ledg.le
 refine ⟨_, _, rfl, rfl, ?_⟩
 replace K0 := K0.trans K19 (U := none_) (fun i h1 h2 => h2) (fun i h1 h2 => by have h2 : i = mb2 ∨ i = kb3 := h2; exfalso; omega)
 replace HT := HT.keep K19 (by intro h; change tb = mb2 ∨ tb = kb3 at h; omega)
 replace H6 := H6.keep K19 (by intro h; change b1 = mb2 ∨ b1 = kb3 at h; omega)
 clear K19
 rw [ks1.1]
 refine Ops.new (o := rowL [(i64 0), (i64 0), (Value.slice none 0 0)] 30) (V := fun b => (ptr b)) (by kernel_rfl) (d := (some 2)) (by kernel_rfl) (fun b => rfl) (fun b31 w32 hb33 H34 K35 hs36 => ?_)
 have lb31tb : tb < b31 := by have := HT.lt; omega
 have lb31b1 : b1 < b31 := by have := H6.lt; omega
 have lb31mb2 : mb2 < b31 := by have := Hm20.lt; omega
 have lb31kb3 : kb3 < b31 := by have := Hk21.lt; omega
 have nb31 : w.heap.size ≤ b31 := by have := K0.size; omega
 have ob37 : ∀ i, ((Value.slice A16 (([] : List RowM).length) c17)).ownBlock = some i → i < b31 := fun i hi => by have := (World.ownsRow.lt O24 i hi).2; omega
 replace K0 := K0.t0 K35
 replace HT := HT.keep K35 (fun h => h)
 replace H6 := H6.keep K35 (fun h => h)
 replace Hm20 := Hm20.keep K35 (fun h => h)
 replace Hk21 := Hk21.keep K35 (fun h => h)
 replace O24 := own_keep0 O24 K35
 clear K35 hs36
 refine Ops.put (t := 30) (b := b31) (off := 0) (v := (agg [(i64 0), (i64 0), (Value.slice A16 (([] : List RowM).length) c17)])) (ys := [(i64 0), (i64 0), (Value.slice A16 (([] : List RowM).length) c17)]) (by kernel_rfl) (by kernel_rfl) H34 (by kernel_rfl) (d := none) (by kernel_rfl) rfl (fun w38 H39 K40 => ?_)
 clear H34
 replace K0 := K0.trans K40 (U := none_) (fun i h1 h2 => h2) (fun i h1 h2 => by have h2 : i = b31 := h2; exfalso; omega)
 replace HT := HT.keep K40 (by intro h; change tb = b31 at h; omega)
 replace H6 := H6.keep K40 (by intro h; change b1 = b31 at h; omega)
 replace Hm20 := Hm20.keep K40 (by intro h; change mb2 = b31 at h; omega)
 replace Hk21 := Hk21.keep K40 (by intro h; change kb3 = b31 at h; omega)
 replace O24 := own_keep O24 K40 (fun i hi hs => by have hs : i = b31 := hs; have := ob37 i hi; omega)
 clear K40
 refine od ?_
 refine qs ?_
 refine qg ?_
 refine og 2 [(0, (Value.bool false)), (1, (ptr b1)), (2, (ptr b31)), (13, (ptr b1)), (14, (agg [(i64 2), (Value.string (str [97, 110, 110])), (Value.string ByteArray.empty), (i64 5), (Value.string (str [107, 50])), (i64 0), (i64 0)]))] 2 ?_
 refine Ops.call (by kernel_rfl) (d := (some 15)) (by kernel_rfl) (Do_calls _ b1 mb2 kb3 m15 kA ([⟨ko1, 0⟩] : List KeptM) (⟨2, [97, 110, 110], ([] : List UInt8), 5, [107, 50], 0, 0⟩ : Opm) H6 Hm20 Hk21 (by omega) hB22 (by decide) (by first | omega | decide)) ?_
 rintro _ w44 ⟨m41, A42, c43, rfl, K45, Hm46, Hk47, hB48, hO49⟩
 rw [ks2.2.2] at Hk47
 rw [ks2.2.1, ks2.2.2] at hB48
 rw [ks2.1] at hO49
 have ob53 : ∀ i, ((Value.slice A42 (([] : List RowM).length) c43)).ownBlock = some i → i ≠ tb := fun i hi => by have := (World.ownsRow.lt hO49 i hi).1; have := HT.lt; omega
 have ob54 : ∀ i, ((Value.slice A42 (([] : List RowM).length) c43)).ownBlock = some i → i ≠ b1 := fun i hi => by have := (World.ownsRow.lt hO49 i hi).1; have := H6.lt; omega
 have ob55 : ∀ i, ((Value.slice A42 (([] : List RowM).length) c43)).ownBlock = some i → i ≠ mb2 := fun i hi => by have := (World.ownsRow.lt hO49 i hi).1; have := Hm20.lt; omega
 have ob56 : ∀ i, ((Value.slice A42 (([] : List RowM).length) c43)).ownBlock = some i → i ≠ kb3 := fun i hi => by have := (World.ownsRow.lt hO49 i hi).1; have := Hk21.lt; omega
 have ob57 : ∀ i, ((Value.slice A42 (([] : List RowM).length) c43)).ownBlock = some i → i ≠ b31 := fun i hi => by have := (World.ownsRow.lt hO49 i hi).1; have := H39.lt; omega
 have oo58 : ∀ i, ((Value.slice A16 (([] : List RowM).length) c17)).ownBlock = some i → ((Value.slice A42 (([] : List RowM).length) c43)).ownBlock = some i → False := fun i hi hs => by have := (World.ownsRow.lt hO49 i hs).1; have := (World.ownsRow.lt O24 i hi).2; omega
 have oo59 : ∀ i, ((Value.slice A42 (([] : List RowM).length) c43)).ownBlock = some i → ((Value.slice A16 (([] : List RowM).length) c17)).ownBlock = some i → False := fun i hi hs => oo58 i hs hi
 have O50 := own_base hO49 K0.size
 clear hO49
 have hl51 := hB48.ledg.le
 refine ⟨_, _, rfl, rfl, ?_⟩
 replace K0 := K0.trans K45 (U := none_) (fun i h1 h2 => h2) (fun i h1 h2 => by have h2 : i = mb2 ∨ i = kb3 := h2; exfalso; omega)
 replace HT := HT.keep K45 (by intro h; change tb = mb2 ∨ tb = kb3 at h; omega)
 replace H6 := H6.keep K45 (by intro h; change b1 = mb2 ∨ b1 = kb3 at h; omega)
 replace H39 := H39.keep K45 (by intro h; change b31 = mb2 ∨ b31 = kb3 at h; omega)
 replace O24 := own_keep O24 K45 (fun i hi hs => by have hs : i = mb2 ∨ i = kb3 := hs; rcases hs with hs | hs; (have := ob29 i hi; omega); (have := ob30 i hi; omega))
 clear K45
 rw [ks2.1]
 refine Ops.new (o := rowL [(i64 0), (i64 0), (Value.slice none 0 0)] 30) (V := fun b => (ptr b)) (by kernel_rfl) (d := (some 3)) (by kernel_rfl) (fun b => rfl) (fun b60 w61 hb62 H63 K64 hs65 => ?_)
 have lb60tb : tb < b60 := by have := HT.lt; omega
 have lb60b1 : b1 < b60 := by have := H6.lt; omega
 have lb60mb2 : mb2 < b60 := by have := Hm46.lt; omega
 have lb60kb3 : kb3 < b60 := by have := Hk47.lt; omega
 have lb60b31 : b31 < b60 := by have := H39.lt; omega
 have nb60 : w.heap.size ≤ b60 := by have := K0.size; omega
 have ob66 : ∀ i, ((Value.slice A16 (([] : List RowM).length) c17)).ownBlock = some i → i < b60 := fun i hi => by have := (World.ownsRow.lt O24 i hi).2; omega
 have ob67 : ∀ i, ((Value.slice A42 (([] : List RowM).length) c43)).ownBlock = some i → i < b60 := fun i hi => by have := (World.ownsRow.lt O50 i hi).2; omega
 replace K0 := K0.t0 K64
 replace HT := HT.keep K64 (fun h => h)
 replace H6 := H6.keep K64 (fun h => h)
 replace Hm46 := Hm46.keep K64 (fun h => h)
 replace Hk47 := Hk47.keep K64 (fun h => h)
 replace H39 := H39.keep K64 (fun h => h)
 replace O24 := own_keep0 O24 K64
 replace O50 := own_keep0 O50 K64
 clear K64 hs65
 refine Ops.put (t := 30) (b := b60) (off := 0) (v := (agg [(i64 0), (i64 0), (Value.slice A42 (([] : List RowM).length) c43)])) (ys := [(i64 0), (i64 0), (Value.slice A42 (([] : List RowM).length) c43)]) (by kernel_rfl) (by kernel_rfl) H63 (by kernel_rfl) (d := none) (by kernel_rfl) rfl (fun w68 H69 K70 => ?_)
 clear H63
 replace K0 := K0.trans K70 (U := none_) (fun i h1 h2 => h2) (fun i h1 h2 => by have h2 : i = b60 := h2; exfalso; omega)
 replace HT := HT.keep K70 (by intro h; change tb = b60 at h; omega)
 replace H6 := H6.keep K70 (by intro h; change b1 = b60 at h; omega)
 replace Hm46 := Hm46.keep K70 (by intro h; change mb2 = b60 at h; omega)
 replace Hk47 := Hk47.keep K70 (by intro h; change kb3 = b60 at h; omega)
 replace H39 := H39.keep K70 (by intro h; change b31 = b60 at h; omega)
 replace O24 := own_keep O24 K70 (fun i hi hs => by have hs : i = b60 := hs; have := ob66 i hi; omega)
 replace O50 := own_keep O50 K70 (fun i hi hs => by have hs : i = b60 := hs; have := ob67 i hi; omega)
 clear K70
 refine od ?_
 refine qs ?_
 refine qg ?_
 refine og 2 [(0, (Value.bool false)), (1, (ptr b1)), (2, (ptr b31)), (3, (ptr b60)), (16, (ptr b1)), (17, (agg [(i64 2), (Value.string (str [97, 110, 110])), (Value.string ByteArray.empty), (i64 5), (Value.string (str [107, 50])), (i64 0), (i64 0)]))] 2 ?_
 refine Ops.call (by kernel_rfl) (d := (some 18)) (by kernel_rfl) (Do_calls _ b1 mb2 kb3 m41 kB ([⟨ko1, 0⟩, ⟨ko2, 0⟩] : List KeptM) (⟨2, [97, 110, 110], ([] : List UInt8), 5, [107, 50], 0, 0⟩ : Opm) H6 Hm46 Hk47 (by omega) hB48 (by decide) (by first | omega | decide)) ?_
 rintro _ w74 ⟨m71, A72, c73, rfl, K75, Hm76, Hk77, hB78, hO79⟩
 rw [ks3.2.2] at Hk77
 rw [ks3.2.1, ks3.2.2] at hB78
 rw [ks3.1] at hO79
 have ob83 : ∀ i, ((Value.slice A72 (([] : List RowM).length) c73)).ownBlock = some i → i ≠ tb := fun i hi => by have := (World.ownsRow.lt hO79 i hi).1; have := HT.lt; omega
 have ob84 : ∀ i, ((Value.slice A72 (([] : List RowM).length) c73)).ownBlock = some i → i ≠ b1 := fun i hi => by have := (World.ownsRow.lt hO79 i hi).1; have := H6.lt; omega
 have ob85 : ∀ i, ((Value.slice A72 (([] : List RowM).length) c73)).ownBlock = some i → i ≠ mb2 := fun i hi => by have := (World.ownsRow.lt hO79 i hi).1; have := Hm46.lt; omega
 have ob86 : ∀ i, ((Value.slice A72 (([] : List RowM).length) c73)).ownBlock = some i → i ≠ kb3 := fun i hi => by have := (World.ownsRow.lt hO79 i hi).1; have := Hk47.lt; omega
 have ob87 : ∀ i, ((Value.slice A72 (([] : List RowM).length) c73)).ownBlock = some i → i ≠ b31 := fun i hi => by have := (World.ownsRow.lt hO79 i hi).1; have := H39.lt; omega
 have ob88 : ∀ i, ((Value.slice A72 (([] : List RowM).length) c73)).ownBlock = some i → i ≠ b60 := fun i hi => by have := (World.ownsRow.lt hO79 i hi).1; have := H69.lt; omega
 have oo89 : ∀ i, ((Value.slice A16 (([] : List RowM).length) c17)).ownBlock = some i → ((Value.slice A72 (([] : List RowM).length) c73)).ownBlock = some i → False := fun i hi hs => by have := (World.ownsRow.lt hO79 i hs).1; have := (World.ownsRow.lt O24 i hi).2; omega
 have oo90 : ∀ i, ((Value.slice A72 (([] : List RowM).length) c73)).ownBlock = some i → ((Value.slice A16 (([] : List RowM).length) c17)).ownBlock = some i → False := fun i hi hs => oo89 i hs hi
 have oo91 : ∀ i, ((Value.slice A42 (([] : List RowM).length) c43)).ownBlock = some i → ((Value.slice A72 (([] : List RowM).length) c73)).ownBlock = some i → False := fun i hi hs => by have := (World.ownsRow.lt hO79 i hs).1; have := (World.ownsRow.lt O50 i hi).2; omega
 have oo92 : ∀ i, ((Value.slice A72 (([] : List RowM).length) c73)).ownBlock = some i → ((Value.slice A42 (([] : List RowM).length) c43)).ownBlock = some i → False := fun i hi hs => oo91 i hs hi
 have O80 := own_base hO79 K0.size
 clear hO79
 have hl81 := hB78.ledg.le
 refine ⟨_, _, rfl, rfl, ?_⟩
 replace K0 := K0.trans K75 (U := none_) (fun i h1 h2 => h2) (fun i h1 h2 => by have h2 : i = mb2 ∨ i = kb3 := h2; exfalso; omega)
 replace HT := HT.keep K75 (by intro h; change tb = mb2 ∨ tb = kb3 at h; omega)
 replace H6 := H6.keep K75 (by intro h; change b1 = mb2 ∨ b1 = kb3 at h; omega)
 replace H39 := H39.keep K75 (by intro h; change b31 = mb2 ∨ b31 = kb3 at h; omega)
 replace H69 := H69.keep K75 (by intro h; change b60 = mb2 ∨ b60 = kb3 at h; omega)
 replace O24 := own_keep O24 K75 (fun i hi hs => by have hs : i = mb2 ∨ i = kb3 := hs; rcases hs with hs | hs; (have := ob29 i hi; omega); (have := ob30 i hi; omega))
 replace O50 := own_keep O50 K75 (fun i hi hs => by have hs : i = mb2 ∨ i = kb3 := hs; rcases hs with hs | hs; (have := ob55 i hi; omega); (have := ob56 i hi; omega))
 clear K75
 rw [ks3.1]
 refine Ops.new (o := rowL [(i64 0), (i64 0), (Value.slice none 0 0)] 30) (V := fun b => (ptr b)) (by kernel_rfl) (d := (some 4)) (by kernel_rfl) (fun b => rfl) (fun b93 w94 hb95 H96 K97 hs98 => ?_)
 have lb93tb : tb < b93 := by have := HT.lt; omega
 have lb93b1 : b1 < b93 := by have := H6.lt; omega
 have lb93mb2 : mb2 < b93 := by have := Hm76.lt; omega
 have lb93kb3 : kb3 < b93 := by have := Hk77.lt; omega
 have lb93b31 : b31 < b93 := by have := H39.lt; omega
 have lb93b60 : b60 < b93 := by have := H69.lt; omega
 have nb93 : w.heap.size ≤ b93 := by have := K0.size; omega
 have ob99 : ∀ i, ((Value.slice A16 (([] : List RowM).length) c17)).ownBlock = some i → i < b93 := fun i hi => by have := (World.ownsRow.lt O24 i hi).2; omega
 have ob100 : ∀ i, ((Value.slice A42 (([] : List RowM).length) c43)).ownBlock = some i → i < b93 := fun i hi => by have := (World.ownsRow.lt O50 i hi).2; omega
 have ob101 : ∀ i, ((Value.slice A72 (([] : List RowM).length) c73)).ownBlock = some i → i < b93 := fun i hi => by have := (World.ownsRow.lt O80 i hi).2; omega
 replace K0 := K0.t0 K97
 replace HT := HT.keep K97 (fun h => h)
 replace H6 := H6.keep K97 (fun h => h)
 replace Hm76 := Hm76.keep K97 (fun h => h)
 replace Hk77 := Hk77.keep K97 (fun h => h)
 replace H39 := H39.keep K97 (fun h => h)
 replace H69 := H69.keep K97 (fun h => h)
 replace O24 := own_keep0 O24 K97
 replace O50 := own_keep0 O50 K97
 replace O80 := own_keep0 O80 K97
 clear K97 hs98
 refine Ops.put (t := 30) (b := b93) (off := 0) (v := (agg [(i64 0), (i64 0), (Value.slice A72 (([] : List RowM).length) c73)])) (ys := [(i64 0), (i64 0), (Value.slice A72 (([] : List RowM).length) c73)]) (by kernel_rfl) (by kernel_rfl) H96 (by kernel_rfl) (d := none) (by kernel_rfl) rfl (fun w102 H103 K104 => ?_)
 clear H96
 replace K0 := K0.trans K104 (U := none_) (fun i h1 h2 => h2) (fun i h1 h2 => by have h2 : i = b93 := h2; exfalso; omega)
 replace HT := HT.keep K104 (by intro h; change tb = b93 at h; omega)
 replace H6 := H6.keep K104 (by intro h; change b1 = b93 at h; omega)
 replace Hm76 := Hm76.keep K104 (by intro h; change mb2 = b93 at h; omega)
 replace Hk77 := Hk77.keep K104 (by intro h; change kb3 = b93 at h; omega)
 replace H39 := H39.keep K104 (by intro h; change b31 = b93 at h; omega)
 replace H69 := H69.keep K104 (by intro h; change b60 = b93 at h; omega)
 replace O24 := own_keep O24 K104 (fun i hi hs => by have hs : i = b93 := hs; have := ob99 i hi; omega)
 replace O50 := own_keep O50 K104 (fun i hi hs => by have hs : i = b93 := hs; have := ob100 i hi; omega)
 replace O80 := own_keep O80 K104 (fun i hi hs => by have hs : i = b93 := hs; have := ob101 i hi; omega)
 clear K104
 refine od ?_
 refine qs ?_
 refine qg ?_
 refine og 2 [(0, (Value.bool false)), (1, (ptr b1)), (2, (ptr b31)), (3, (ptr b60)), (4, (ptr b93)), (19, (ptr b1)), (20, (agg [(i64 2), (Value.string (str [97, 110, 110])), (Value.string ByteArray.empty), (i64 6), (Value.string (str [107, 50])), (i64 0), (i64 0)]))] 2 ?_
 refine Ops.call (by kernel_rfl) (d := (some 21)) (by kernel_rfl) (Do_calls _ b1 mb2 kb3 m71 kB ([⟨ko1, 0⟩, ⟨ko2, 0⟩] : List KeptM) (⟨2, [97, 110, 110], ([] : List UInt8), 6, [107, 50], 0, 0⟩ : Opm) H6 Hm76 Hk77 (by omega) hB78 (by decide) (by first | omega | decide)) ?_
 rintro _ w108 ⟨m105, A106, c107, rfl, K109, Hm110, Hk111, hB112, hO113⟩
 rw [ks4.2.2] at Hk111
 rw [ks4.2.1, ks4.2.2] at hB112
 rw [ks4.1] at hO113
 have ob117 : ∀ i, ((Value.slice A106 (([] : List RowM).length) c107)).ownBlock = some i → i ≠ tb := fun i hi => by have := (World.ownsRow.lt hO113 i hi).1; have := HT.lt; omega
 have ob118 : ∀ i, ((Value.slice A106 (([] : List RowM).length) c107)).ownBlock = some i → i ≠ b1 := fun i hi => by have := (World.ownsRow.lt hO113 i hi).1; have := H6.lt; omega
 have ob119 : ∀ i, ((Value.slice A106 (([] : List RowM).length) c107)).ownBlock = some i → i ≠ mb2 := fun i hi => by have := (World.ownsRow.lt hO113 i hi).1; have := Hm76.lt; omega
 have ob120 : ∀ i, ((Value.slice A106 (([] : List RowM).length) c107)).ownBlock = some i → i ≠ kb3 := fun i hi => by have := (World.ownsRow.lt hO113 i hi).1; have := Hk77.lt; omega
 have ob121 : ∀ i, ((Value.slice A106 (([] : List RowM).length) c107)).ownBlock = some i → i ≠ b31 := fun i hi => by have := (World.ownsRow.lt hO113 i hi).1; have := H39.lt; omega
 have ob122 : ∀ i, ((Value.slice A106 (([] : List RowM).length) c107)).ownBlock = some i → i ≠ b60 := fun i hi => by have := (World.ownsRow.lt hO113 i hi).1; have := H69.lt; omega
 have ob123 : ∀ i, ((Value.slice A106 (([] : List RowM).length) c107)).ownBlock = some i → i ≠ b93 := fun i hi => by have := (World.ownsRow.lt hO113 i hi).1; have := H103.lt; omega
 have oo124 : ∀ i, ((Value.slice A16 (([] : List RowM).length) c17)).ownBlock = some i → ((Value.slice A106 (([] : List RowM).length) c107)).ownBlock = some i → False := fun i hi hs => by have := (World.ownsRow.lt hO113 i hs).1; have := (World.ownsRow.lt O24 i hi).2; omega
 have oo125 : ∀ i, ((Value.slice A106 (([] : List RowM).length) c107)).ownBlock = some i → ((Value.slice A16 (([] : List RowM).length) c17)).ownBlock = some i → False := fun i hi hs => oo124 i hs hi
 have oo126 : ∀ i, ((Value.slice A42 (([] : List RowM).length) c43)).ownBlock = some i → ((Value.slice A106 (([] : List RowM).length) c107)).ownBlock = some i → False := fun i hi hs => by have := (World.ownsRow.lt hO113 i hs).1; have := (World.ownsRow.lt O50 i hi).2; omega
 have oo127 : ∀ i, ((Value.slice A106 (([] : List RowM).length) c107)).ownBlock = some i → ((Value.slice A42 (([] : List RowM).length) c43)).ownBlock = some i → False := fun i hi hs => oo126 i hs hi
 have oo128 : ∀ i, ((Value.slice A72 (([] : List RowM).length) c73)).ownBlock = some i → ((Value.slice A106 (([] : List RowM).length) c107)).ownBlock = some i → False := fun i hi hs => by have := (World.ownsRow.lt hO113 i hs).1; have := (World.ownsRow.lt O80 i hi).2; omega
 have oo129 : ∀ i, ((Value.slice A106 (([] : List RowM).length) c107)).ownBlock = some i → ((Value.slice A72 (([] : List RowM).length) c73)).ownBlock = some i → False := fun i hi hs => oo128 i hs hi
 have O114 := own_base hO113 K0.size
 clear hO113
 have hl115 := hB112.ledg.le
 refine ⟨_, _, rfl, rfl, ?_⟩
 replace K0 := K0.trans K109 (U := none_) (fun i h1 h2 => h2) (fun i h1 h2 => by have h2 : i = mb2 ∨ i = kb3 := h2; exfalso; omega)
 replace HT := HT.keep K109 (by intro h; change tb = mb2 ∨ tb = kb3 at h; omega)
 replace H6 := H6.keep K109 (by intro h; change b1 = mb2 ∨ b1 = kb3 at h; omega)
 replace H39 := H39.keep K109 (by intro h; change b31 = mb2 ∨ b31 = kb3 at h; omega)
 replace H69 := H69.keep K109 (by intro h; change b60 = mb2 ∨ b60 = kb3 at h; omega)
 replace H103 := H103.keep K109 (by intro h; change b93 = mb2 ∨ b93 = kb3 at h; omega)
 replace O24 := own_keep O24 K109 (fun i hi hs => by have hs : i = mb2 ∨ i = kb3 := hs; rcases hs with hs | hs; (have := ob29 i hi; omega); (have := ob30 i hi; omega))
 replace O50 := own_keep O50 K109 (fun i hi hs => by have hs : i = mb2 ∨ i = kb3 := hs; rcases hs with hs | hs; (have := ob55 i hi; omega); (have := ob56 i hi; omega))
 replace O80 := own_keep O80 K109 (fun i hi hs => by have hs : i = mb2 ∨ i = kb3 := hs; rcases hs with hs | hs; (have := ob85 i hi; omega); (have := ob86 i hi; omega))
 clear K109
 rw [ks4.1]
 refine Ops.new (o := rowL [(i64 0), (i64 0), (Value.slice none 0 0)] 30) (V := fun b => (ptr b)) (by kernel_rfl) (d := (some 5)) (by kernel_rfl) (fun b => rfl) (fun b130 w131 hb132 H133 K134 hs135 => ?_)
 have lb130tb : tb < b130 := by have := HT.lt; omega
 have lb130b1 : b1 < b130 := by have := H6.lt; omega
 have lb130mb2 : mb2 < b130 := by have := Hm110.lt; omega
 have lb130kb3 : kb3 < b130 := by have := Hk111.lt; omega
 have lb130b31 : b31 < b130 := by have := H39.lt; omega
 have lb130b60 : b60 < b130 := by have := H69.lt; omega
 have lb130b93 : b93 < b130 := by have := H103.lt; omega
 have nb130 : w.heap.size ≤ b130 := by have := K0.size; omega
 have ob136 : ∀ i, ((Value.slice A16 (([] : List RowM).length) c17)).ownBlock = some i → i < b130 := fun i hi => by have := (World.ownsRow.lt O24 i hi).2; omega
 have ob137 : ∀ i, ((Value.slice A42 (([] : List RowM).length) c43)).ownBlock = some i → i < b130 := fun i hi => by have := (World.ownsRow.lt O50 i hi).2; omega
 have ob138 : ∀ i, ((Value.slice A72 (([] : List RowM).length) c73)).ownBlock = some i → i < b130 := fun i hi => by have := (World.ownsRow.lt O80 i hi).2; omega
 have ob139 : ∀ i, ((Value.slice A106 (([] : List RowM).length) c107)).ownBlock = some i → i < b130 := fun i hi => by have := (World.ownsRow.lt O114 i hi).2; omega
 replace K0 := K0.t0 K134
 replace HT := HT.keep K134 (fun h => h)
 replace H6 := H6.keep K134 (fun h => h)
 replace Hm110 := Hm110.keep K134 (fun h => h)
 replace Hk111 := Hk111.keep K134 (fun h => h)
 replace H39 := H39.keep K134 (fun h => h)
 replace H69 := H69.keep K134 (fun h => h)
 replace H103 := H103.keep K134 (fun h => h)
 replace O24 := own_keep0 O24 K134
 replace O50 := own_keep0 O50 K134
 replace O80 := own_keep0 O80 K134
 replace O114 := own_keep0 O114 K134
 clear K134 hs135
 refine Ops.put (t := 30) (b := b130) (off := 0) (v := (agg [(i64 45), (i64 0), (Value.slice A106 (([] : List RowM).length) c107)])) (ys := [(i64 45), (i64 0), (Value.slice A106 (([] : List RowM).length) c107)]) (by kernel_rfl) (by kernel_rfl) H133 (by kernel_rfl) (d := none) (by kernel_rfl) rfl (fun w140 H141 K142 => ?_)
 clear H133
 replace K0 := K0.trans K142 (U := none_) (fun i h1 h2 => h2) (fun i h1 h2 => by have h2 : i = b130 := h2; exfalso; omega)
 replace HT := HT.keep K142 (by intro h; change tb = b130 at h; omega)
 replace H6 := H6.keep K142 (by intro h; change b1 = b130 at h; omega)
 replace Hm110 := Hm110.keep K142 (by intro h; change mb2 = b130 at h; omega)
 replace Hk111 := Hk111.keep K142 (by intro h; change kb3 = b130 at h; omega)
 replace H39 := H39.keep K142 (by intro h; change b31 = b130 at h; omega)
 replace H69 := H69.keep K142 (by intro h; change b60 = b130 at h; omega)
 replace H103 := H103.keep K142 (by intro h; change b93 = b130 at h; omega)
 replace O24 := own_keep O24 K142 (fun i hi hs => by have hs : i = b130 := hs; have := ob136 i hi; omega)
 replace O50 := own_keep O50 K142 (fun i hi hs => by have hs : i = b130 := hs; have := ob137 i hi; omega)
 replace O80 := own_keep O80 K142 (fun i hi hs => by have hs : i = b130 := hs; have := ob138 i hi; omega)
 replace O114 := own_keep O114 K142 (fun i hi hs => by have hs : i = b130 := hs; have := ob139 i hi; omega)
 clear K142
 refine od ?_
 refine qs ?_
 refine qg ?_
 refine og 2 [(0, (Value.bool false)), (1, (ptr b1)), (2, (ptr b31)), (3, (ptr b60)), (4, (ptr b93)), (5, (ptr b130)), (22, (ptr b1)), (23, (agg [(i64 4), (Value.string (str [97, 110, 110])), (Value.string (str [98, 111, 98])), (i64 5), (Value.string (str [107, 51])), (i64 0), (i64 0)]))] 2 ?_
 refine Ops.call (by kernel_rfl) (d := (some 24)) (by kernel_rfl) (Do_calls _ b1 mb2 kb3 m105 kB ([⟨ko1, 0⟩, ⟨ko2, 0⟩] : List KeptM) (⟨4, [97, 110, 110], [98, 111, 98], 5, [107, 51], 0, 0⟩ : Opm) H6 Hm110 Hk111 (by omega) hB112 (by decide) (by first | omega | decide)) ?_
 rintro _ w146 ⟨m143, A144, c145, rfl, K147, Hm148, Hk149, hB150, hO151⟩
 rw [ks5.2.2] at Hk149
 rw [ks5.2.1, ks5.2.2] at hB150
 rw [ks5.1] at hO151
 have ob155 : ∀ i, ((Value.slice A144 (([] : List RowM).length) c145)).ownBlock = some i → i ≠ tb := fun i hi => by have := (World.ownsRow.lt hO151 i hi).1; have := HT.lt; omega
 have ob156 : ∀ i, ((Value.slice A144 (([] : List RowM).length) c145)).ownBlock = some i → i ≠ b1 := fun i hi => by have := (World.ownsRow.lt hO151 i hi).1; have := H6.lt; omega
 have ob157 : ∀ i, ((Value.slice A144 (([] : List RowM).length) c145)).ownBlock = some i → i ≠ mb2 := fun i hi => by have := (World.ownsRow.lt hO151 i hi).1; have := Hm110.lt; omega
 have ob158 : ∀ i, ((Value.slice A144 (([] : List RowM).length) c145)).ownBlock = some i → i ≠ kb3 := fun i hi => by have := (World.ownsRow.lt hO151 i hi).1; have := Hk111.lt; omega
 have ob159 : ∀ i, ((Value.slice A144 (([] : List RowM).length) c145)).ownBlock = some i → i ≠ b31 := fun i hi => by have := (World.ownsRow.lt hO151 i hi).1; have := H39.lt; omega
 have ob160 : ∀ i, ((Value.slice A144 (([] : List RowM).length) c145)).ownBlock = some i → i ≠ b60 := fun i hi => by have := (World.ownsRow.lt hO151 i hi).1; have := H69.lt; omega
 have ob161 : ∀ i, ((Value.slice A144 (([] : List RowM).length) c145)).ownBlock = some i → i ≠ b93 := fun i hi => by have := (World.ownsRow.lt hO151 i hi).1; have := H103.lt; omega
 have ob162 : ∀ i, ((Value.slice A144 (([] : List RowM).length) c145)).ownBlock = some i → i ≠ b130 := fun i hi => by have := (World.ownsRow.lt hO151 i hi).1; have := H141.lt; omega
 have oo163 : ∀ i, ((Value.slice A16 (([] : List RowM).length) c17)).ownBlock = some i → ((Value.slice A144 (([] : List RowM).length) c145)).ownBlock = some i → False := fun i hi hs => by have := (World.ownsRow.lt hO151 i hs).1; have := (World.ownsRow.lt O24 i hi).2; omega
 have oo164 : ∀ i, ((Value.slice A144 (([] : List RowM).length) c145)).ownBlock = some i → ((Value.slice A16 (([] : List RowM).length) c17)).ownBlock = some i → False := fun i hi hs => oo163 i hs hi
 have oo165 : ∀ i, ((Value.slice A42 (([] : List RowM).length) c43)).ownBlock = some i → ((Value.slice A144 (([] : List RowM).length) c145)).ownBlock = some i → False := fun i hi hs => by have := (World.ownsRow.lt hO151 i hs).1; have := (World.ownsRow.lt O50 i hi).2; omega
 have oo166 : ∀ i, ((Value.slice A144 (([] : List RowM).length) c145)).ownBlock = some i → ((Value.slice A42 (([] : List RowM).length) c43)).ownBlock = some i → False := fun i hi hs => oo165 i hs hi
 have oo167 : ∀ i, ((Value.slice A72 (([] : List RowM).length) c73)).ownBlock = some i → ((Value.slice A144 (([] : List RowM).length) c145)).ownBlock = some i → False := fun i hi hs => by have := (World.ownsRow.lt hO151 i hs).1; have := (World.ownsRow.lt O80 i hi).2; omega
 have oo168 : ∀ i, ((Value.slice A144 (([] : List RowM).length) c145)).ownBlock = some i → ((Value.slice A72 (([] : List RowM).length) c73)).ownBlock = some i → False := fun i hi hs => oo167 i hs hi
 have oo169 : ∀ i, ((Value.slice A106 (([] : List RowM).length) c107)).ownBlock = some i → ((Value.slice A144 (([] : List RowM).length) c145)).ownBlock = some i → False := fun i hi hs => by have := (World.ownsRow.lt hO151 i hs).1; have := (World.ownsRow.lt O114 i hi).2; omega
 have oo170 : ∀ i, ((Value.slice A144 (([] : List RowM).length) c145)).ownBlock = some i → ((Value.slice A106 (([] : List RowM).length) c107)).ownBlock = some i → False := fun i hi hs => oo169 i hs hi
 have O152 := own_base hO151 K0.size
 clear hO151
 have hl153 := hB150.ledg.le
 refine ⟨_, _, rfl, rfl, ?_⟩
 replace K0 := K0.trans K147 (U := none_) (fun i h1 h2 => h2) (fun i h1 h2 => by have h2 : i = mb2 ∨ i = kb3 := h2; exfalso; omega)
 replace HT := HT.keep K147 (by intro h; change tb = mb2 ∨ tb = kb3 at h; omega)
 replace H6 := H6.keep K147 (by intro h; change b1 = mb2 ∨ b1 = kb3 at h; omega)
 replace H39 := H39.keep K147 (by intro h; change b31 = mb2 ∨ b31 = kb3 at h; omega)
 replace H69 := H69.keep K147 (by intro h; change b60 = mb2 ∨ b60 = kb3 at h; omega)
 replace H103 := H103.keep K147 (by intro h; change b93 = mb2 ∨ b93 = kb3 at h; omega)
 replace H141 := H141.keep K147 (by intro h; change b130 = mb2 ∨ b130 = kb3 at h; omega)
 replace O24 := own_keep O24 K147 (fun i hi hs => by have hs : i = mb2 ∨ i = kb3 := hs; rcases hs with hs | hs; (have := ob29 i hi; omega); (have := ob30 i hi; omega))
 replace O50 := own_keep O50 K147 (fun i hi hs => by have hs : i = mb2 ∨ i = kb3 := hs; rcases hs with hs | hs; (have := ob55 i hi; omega); (have := ob56 i hi; omega))
 replace O80 := own_keep O80 K147 (fun i hi hs => by have hs : i = mb2 ∨ i = kb3 := hs; rcases hs with hs | hs; (have := ob85 i hi; omega); (have := ob86 i hi; omega))
 replace O114 := own_keep O114 K147 (fun i hi hs => by have hs : i = mb2 ∨ i = kb3 := hs; rcases hs with hs | hs; (have := ob119 i hi; omega); (have := ob120 i hi; omega))
 clear K147
 rw [ks5.1]
 refine Ops.new (o := rowL [(i64 0), (i64 0), (Value.slice none 0 0)] 30) (V := fun b => (ptr b)) (by kernel_rfl) (d := (some 6)) (by kernel_rfl) (fun b => rfl) (fun b171 w172 hb173 H174 K175 hs176 => ?_)
 have lb171tb : tb < b171 := by have := HT.lt; omega
 have lb171b1 : b1 < b171 := by have := H6.lt; omega
 have lb171mb2 : mb2 < b171 := by have := Hm148.lt; omega
 have lb171kb3 : kb3 < b171 := by have := Hk149.lt; omega
 have lb171b31 : b31 < b171 := by have := H39.lt; omega
 have lb171b60 : b60 < b171 := by have := H69.lt; omega
 have lb171b93 : b93 < b171 := by have := H103.lt; omega
 have lb171b130 : b130 < b171 := by have := H141.lt; omega
 have nb171 : w.heap.size ≤ b171 := by have := K0.size; omega
 have ob177 : ∀ i, ((Value.slice A16 (([] : List RowM).length) c17)).ownBlock = some i → i < b171 := fun i hi => by have := (World.ownsRow.lt O24 i hi).2; omega
 have ob178 : ∀ i, ((Value.slice A42 (([] : List RowM).length) c43)).ownBlock = some i → i < b171 := fun i hi => by have := (World.ownsRow.lt O50 i hi).2; omega
 have ob179 : ∀ i, ((Value.slice A72 (([] : List RowM).length) c73)).ownBlock = some i → i < b171 := fun i hi => by have := (World.ownsRow.lt O80 i hi).2; omega
 have ob180 : ∀ i, ((Value.slice A106 (([] : List RowM).length) c107)).ownBlock = some i → i < b171 := fun i hi => by have := (World.ownsRow.lt O114 i hi).2; omega
 have ob181 : ∀ i, ((Value.slice A144 (([] : List RowM).length) c145)).ownBlock = some i → i < b171 := fun i hi => by have := (World.ownsRow.lt O152 i hi).2; omega
 replace K0 := K0.t0 K175
 replace HT := HT.keep K175 (fun h => h)
 replace H6 := H6.keep K175 (fun h => h)
 replace Hm148 := Hm148.keep K175 (fun h => h)
 replace Hk149 := Hk149.keep K175 (fun h => h)
 replace H39 := H39.keep K175 (fun h => h)
 replace H69 := H69.keep K175 (fun h => h)
 replace H103 := H103.keep K175 (fun h => h)
 replace H141 := H141.keep K175 (fun h => h)
 replace O24 := own_keep0 O24 K175
 replace O50 := own_keep0 O50 K175
 replace O80 := own_keep0 O80 K175
 replace O114 := own_keep0 O114 K175
 replace O152 := own_keep0 O152 K175
 clear K175 hs176
 refine Ops.put (t := 30) (b := b171) (off := 0) (v := (agg [(i64 40), (i64 0), (Value.slice A144 (([] : List RowM).length) c145)])) (ys := [(i64 40), (i64 0), (Value.slice A144 (([] : List RowM).length) c145)]) (by kernel_rfl) (by kernel_rfl) H174 (by kernel_rfl) (d := none) (by kernel_rfl) rfl (fun w182 H183 K184 => ?_)
 clear H174
 replace K0 := K0.trans K184 (U := none_) (fun i h1 h2 => h2) (fun i h1 h2 => by have h2 : i = b171 := h2; exfalso; omega)
 replace HT := HT.keep K184 (by intro h; change tb = b171 at h; omega)
 replace H6 := H6.keep K184 (by intro h; change b1 = b171 at h; omega)
 replace Hm148 := Hm148.keep K184 (by intro h; change mb2 = b171 at h; omega)
 replace Hk149 := Hk149.keep K184 (by intro h; change kb3 = b171 at h; omega)
 replace H39 := H39.keep K184 (by intro h; change b31 = b171 at h; omega)
 replace H69 := H69.keep K184 (by intro h; change b60 = b171 at h; omega)
 replace H103 := H103.keep K184 (by intro h; change b93 = b171 at h; omega)
 replace H141 := H141.keep K184 (by intro h; change b130 = b171 at h; omega)
 replace O24 := own_keep O24 K184 (fun i hi hs => by have hs : i = b171 := hs; have := ob177 i hi; omega)
 replace O50 := own_keep O50 K184 (fun i hi hs => by have hs : i = b171 := hs; have := ob178 i hi; omega)
 replace O80 := own_keep O80 K184 (fun i hi hs => by have hs : i = b171 := hs; have := ob179 i hi; omega)
 replace O114 := own_keep O114 K184 (fun i hi hs => by have hs : i = b171 := hs; have := ob180 i hi; omega)
 replace O152 := own_keep O152 K184 (fun i hi hs => by have hs : i = b171 := hs; have := ob181 i hi; omega)
 clear K184
 refine od ?_
 refine qs ?_
 refine qg ?_
 refine og 1 [(0, (Value.bool false)), (1, (ptr b1)), (3, (ptr b60)), (4, (ptr b93)), (5, (ptr b130)), (6, (ptr b171)), (25, (ptr b31))] 1 ?_
 refine Ops.go (v := (i64 0)) (by kernel_rfl) (Runs.load (t := 27) (a := ⟨b31, 0, none⟩) (by kernel_rfl) (H39.loads (by kernel_rfl))) (d := (some 26)) (by kernel_rfl) rfl ?_
 refine og 3 [(0, (Value.bool false)), (1, (ptr b1)), (4, (ptr b93)), (5, (ptr b130)), (6, (ptr b171)), (28, (Value.bool true)), (29, (ptr b60))] 5 ?_
 refine Ops.go (v := (i64 0)) (by kernel_rfl) (Runs.load (t := 27) (a := ⟨b60, 0, none⟩) (by kernel_rfl) (H69.loads (by kernel_rfl))) (d := (some 30)) (by kernel_rfl) rfl ?_
 refine og 4 [(0, (Value.bool false)), (1, (ptr b1)), (5, (ptr b130)), (6, (ptr b171)), (33, (Value.bool true)), (34, (ptr b93))] 10 ?_
 refine Ops.go (v := (i64 0)) (by kernel_rfl) (Runs.load (t := 27) (a := ⟨b93, 0, none⟩) (by kernel_rfl) (H103.loads (by kernel_rfl))) (d := (some 35)) (by kernel_rfl) rfl ?_
 refine og 4 [(0, (Value.bool false)), (1, (ptr b1)), (6, (ptr b171)), (38, (Value.bool true)), (39, (ptr b130))] 15 ?_
 refine Ops.go (v := (i64 45)) (by kernel_rfl) (Runs.load (t := 27) (a := ⟨b130, 0, none⟩) (by kernel_rfl) (H141.loads (by kernel_rfl))) (d := (some 40)) (by kernel_rfl) rfl ?_
 refine og 4 [(0, (Value.bool false)), (1, (ptr b1)), (43, (Value.bool true)), (44, (ptr b171))] 20 ?_
 refine Ops.go (v := (i64 40)) (by kernel_rfl) (Runs.load (t := 27) (a := ⟨b171, 0, none⟩) (by kernel_rfl) (H183.loads (by kernel_rfl))) (d := (some 45)) (by kernel_rfl) rfl ?_
 refine og 4 [(0, (Value.bool false)), (48, (Value.bool true)), (49, (ptr b1))] 25 ?_
 refine Ops.call (by kernel_rfl) (d := (some 50)) (by kernel_rfl) (Text_calls _ b1 mb2 kb3 m143 kB ([⟨ko1, 0⟩, ⟨ko2, 0⟩, ⟨ko5, 40⟩] : List KeptM) tb H6 Hm148 Hk149 (by omega) hB150 HT (by first | omega | decide) (by first | omega | decide)) ?_
 rintro _ w186 ⟨rfl, K185⟩
 refine ⟨_, _, rfl, rfl, ?_⟩
 replace K0 := K0.t0 K185
 replace HT := HT.keep K185 (fun h => h)
 replace H6 := H6.keep K185 (fun h => h)
 replace Hm148 := Hm148.keep K185 (fun h => h)
 replace Hk149 := Hk149.keep K185 (fun h => h)
 replace H39 := H39.keep K185 (fun h => h)
 replace H69 := H69.keep K185 (fun h => h)
 replace H103 := H103.keep K185 (fun h => h)
 replace H141 := H141.keep K185 (fun h => h)
 replace H183 := H183.keep K185 (fun h => h)
 replace O24 := own_keep0 O24 K185
 replace O50 := own_keep0 O50 K185
 replace O80 := own_keep0 O80 K185
 replace O114 := own_keep0 O114 K185
 replace O152 := own_keep0 O152 K185
 clear K185
 refine Ops.go (v := (Value.bool ((textE kB ([⟨ko1, 0⟩, ⟨ko2, 0⟩, ⟨ko5, 40⟩] : List KeptM)) == [97, 110, 110, 61, 53, 32, 97, 110, 110, 47, 107, 49, 58, 48, 32, 97, 110, 110, 47, 107, 50, 58, 48, 32, 97, 110, 110, 47, 107, 51, 58, 52, 48, 32]))) (by kernel_rfl) (Runs.streq (t := 9) (by kernel_rfl)) (d := (some 51)) (by kernel_rfl) rfl ?_
 refine og 2 [(0, (Value.bool ((textE kB ([⟨ko1, 0⟩, ⟨ko2, 0⟩, ⟨ko5, 40⟩] : List KeptM)) == [97, 110, 110, 61, 53, 32, 97, 110, 110, 47, 107, 49, 58, 48, 32, 97, 110, 110, 47, 107, 50, 58, 48, 32, 97, 110, 110, 47, 107, 51, 58, 52, 48, 32])))] 29 ?_
 refine od ?_
 refine q_ret (by kernel_rfl) ?_
 refine ⟨(Value.bool ((textE kB ([⟨ko1, 0⟩, ⟨ko2, 0⟩, ⟨ko5, 40⟩] : List KeptM)) == [97, 110, 110, 61, 53, 32, 97, 110, 110, 47, 107, 49, 58, 48, 32, 97, 110, 110, 47, 107, 50, 58, 48, 32, 97, 110, 110, 47, 107, 51, 58, 52, 48, 32])), retv_tmp rfl rfl, ?_⟩
 exact ⟨by rw [show ((textE kB ([⟨ko1, 0⟩, ⟨ko2, 0⟩, ⟨ko5, 40⟩] : List KeptM)) == [97, 110, 110, 61, 53, 32, 97, 110, 110, 47, 107, 49, 58, 48, 32, 97, 110, 110, 47, 107, 50, 58, 48, 32, 97, 110, 110, 47, 107, 51, 58, 52, 48, 32]) = true from by rw [kt5]; decide], K0⟩
end Go.Proofs.YtnfeemhpoaflfaaGreatDoor
namespace Go.Q
open Go.RowKit
theorem Opm.seven (x : Opm) : x.cells.length = 7 := rfl
theorem getM_append {κ α : Type} [DecidableEq κ] {m l : List (κ × α)} {x : κ} {a : α} (h : getM m x = some a) : getM (m ++ l) x = some a := by
  unfold getM at h ⊢
  rw [List.find?_append]
  obtain ⟨z, h1, h2⟩ := Option.map_eq_some_iff.1 h
  rw [h1]
  exact congrArg some h2
theorem findK_pre {K K' : List KeptM} (h : K <+: K') {f k : List UInt8} {x : KeptM} (hx : findK K f k = some x) : findK K' f k = some x := by
  obtain ⟨L, rfl⟩ := h
  unfold findK at hx ⊢
  rw [List.map_append]
  exact getM_append hx
theorem findK_last {K : List KeptM} {x : KeptM} (h : findK K x.op.frm x.op.key = none) : findK (K ++ [x]) x.op.frm x.op.key = some x := by
  have h1 := findK_none h
  unfold findK at h ⊢
  rw [List.map_append]
  unfold getM at h ⊢
  rw [List.find?_append]
  have h2 : (K.map KeptM.kv).find? (fun z => decide (z.1 = (x.op.frm, x.op.key))) = none := Option.map_eq_none_iff.1 h
  rw [h2, Option.none_or]
  simp [KeptM.kv, KeptM.id]
end Go.Q
namespace Go.Q
open Go.RowKit
abbrev GetF := List UInt8 → Option RowM
def actEg (g : GetF) (o : Opm) : Int :=
  if o.kind = 1 then (if (g o.frm).isSome then 41 else 0)
  else match g o.frm with
    | none => 40
    | some a =>
      if o.kind = 2 then (if 9223372036854775807 - o.amount < a.amount then 43 else 0)
      else if a.amount < o.amount then 42
      else if o.kind = 4 then (match g o.to with | none => 40 | some b => if 9223372036854775807 - o.amount < b.amount then 43 else 0)
      else 0
def actG (g : GetF) (o : Opm) (n : List UInt8) : Option RowM :=
  if o.kind = 1 then (if (g o.frm).isSome then g n else if n = o.frm then some ⟨o.frm, 0⟩ else g n)
  else match g o.frm with
    | none => g n
    | some a =>
      if o.kind = 2 then (if 9223372036854775807 - o.amount < a.amount then g n else if n = o.frm then some ⟨o.frm, a.amount + o.amount⟩ else g n)
      else if a.amount < o.amount then g n
      else if o.kind = 4 then (match g o.to with
        | none => g n
        | some b => if 9223372036854775807 - o.amount < b.amount then g n else if n = o.frm then some ⟨o.frm, a.amount - o.amount⟩ else if n = o.to then some ⟨o.to, b.amount + o.amount⟩ else g n)
      else if n = o.frm then some ⟨o.frm, a.amount - o.amount⟩ else g n
/-- The accounts that an operation looks at. -/
def FootP (o : Opm) (n : List UInt8) : Prop := n = o.frm ∨ o.kind = 4 ∧ n = o.to
/-- Two operations are on other accounts. -/
structure ApartOps (p q : Opm) : Prop where
  ff : p.frm ≠ q.frm
  ft : p.frm ≠ q.to
  tf : p.to ≠ q.frm
  tt : ¬ (p.to = q.to ∧ p.to ≠ [])
theorem ApartOps.symm {p q : Opm} (h : ApartOps p q) : ApartOps q p := ⟨h.ff.symm, h.tf.symm, h.ft.symm, fun e => h.tt ⟨e.1.symm, by rw [← e.1]; exact e.2⟩⟩
end Go.Q
