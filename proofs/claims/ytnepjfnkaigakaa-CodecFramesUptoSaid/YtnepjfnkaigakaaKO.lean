/- calls on any row that is read -/
import Derived.Test.YtnepjfnkaigakaaProg
import Derived.Test.YtnepjfnkaigakaaKI
import Derived.Test.YtnepjfnkaigakaaKJ
import Derived.Test.YtnepjfnkaigakaaKL
set_option linter.unusedVariables false
namespace Go.Proofs.Ytnepjfnkaigakaa
open Go.Q Go.RowKit

theorem Unmsg_of (w : World) (v : Value) (bs : List UInt8) (hB : RdB w v bs) (hbl : bs.length ≤ 140737488351232) : Calls Try.prog 51 ⟨[v]⟩ w (fun e w' => ∃ (m : MsgP) (E D : Option Addr) (ec dc : Nat) (er : Int), e = .returned (.tuple #[agg [i64 m.kind, i64 m.group, i64 m.frm, i64 m.to, i64 m.term, i64 m.index, i64 m.logTerm, i64 m.commit, .bool m.ok, .slice E m.entries.length ec, .slice D m.data.length dc], i64 er]) ∧ Keeps none_ w w' ∧ m.Ok ∧ (m.core, er) = unmsgB bs ∧ RdE w' (.slice E m.entries.length ec) m.entries ∧ EntsIn w' m.entries ∧ RdB w' (.slice D m.data.length dc) m.data) := by
  obtain ⟨B, bc, rfl⟩ := hB.form
  exact Unmsg_calls w B bc bs hB hbl

theorem Unframe_of (w : World) (v : Value) (bs : List UInt8) (hB : RdB w v bs) (hbl : bs.length ≤ 140737488351232) : Calls Try.prog 49 ⟨[v]⟩ w (fun e w' => ∃ v', e = .returned (.tuple #[v', i64 (unframeB bs).2]) ∧ Keeps none_ w w' ∧ OwnB w' w.heap.size 5 v' (unframeB bs).1) := by
  obtain ⟨B, bc, rfl⟩ := hB.form
  exact Unframe_calls w B bc bs hB hbl

theorem Frame_of (w : World) (v : Value) (bs : List UInt8) (hB : RdB w v bs) : Calls Try.prog 18 ⟨[v]⟩ w (fun e w' => ∃ v' er out, e = .returned (.tuple #[v', i64 er]) ∧ Keeps none_ w w' ∧ OwnB w' w.heap.size 5 v' out ∧ (bs.length ≤ 65536 ∧ er = 0 ∧ out = frameB bs ∨ 65536 < bs.length ∧ er = 3 ∧ out = [])) := by
  obtain ⟨B, bc, rfl⟩ := hB.form
  by_cases h : bs.length ≤ 65536
  · exact (Frame_calls w B bc bs hB h).mono fun e w' ⟨v, he, hk, ho⟩ => ⟨v, 0, _, he, hk, ho, .inl ⟨h, rfl, rfl⟩⟩
  · exact (Frame_long w B bc bs hB (by omega)).mono fun e w' ⟨he, hk⟩ => ⟨_, 3, [], he, hk, World.ownsRow_nil _ _ _ _, .inr ⟨by omega, rfl, rfl⟩⟩

theorem Count_nat (w : World) (a : Int) (n : Nat) (hk : 0 < n ∧ ((n : Nat) : Int) ≤ 9223372036854775807) : Calls Try.prog 19 ⟨[i64 a, i64 ((n : Nat) : Int)]⟩ w (fun e w' => ∃ k : Nat, e = .returned (i64 ((k : Nat) : Int)) ∧ k < n ∧ w = w') := by
  refine (Count01_calls w a n (by omega)).mono fun e w' ⟨he, hw⟩ => ?_
  have h := cnt_range a (k := (n : Int)) (by omega)
  exact ⟨(cnt a n).toNat, by rw [he, Int.toNat_of_nonneg h.1], by omega, hw⟩
end Go.Proofs.Ytnepjfnkaigakaa
