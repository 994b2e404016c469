/- what is lent is kept -/
import Derived.Test.YtnepjfnkaigakaaProg
import Derived.Test.YtnepjfnkaigakaaKT
set_option linter.unusedVariables false
namespace Go.Proofs.Ytnepjfnkaigakaa
open Go.Q Go.RowKit

theorem Kept_calls (w : World) (A : Option Addr) (c : Nat) (bs : List UInt8) (base : Nat) (B : Option Addr) (bc : Nat) (hO : OwnB w base 5 (.slice A (bs ++ [byte 167]).length c) (bs ++ [byte 167])) (hB : RdB w (.slice B bs.length bc) bs) (hbl : bs.length ≤ 140737488351232) : Calls Try.prog 37 ⟨[(Value.slice A bs.length c), (Value.slice B bs.length bc)]⟩ w (fun e w' => e = .returned (.bool true) ∧ Keeps none_ w w') := by
  have hsl := (OwnB.rd hO).slice
  rw [List.length_append] at hsl
  simp only [List.length_cons] at hsl
  simp only [List.length_nil] at hsl
  have K0 : Keeps none_ w w := Keeps.refl w
  refine q_calls Try.func37 (by kernel_rfl) (by kernel_rfl) ?_
  refine q_seq (by kernel_rfl) ?_
  refine q_region (by kernel_rfl) ?_
  refine Ops.regs 1 [(0, (Value.slice A bs.length c)), (1, (Value.slice B bs.length bc)), (4, (Value.bool false))] (j := 1) (by kernel_rfl) (by kernel_rfl) ?_
  refine Ops.done (by kernel_rfl) ?_
  refine q_seq (by kernel_rfl) ?_
  refine q_region (by kernel_rfl) ?_
  refine Ops.regs 1 [(0, (Value.slice A bs.length c)), (1, (Value.slice B bs.length bc)), (4, (Value.bool false)), (5, (Value.slice A bs.length c))] (j := 1) (by kernel_rfl) (by kernel_rfl) ?_
  refine Ops.go (v := (Value.string (str bs))) (by kernel_rfl) (Runs.b2s (s := 23) (d := 9) (e := 5) (by kernel_rfl) (by kernel_rfl) (by kernel_rfl) ((OwnB.rd (OwnB.cut hO (by simp))).keep0 (by omega) K0)) (d := (some 6)) (by kernel_rfl) rfl ?_
  refine Ops.regs 1 [(0, (Value.slice A bs.length c)), (1, (Value.slice B bs.length bc)), (4, (Value.bool false)), (6, (Value.string (str bs))), (7, (Value.slice B bs.length bc))] (j := 3) (by kernel_rfl) (by kernel_rfl) ?_
  refine Ops.go (v := (Value.string (str bs))) (by kernel_rfl) (Runs.b2s (s := 23) (d := 9) (e := 5) (by kernel_rfl) (by kernel_rfl) (by kernel_rfl) (hB.keep0 (by omega) K0)) (d := (some 8)) (by kernel_rfl) rfl ?_
  refine Ops.go (v := (Value.bool (bs == bs))) (by kernel_rfl) (Runs.streq (t := 9) (by kernel_rfl)) (d := (some 9)) (by kernel_rfl) rfl ?_
  refine Ops.regs 1 [(0, (Value.slice A bs.length c)), (1, (Value.slice B bs.length bc)), (4, (Value.bool false)), (10, (Value.bool (bs == bs)))] (j := 6) (by kernel_rfl) (by kernel_rfl) ?_
  have h1 : (bs == bs) = true := by simp
  rw [h1]
  refine Ops.regs 4 [(1, (Value.slice B bs.length bc)), (4, (Value.bool false)), (10, (Value.bool true)), (11, (Value.slice A bs.length c)), (14, (i64 (IntKind.i64.wrap (((bs.length : Nat) : Int) + 1))))] (j := 10) (by kernel_rfl) (by kernel_rfl) ?_
  have e2 : IntKind.i64.wrap (((bs.length : Nat) : Int) + 1) = ((bs.length + 1 : Nat) : Int) := by rw [wrap_i64 (by omega) (by omega)]; omega
  rw [e2]
  clear e2
  have hcut := run_cut (sz := 1) (P := Try.prog) (w := w) (t := 23) (A := A) (n := bs.length) (c := c) 0 (bs.length + 1) c (lo := none) (hi := some (i64 ((bs.length + 1 : Nat) : Int))) (mx := none) tyB.slice (by kernel_rfl) (.inl ⟨rfl, rfl⟩) (.inr ⟨_, rfl⟩) (.inl ⟨rfl, rfl⟩) (by omega) (by omega) (by omega)
  have hA0 : (if c = 0 then A else Option.map (fun q => Addr.add q (0 * 1)) A) = A := by cases A <;> simp [Addr.add]
  rw [hA0, Nat.sub_zero, Nat.sub_zero] at hcut
  refine Ops.go (v := (Value.slice A (bs.length + 1) c)) (by kernel_rfl) (Runs.slice (by kernel_rfl) hcut) (d := (some 15)) (by kernel_rfl) rfl ?_
  clear hcut hA0
  obtain ⟨lb, lo, hA⟩ := RdB.addr (OwnB.rd hO) (by simp)
  have hx : (bs ++ [byte 167])[bs.length]? = some (byte 167) := by simp
  refine Ops.regs 2 [(4, (Value.bool false)), (10, (Value.bool true)), (15, (Value.slice A (bs.length + 1) c)), (17, (i64 ((bs.length : Nat) : Int)))] (j := 13) (by kernel_rfl) (by kernel_rfl) ?_
  refine Ops.go (by kernel_rfl) (Runs.ixSliceE (k := IntKind.i64) (t := 23) (len := (bs.length + 1)) (cap := c) (s := 1) (off' := lo + bs.length) (i := ((bs.length : Nat) : Int)) hA (by kernel_rfl) (by kernel_rfl) (by omega) (by omega) (by omega)) (d := (some 18)) (by kernel_rfl) rfl ?_
  refine Ops.go (v := (Value.int IntKind.u8 (((byte 167).toNat : Nat) : Int))) (by kernel_rfl) (Runs.load (t := 5) (a := ⟨lb, lo + bs.length, none⟩) (by kernel_rfl) (RdB.ld (Rd.keep0 (by omega) (OwnB.rd hO) K0) (by kernel_rfl) hA hx)) (d := (some 19)) (by kernel_rfl) rfl ?_
  refine Ops.regs 3 [(4, (Value.bool ((((byte 167).toNat : Nat) : Int) == 167)))] (j := 18) (by kernel_rfl) (by kernel_rfl) ?_
  refine Ops.done (by kernel_rfl) ?_
  refine q_ret (by kernel_rfl) ?_
  refine ⟨(Value.bool ((((byte 167).toNat : Nat) : Int) == 167)), retv_tmp rfl rfl, ?_⟩
  exact ⟨by rw [show ((((byte 167).toNat : Nat) : Int) == 167) = true from beq_t (by decide)], K0⟩
end Go.Proofs.Ytnepjfnkaigakaa
