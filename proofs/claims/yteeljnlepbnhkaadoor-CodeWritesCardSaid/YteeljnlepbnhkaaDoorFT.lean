/- Strings in the walk: their laws, over any program. -/
import Derived.Test.YteeljnlepbnhkaaDoorFS
set_option linter.unusedVariables false
set_option linter.unusedSimpArgs false
namespace Go.Proofs.YteeljnlepbnhkaaDoor
open Go.RowKit
namespace Fw
/-- the string of a list of bytes -/
def bS (l : List UInt8) : ByteArray := ⟨l.toArray⟩
theorem size_bS (l : List UInt8) : (bS l).size = l.length := rfl
theorem toList_bS (l : List UInt8) : (bS l).data.toList = l := rfl
theorem eq_bS (s : ByteArray) : ∃ l, s = bS l := ⟨s.data.toList, rfl⟩
theorem bS_inj {l l' : List UInt8} (h : bS l = bS l') : l = l' := by
  have := congrArg (fun s : ByteArray => s.data.toList) h
  simpa [bS] using this
theorem bS_iff {l l' : List UInt8} : bS l = bS l' ↔ l = l' := ⟨bS_inj, fun h => by rw [h]⟩
theorem bS_append (l l' : List UInt8) : bS l ++ bS l' = bS (l ++ l') := by
  apply ByteArray.ext
  rw [ByteArray.data_append]
  simp [bS]
theorem bS_extract (l : List UInt8) (a b : Nat) : (bS l).extract a b = bS ((l.take b).drop a) := by
  apply ByteArray.ext
  rw [ByteArray.data_extract]
  simp [bS, List.drop_take]
section
variable {P : Program} {ρ : Operand → Value} {o : Oper} {w : World}
theorem x_sadd {t u : TypeId} {x y : Operand} (l1 l2 : List UInt8) (ho : o.op = .binOp .add t x y u) (hx : ρ x = .string (bS l1)) (hy : ρ y = .string (bS l2)) (h : l1.length + l2.length ≤ 9223372036854775807) :
    (execOp ρ o).run P w = .ok (.value (.string (bS (l1 ++ l2)))) w := by
  rw [← bS_append]; exact x_adds ho hx hy (by rw [size_bS, size_bS]; exact h)
theorem x_slen {x : Operand} {ts : Array TypeId} {t : TypeId} (l : List UInt8) (ho : o.op = .call { callee := .builtin .len, args := #[x], argTypes := ts }) (hx : ρ x = .string (bS l)) (ht : ts = #[t]) (hu : P.underlying t = some .string) :
    (execOp ρ o).run P w = .ok (.value (.int .i64 (l.length : Int))) w := by
  unfold execOp; rw [ho]; subst ht
  simp [resolve, invoke, builtin, hx, Builtin.len_, run_underlying hu, goInt, size_bS]
theorem x_sidx {t : TypeId} {x y : Operand} {k : IntKind} {I : Int} (l : List UInt8) (i : Nat) (b : UInt8) (ho : o.op = .index t x y) (hx : ρ x = .string (bS l)) (hy : ρ y = .int k I) (hu : P.underlying t = some .string) (hI : I = (i : Int)) (hb : l[i]? = some b) :
    (execOp ρ o).run P w = .ok (.value (.int .u8 (b.toNat : Int))) w := by
  unfold execOp; rw [ho]
  subst hI
  have hlt : i < l.length := (List.getElem?_eq_some_iff.1 hb).1
  have hg : (bS l)[i]? = some b := by
    have h1 : i < (bS l).size := hlt
    rw [getElem?_pos (bS l) i h1]
    have := (List.getElem?_eq_some_iff.1 hb).2
    simp only [Option.some.injEq]
    rw [← this]
    show (bS l).data[i] = l[i]
    simp [bS]
    rfl
  simp [hx, hy, Instr.index, run_underlying hu, asIntOf, hg]
theorem x_slo {t : TypeId} {x lo : Operand} {I : Int} (l : List UInt8) (i : Nat) (ho : o.op = .slice t x (some lo) none none) (hx : ρ x = .string (bS l)) (hy : ρ lo = .int .i64 I) (hu : P.underlying t = some .string) (hI : I = (i : Int)) (hle : i ≤ l.length) :
    (execOp ρ o).run P w = .ok (.value (.string (bS (l.drop i)))) w := by
  unfold execOp; rw [ho]
  subst hI
  have he : (bS l).extract i l.length = bS (l.drop i) := by rw [bS_extract, List.take_length]
  simp [hx, hy, Instr.sliceAt, Instr.slice, run_underlying hu, Instr.sliceBounds, Instr.sliceBound, asIntOf, size_bS, hle, he]
theorem x_shi {t : TypeId} {x hi : Operand} {I : Int} (l : List UInt8) (i : Nat) (ho : o.op = .slice t x none (some hi) none) (hx : ρ x = .string (bS l)) (hy : ρ hi = .int .i64 I) (hu : P.underlying t = some .string) (hI : I = (i : Int)) (hle : i ≤ l.length) :
    (execOp ρ o).run P w = .ok (.value (.string (bS (l.take i)))) w := by
  unfold execOp; rw [ho]
  subst hI
  have he : (bS l).extract 0 i = bS (l.take i) := by rw [bS_extract, List.drop_zero]
  simp [hx, hy, Instr.sliceAt, Instr.slice, run_underlying hu, Instr.sliceBounds, Instr.sliceBound, asIntOf, size_bS, hle, he]
theorem x_sub8 {t u : TypeId} {x y : Operand} {X Y Z : Int} (ho : o.op = .binOp .sub t x y u) (hx : ρ x = .int .u8 X) (hy : ρ y = .int .u8 Y) (hz : X - Y = Z) (h1 : 0 ≤ Z) (h2 : Z ≤ 255) :
    (execOp ρ o).run P w = .ok (.value (.int .u8 Z)) w := x_bin ho hx hy g_int (by
  have hw : IntKind.u8.wrap Z = Z := by
    unfold IntKind.wrap
    simp [IntKind.bits, IntKind.signed] <;> omega
  simp [binOp, Op.intArith, hz, hw])
theorem x_cvi {s t : TypeId} {x : Operand} {k : IntKind} {X : Int} (ho : o.op = .convert s t x) (hx : ρ x = .int k X) (hs : (P.underlying s).isSome = true) (ht : P.underlying t = some (.int .i64)) (h1 : -9223372036854775808 ≤ X) (h2 : X ≤ 9223372036854775807) :
    (execOp ρ o).run P w = .ok (.value (.int .i64 X)) w := by
  have hk : P.intKind t = .i64 := by simp [Program.intKind, ht]
  refine x_conv ho hx ?_
  have := run_convert_int (P := P) w s t k X hs (by rw [hk]; exact ht)
  rw [this, hk, i64_ok h1 h2]
end
end Fw
end Go.Proofs.YteeljnlepbnhkaaDoor
