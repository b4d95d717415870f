/- The operations of a walk, one law each, over any program. -/
import Derived.Test.YteckbfebemofmaaFH
set_option linter.unusedVariables false
set_option linter.unusedSimpArgs false
namespace Go.Proofs.Yteckbfebemofmaa
open Go.RowKit
namespace Fw
section
variable {P : Program} {ρ : Operand → Value} {o : Oper} {w : World}
theorem i64_ok {z : Int} (h1 : -9223372036854775808 ≤ z) (h2 : z ≤ 9223372036854775807) : IntKind.i64.wrap z = z := by rw [IntKind.wrap_i64]; omega
theorem x_bin {b : BinOp} {t u : TypeId} {x y : Operand} {X Y : Value} {v : Value} (ho : o.op = .binOp b t x y u) (hx : ρ x = X) (hy : ρ y = Y) (hg : eqGuard b t x y X Y = pure ()) (hr : (binOp b t X Y).run P w = .ok v w) :
    (execOp ρ o).run P w = .ok (.value v) w := by
  unfold execOp; rw [ho]; simp [hx, hy, hg, hr]
theorem g_int {b : BinOp} {t : TypeId} {x y : Operand} {k : IntKind} {X : Int} {v : Value} : eqGuard b t x y (.int k X) v = pure () := by cases b <;> rfl
theorem x_add {t u : TypeId} {x y : Operand} {X Y Z : Int} (ho : o.op = .binOp .add t x y u) (hx : ρ x = .int .i64 X) (hy : ρ y = .int .i64 Y) (hz : X + Y = Z) (h1 : -9223372036854775808 ≤ Z) (h2 : Z ≤ 9223372036854775807) :
    (execOp ρ o).run P w = .ok (.value (.int .i64 Z)) w := x_bin ho hx hy g_int (by simp [binOp, Op.intArith, hz, i64_ok h1 h2])
theorem x_sub {t u : TypeId} {x y : Operand} {X Y Z : Int} (ho : o.op = .binOp .sub t x y u) (hx : ρ x = .int .i64 X) (hy : ρ y = .int .i64 Y) (hz : X - Y = Z) (h1 : -9223372036854775808 ≤ Z) (h2 : Z ≤ 9223372036854775807) :
    (execOp ρ o).run P w = .ok (.value (.int .i64 Z)) w := x_bin ho hx hy g_int (by simp [binOp, Op.intArith, hz, i64_ok h1 h2])
theorem x_mul {t u : TypeId} {x y : Operand} {X Y Z : Int} (ho : o.op = .binOp .mul t x y u) (hx : ρ x = .int .i64 X) (hy : ρ y = .int .i64 Y) (hz : X * Y = Z) (h1 : -9223372036854775808 ≤ Z) (h2 : Z ≤ 9223372036854775807) :
    (execOp ρ o).run P w = .ok (.value (.int .i64 Z)) w := x_bin ho hx hy g_int (by simp [binOp, Op.intArith, hz, i64_ok h1 h2])
theorem x_quo {t u : TypeId} {x y : Operand} {X Y Z : Int} (ho : o.op = .binOp .quo t x y u) (hx : ρ x = .int .i64 X) (hy : ρ y = .int .i64 Y) (h0 : Y ≠ 0) (hz : X.tdiv Y = Z) (h1 : -9223372036854775808 ≤ Z) (h2 : Z ≤ 9223372036854775807) :
    (execOp ρ o).run P w = .ok (.value (.int .i64 Z)) w := x_bin ho hx hy g_int (by simp [binOp, Op.intDiv, h0, hz, i64_ok h1 h2])
theorem x_rem {t u : TypeId} {x y : Operand} {X Y Z : Int} (ho : o.op = .binOp .rem t x y u) (hx : ρ x = .int .i64 X) (hy : ρ y = .int .i64 Y) (h0 : Y ≠ 0) (hz : X.tmod Y = Z) :
    (execOp ρ o).run P w = .ok (.value (.int .i64 Z)) w := x_bin ho hx hy g_int (by simp [binOp, Op.intDiv, h0, hz])
theorem tdiv_pos {X Y : Int} (h : 0 ≤ X) (h0 : 0 ≤ Y) : X.tdiv Y = X / Y := Int.tdiv_eq_ediv_of_nonneg h
theorem tmod_pos {X Y : Int} (h : 0 ≤ X) : X.tmod Y = X % Y := Int.tmod_eq_emod_of_nonneg h
theorem x_lss {t u : TypeId} {x y : Operand} {k : IntKind} {X Y : Int} {b : Bool} (ho : o.op = .binOp .lss t x y u) (hx : ρ x = .int k X) (hy : ρ y = .int k Y) (hb : decide (X < Y) = b) :
    (execOp ρ o).run P w = .ok (.value (.bool b)) w := x_bin ho hx hy g_int (by simp [binOp, Op.intCmp, ← hb])
theorem x_leq {t u : TypeId} {x y : Operand} {k : IntKind} {X Y : Int} {b : Bool} (ho : o.op = .binOp .leq t x y u) (hx : ρ x = .int k X) (hy : ρ y = .int k Y) (hb : decide (X ≤ Y) = b) :
    (execOp ρ o).run P w = .ok (.value (.bool b)) w := x_bin ho hx hy g_int (by simp [binOp, Op.intCmp, ← hb])
theorem x_gtr {t u : TypeId} {x y : Operand} {k : IntKind} {X Y : Int} {b : Bool} (ho : o.op = .binOp .gtr t x y u) (hx : ρ x = .int k X) (hy : ρ y = .int k Y) (hb : decide (Y < X) = b) :
    (execOp ρ o).run P w = .ok (.value (.bool b)) w := x_bin ho hx hy g_int (by simp [binOp, Op.intCmp, ← hb])
theorem x_geq {t u : TypeId} {x y : Operand} {k : IntKind} {X Y : Int} {b : Bool} (ho : o.op = .binOp .geq t x y u) (hx : ρ x = .int k X) (hy : ρ y = .int k Y) (hb : decide (Y ≤ X) = b) :
    (execOp ρ o).run P w = .ok (.value (.bool b)) w := x_bin ho hx hy g_int (by simp [binOp, Op.intCmp, ← hb])
theorem x_eql {t u : TypeId} {x y : Operand} {k : IntKind} {X Y : Int} {b : Bool} (ho : o.op = .binOp .eql t x y u) (hx : ρ x = .int k X) (hy : ρ y = .int k Y) (hb : decide (X = Y) = b) :
    (execOp ρ o).run P w = .ok (.value (.bool b)) w := x_bin ho hx hy g_int (by simp [binOp, Op.intCmp, ← hb]; rfl)
theorem x_neq {t u : TypeId} {x y : Operand} {k : IntKind} {X Y : Int} {b : Bool} (ho : o.op = .binOp .neq t x y u) (hx : ρ x = .int k X) (hy : ρ y = .int k Y) (hb : decide (X ≠ Y) = b) :
    (execOp ρ o).run P w = .ok (.value (.bool b)) w := x_bin ho hx hy g_int (by simp [binOp, Op.intCmp, ← hb]; rfl)
theorem x_eqlb {t u : TypeId} {x y : Operand} {X Y b : Bool} (ho : o.op = .binOp .eql t x y u) (hx : ρ x = .bool X) (hy : ρ y = .bool Y) (hu : P.underlying t = some .bool) (hb : (X == Y) = b) :
    (execOp ρ o).run P w = .ok (.value (.bool b)) w := x_bin ho hx hy rfl (by rw [run_eql_bool w t X Y hu, hb])
theorem x_neqb {t u : TypeId} {x y : Operand} {X Y b : Bool} (ho : o.op = .binOp .neq t x y u) (hx : ρ x = .bool X) (hy : ρ y = .bool Y) (hu : P.underlying t = some .bool) (hb : (!(X == Y)) = b) :
    (execOp ρ o).run P w = .ok (.value (.bool b)) w := x_bin ho hx hy rfl (by rw [run_neq_bool w t X Y hu, hb])
theorem toList_inj {X Y : ByteArray} (h : X.toList = Y.toList) : X = Y := by
  rw [ByteArray.toList_eq, ByteArray.toList_eq] at h
  obtain ⟨⟨a⟩⟩ := X
  obtain ⟨⟨b⟩⟩ := Y
  simp only at h
  rw [h]
theorem x_eqls {t u : TypeId} {x y : Operand} {X Y : ByteArray} {b : Bool} (ho : o.op = .binOp .eql t x y u) (hx : ρ x = .string X) (hy : ρ y = .string Y) (hb : decide (X = Y) = b) :
    (execOp ρ o).run P w = .ok (.value (.bool b)) w := x_bin ho hx hy (by rfl) (by
  subst hb
  by_cases h : X = Y
  · subst h; simp [binOp, Op.stringOp]
  · have hq : ¬ X.toList = Y.toList := fun q => h (toList_inj q)
    simp [binOp, Op.stringOp, h, hq])
theorem x_neqs {t u : TypeId} {x y : Operand} {X Y : ByteArray} {b : Bool} (ho : o.op = .binOp .neq t x y u) (hx : ρ x = .string X) (hy : ρ y = .string Y) (hb : decide (X ≠ Y) = b) :
    (execOp ρ o).run P w = .ok (.value (.bool b)) w := x_bin ho hx hy (by rfl) (by
  subst hb
  by_cases h : X = Y
  · subst h; simp [binOp, Op.stringOp]
  · have hq : ¬ X.toList = Y.toList := fun q => h (toList_inj q)
    simp [binOp, Op.stringOp, h, hq])
theorem dT {p : Prop} [Decidable p] (h : p) : decide p = true := decide_eq_true h
theorem dF {p : Prop} [Decidable p] (h : ¬ p) : decide p = false := decide_eq_false h
theorem x_max {t : TypeId} {k : IntKind} {x y : Operand} {ts : Array TypeId} {X Y Z : Int} (ho : o.op = .call { callee := .builtin .max, args := #[x, y], argTypes := ts }) (hx : ρ x = .int k X) (hy : ρ y = .int k Y) (hz : (if Y > X then Y else X) = Z) :
    (execOp ρ o).run P w = .ok (.value (.int k Z)) w := by
  unfold execOp; rw [ho]; simp [resolve, invoke, builtin, hx, hy, Builtin.max_, Builtin.max2, ← hz]
theorem x_min {t : TypeId} {k : IntKind} {x y : Operand} {ts : Array TypeId} {X Y Z : Int} (ho : o.op = .call { callee := .builtin .min, args := #[x, y], argTypes := ts }) (hx : ρ x = .int k X) (hy : ρ y = .int k Y) (hz : (if Y < X then Y else X) = Z) :
    (execOp ρ o).run P w = .ok (.value (.int k Z)) w := by
  unfold execOp; rw [ho]; simp [resolve, invoke, builtin, hx, hy, Builtin.min_, Builtin.min2, ← hz]
/-- the address of an element of a slice -/
theorem x_idx {t e s : Nat} {x y : Operand} {b off n cap : Nat} {I : Int} (i p : Nat) (ho : o.op = .indexAddr t x y) (hx : ρ x = .slice (some ⟨b, off, none⟩) n cap) (hy : ρ y = .int .i64 I)
    (hu : P.underlying t = some (.slice e)) (hs : (P.info? e).map (·.size) = some s) (hI : I = (i : Int)) (hlt : i < n) (hp : off + i * s = p) :
    (execOp ρ o).run P w = .ok (.value (.pointer (some ⟨b, p, none⟩))) w := by
  unfold execOp; rw [ho]
  subst hI
  obtain ⟨inf, hi, rfl⟩ := Option.map_eq_some_iff.1 hs
  have hz : (sizeOf e).run P w = .ok inf.size w := by simp [sizeOf, typeInfo, hi]
  have hadd : (⟨b, off, none⟩ : Addr).add (i * inf.size) = ⟨b, p, none⟩ := by unfold Addr.add; split <;> simp_all
  simp [hx, hy, Instr.indexAt, run_underlying hu, asIntOf, hz, hadd]
  omega
/-- the same of an address of whatever form -/
theorem x_idxA {t e s : Nat} {x y : Operand} {a : Addr} {n cap : Nat} {I : Int} (i p : Nat) (ho : o.op = .indexAddr t x y) (hx : ρ x = .slice (some a) n cap) (hy : ρ y = .int .i64 I)
    (hu : P.underlying t = some (.slice e)) (hs : (P.info? e).map (·.size) = some s) (hI : I = (i : Int)) (hlt : i < n) (hp : i * s = p) :
    (execOp ρ o).run P w = .ok (.value (.pointer (some (a.add p)))) w := by
  unfold execOp; rw [ho]
  subst hI
  obtain ⟨inf, hi, rfl⟩ := Option.map_eq_some_iff.1 hs
  have hz : (sizeOf e).run P w = .ok inf.size w := by simp [sizeOf, typeInfo, hi]
  simp [hx, hy, Instr.indexAt, run_underlying hu, asIntOf, hz, hp]
  omega
/-- the address of an element of an array in memory -/
theorem x_idxArr {t e s m : Nat} {x y : Operand} {b off : Nat} {I : Int} (i p : Nat) (ho : o.op = .indexAddr t x y) (hx : ρ x = .pointer (some ⟨b, off, none⟩)) (hy : ρ y = .int .i64 I)
    (hu : P.underlying t = some (.array m e)) (hs : (P.info? e).map (·.size) = some s) (hI : I = (i : Int)) (hlt : i < m) (hp : off + i * s = p) :
    (execOp ρ o).run P w = .ok (.value (.pointer (some ⟨b, p, none⟩))) w := by
  unfold execOp; rw [ho]
  subst hI
  obtain ⟨inf, hi, rfl⟩ := Option.map_eq_some_iff.1 hs
  have hz : (sizeOf e).run P w = .ok inf.size w := by simp [sizeOf, typeInfo, hi]
  have hadd : (⟨b, off, none⟩ : Addr).add (i * inf.size) = ⟨b, p, none⟩ := by unfold Addr.add; split <;> simp_all
  simp [hx, hy, Instr.indexAt, run_underlying hu, asIntOf, hz, hadd, Instr.sureAddr]
  omega
/-- an element of an array value: a struct -/
theorem x_index {t e m s : Nat} {x y : Operand} {cs cells : Array Value} {I : Int} {d : TypeDesc} (i : Nat) (ho : o.op = .index t x y) (hx : ρ x = .agg cs) (hy : ρ y = .int .i64 I)
    (hu : P.underlying t = some (.array m e)) (hud : P.underlying e = some d) (hd : d.isRow = true) (hs : (P.info? e).map (·.size) = some s) (hI : I = (i : Int)) (hlt : i < m) (hv : cs.extract (i * s) (i * s + s) = cells) :
    (execOp ρ o).run P w = .ok (.value (.agg cells)) w := by
  unfold execOp; rw [ho]
  subst hI
  obtain ⟨inf, hi, rfl⟩ := Option.map_eq_some_iff.1 hs
  have hz : (sizeOf e).run P w = .ok inf.size w := by simp [sizeOf, typeInfo, hi]
  have hagg : (isAgg e).run P w = .ok true w := by
    unfold isAgg
    rw [Sem.run_bind, run_underlying hud w]
    cases d <;> simp_all
  have h0 : (0 : Int) ≤ (i : Int) ∧ (i : Int) < (m : Int) := by omega
  simp [hx, hy, Instr.index, run_underlying hu, asIntOf, hz, part, hagg, asAgg, hlt]
  rw [hv]
/-- an element of an array value: one cell -/
theorem x_index1 {t e m : Nat} {x y : Operand} {cs : Array Value} {v : Value} {I : Int} {d : TypeDesc} (i : Nat) (ho : o.op = .index t x y) (hx : ρ x = .agg cs) (hy : ρ y = .int .i64 I)
    (hu : P.underlying t = some (.array m e)) (hud : P.underlying e = some d) (hd : d.isRow = false) (hs : (P.info? e).map (·.size) = some 1) (hI : I = (i : Int)) (hlt : i < m) (hv : cs[i]? = some v) :
    (execOp ρ o).run P w = .ok (.value v) w := by
  unfold execOp; rw [ho]
  subst hI
  obtain ⟨inf, hi, h1⟩ := Option.map_eq_some_iff.1 hs
  have hz : (sizeOf e).run P w = .ok 1 w := by simp [sizeOf, typeInfo, hi, h1]
  have hagg : (isAgg e).run P w = .ok false w := by
    unfold isAgg
    rw [Sem.run_bind, run_underlying hud w]
    cases d <;> simp_all
  simp [hx, hy, Instr.index, run_underlying hu, asIntOf, hz, part, hagg, asAgg, hlt, hv]
/-- a load of one cell -/
theorem x_load {t : Nat} {x : Operand} {a : Addr} {v : Value} {d : TypeDesc} (ho : o.op = .load t x) (hx : ρ x = .pointer (some a)) (hu : P.underlying t = some d) (hd : d.isRow = false) (hc : w.cell? a = some v) :
    (execOp ρ o).run P w = .ok (.value v) w := by
  unfold execOp; rw [ho]
  have hagg : (isAgg t).run P w = .ok false w := by
    unfold isAgg
    rw [Sem.run_bind, run_underlying hu w]
    cases d <;> simp_all
  simp [hx, Instr.loadAt, Instr.sureAddr, loadVar, hagg, hc]
/-- a load of a struct -/
theorem x_loadS {t : Nat} {x : Operand} {b off : Nat} {cs : List Value} {d : TypeDesc} (ho : o.op = .load t x) (hx : ρ x = .pointer (some ⟨b, off, none⟩)) (hu : P.underlying t = some d) (hd : d.isRow = true) (hi : (P.info? t).map (·.size) = some cs.length) (hc : w.rangeAt b off cs) :
    (execOp ρ o).run P w = .ok (.value (.agg cs.toArray)) w := by
  unfold execOp; rw [ho]
  simp [hx, run_loadAt_mid w b off t cs d hc hu hd hi]
/-- a store of one cell -/
theorem x_store {t : Nat} {x y : Operand} {a : Addr} {v u : Value} (ho : o.op = .store t x y) (hx : ρ x = .pointer (some a)) (hy : ρ y = v) (hi : (P.info? t).map (·.size) = some 1) (hone : v.oneCell' = true) (hc : w.cell? a = some u) (hf : w.frozen? a = false) :
    (execOp ρ o).run P w = .ok .skip (w.setCell a v) := by
  unfold execOp; rw [ho]
  obtain ⟨inf, hi, h1⟩ := Option.map_eq_some_iff.1 hi
  have hz : (sizeOf t).run P w = .ok 1 w := by simp [sizeOf, typeInfo, hi, h1]
  have hcs : v.cells = #[v] := by cases v <;> simp_all [Value.cells, Value.oneCell']
  have hadd : a.add 0 = a := by unfold Addr.add; simp
  have hs := run_store P w a v .plain hone
  simp only [hc, hf] at hs
  simp [hx, hy, Instr.storeAt, Instr.sureAddr, storeVar, hcs, hz, storeCells, hadd, hs]
/-- a store of a struct -/
theorem x_storeS {t : Nat} {x y : Operand} {b off : Nat} {cells : Array Value} (ho : o.op = .store t x y) (hx : ρ x = .pointer (some ⟨b, off, none⟩)) (hy : ρ y = .agg cells) (hi : (P.info? t).map (·.size) = some cells.size) (hone : cells.toList.all (·.oneCell') = true) (ht : w.there b off cells.size) :
    (execOp ρ o).run P w = .ok .skip (w.setCells b off cells.toList) := by
  unfold execOp; rw [ho]
  simp [hx, hy, run_storeAt_mid w b off t cells ht hi (by rw [← Array.all_toList]; exact hone)]
/-- a slice of a slice -/
theorem x_sliceH {t e : Nat} {x hi : Operand} {p : Option Addr} {n cap : Nat} {H : Int} (h : Nat) (ho : o.op = .slice t x none (some hi) none) (hx : ρ x = .slice p n cap) (hh : ρ hi = .int .i64 H) (hu : P.underlying t = some (.slice e)) (hH : H = (h : Int)) (hle : h ≤ cap) {s : Nat} (hs : (P.info? e).map (·.size) = some s) :
    (execOp ρ o).run P w = .ok (.value (.slice p h cap)) w := by
  unfold execOp; rw [ho]
  subst hH
  obtain ⟨inf, hi, rfl⟩ := Option.map_eq_some_iff.1 hs
  have hz : (sizeOf e).run P w = .ok inf.size w := by simp [sizeOf, typeInfo, hi]
  have hadd : ∀ a : Addr, a.add 0 = a := fun a => by unfold Addr.add; simp
  cases p <;> simp [hx, hh, Instr.sliceAt, Instr.slice, run_underlying hu, Instr.sliceBounds, Instr.sliceBound, asIntOf, hle, hz, hadd]
/-- make -/
theorem x_make {t e b : Nat} {x y : Operand} {n c : Int} {z : Value} {i : TypeInfo} (ho : o.op = .makeSlice t x y) (hx : ρ x = .int .i64 n) (hy : ρ y = .int .i64 c)
    (hu : P.underlying t = some (.slice e)) (hi : P.info? e = some i) (hz : i.zero = some z) (h0 : 0 ≤ n) (hnc : n ≤ c) (hb : i.bytes = b) (hsz : (b : Int) * c ≤ 281474976710656) (hc : c ≤ 9223372036854775807) :
    (execOp ρ o).run P w = .ok (.value (.slice (some ⟨w.heap.size, 0, none⟩) n.toNat c.toNat)) (w.alloc (.cells (madeCells z.cells (c.toNat * i.size)) e)) := by
  unfold execOp; rw [ho]
  have hr := run_make (P := P) w t e i z hu hi hz .i64 .i64 n c h0 hnc (by rw [hb]; omega) (by omega)
  simp [hx, hy, hr]
theorem x_makeR {t : Nat} {x y : Operand} {X Y v : Value} {w' : World} (ho : o.op = .makeSlice t x y) (hx : ρ x = X) (hy : ρ y = Y) (hr : (Instr.makeSlice t X Y).run P w = .ok v w') :
    (execOp ρ o).run P w = .ok (.value v) w' := by
  unfold execOp; rw [ho]; simp [hx, hy, hr]
/-- append -/
theorem x_append {t : Nat} {x y : Operand} {X Y v' : Value} {w' : World} (ho : o.op = .call { callee := .builtin .append, args := #[x, y], argTypes := #[t, t] }) (hx : ρ x = X) (hy : ρ y = Y) (hr : (Builtin.append_ #[t, t] o.type #[X, Y]).run P w = .ok v' w') :
    (execOp ρ o).run P w = .ok (.value v') w' := by
  unfold execOp; rw [ho]
  simp [resolve, invoke, builtin, hx, hy, hr]
end
end Fw
end Go.Proofs.Yteckbfebemofmaa
