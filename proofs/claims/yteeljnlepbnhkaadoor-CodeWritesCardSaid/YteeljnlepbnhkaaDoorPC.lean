/- Code's text: the builder, numbers, words, lines; instr of both. -/
import Derived.Test.YteeljnlepbnhkaaDoorPB
import Derived.Test.YteeljnlepbnhkaaDoorFT
import Derived.Test.YteeljnlepbnhkaaDoorQS
import Derived.Lib.AtoiAllCases
import Derived.Lib.AppendIntMem
import Derived.Lib.AtoiErrMem
set_option linter.unusedVariables false
set_option linter.unusedSimpArgs false
namespace Go.Proofs.YteeljnlepbnhkaaDoor
open Go.RowKit
namespace Cw
set_option maxHeartbeats 2000000 in
set_option maxRecDepth 100000 in
theorem cc_fresh (b : Nat) (w : World) (h0 : w.cell? ⟨b, 0, none⟩ = some (.pointer none)) (hsh : w.shape? b = some (42, 2)) (hfz : w.frozen? ⟨b, 0, none⟩ = false) :
    Calls Tryd.prog 37 #[.pointer (some ⟨b, 0, none⟩)] w fun e w' => e = .returned (.tuple #[]) ∧ w' = w.setCell ⟨b, 0, none⟩ (.pointer (some ⟨b, 0, none⟩)) := by
  obtain ⟨j, hj, hjs⟩ := Option.map_eq_some_iff.1 Tryd.Builder_Extra_169.sizeBuilder
  go_enter Tryd.func37, Tryd.ntmps37
  go_wp2
  rw [Lib.run_to_unsafe w ⟨b, 0, none⟩ Tryd.underlying39 Tryd.underlying98 hj (by rw [hjs]; decide) hsh (Nat.zero_lt_succ 1)]
  simp only [Result.andThen]
  rw [Oper.upon_value]
  go_wp2
  rw [run_callFunc_extern Tryd.func55 (by kernel_rfl) (by kernel_rfl) (by kernel_rfl) (e := Extern.AbiNoEscape.same) (by kernel_rfl)]
  rw [Lib.run_noEscape]
  simp only [Result.andThen]
  rw [Oper.upon_value]
  go_wp2
  rw [Lib.run_from_unsafe w ⟨b, 0, none⟩ Tryd.underlying98 Tryd.underlying39 hj hsh Tryd.Builder_Extra_169.liesBuilder]
  simp only [Result.andThen]
  rw [Oper.upon_value]
  go_wp2
  go_end0
  exact ⟨rfl, rfl⟩
set_option maxHeartbeats 2000000 in
set_option maxRecDepth 100000 in
theorem cc_used (b : Nat) (w : World) (h0 : w.cell? ⟨b, 0, none⟩ = some (.pointer (some ⟨b, 0, none⟩))) :
    Calls Tryd.prog 37 #[.pointer (some ⟨b, 0, none⟩)] w fun e w' => e = .returned (.tuple #[]) ∧ w' = w := by
  obtain ⟨j, hj, _⟩ := Option.map_eq_some_iff.1 Tryd.Builder_Extra_169.sizeBuilder
  go_enter Tryd.func37, Tryd.ntmps37
  go_wp2
  rw [Lib.run_neq_ptr_same w _ Tryd.underlying39 hj]
  go_wp2
  go_end0
  exact ⟨rfl, rfl⟩
open Fw
open Qa Go.Lib Ec
theorem x_neg {P : Program} {ρ : Operand → Value} {o : Oper} {w : World} {t : TypeId} {x : Operand} {X : Int} (ho : o.op = .unOp .neg t x) (hx : ρ x = .int .i64 X) (h1 : -9223372036854775808 ≤ -X) (h2 : -X ≤ 9223372036854775807) :
    (execOp ρ o).run P w = .ok (.value (.int .i64 (-X))) w := by
  unfold execOp; rw [ho]
  simp [hx, Op.unary, Op.intArith, i64_ok h1 h2]
theorem x_s2 {P : Program} {ρ : Operand → Value} {o : Oper} {w : World} {t : TypeId} {x lo hi : Operand} {I J : Int} (l : List UInt8) (i j : Nat) (ho : o.op = .slice t x (some lo) (some hi) none) (hx : ρ x = .string (bS l)) (hy : ρ lo = .int .i64 I) (hz : ρ hi = .int .i64 J) (hu : P.underlying t = some .string) (hI : I = (i : Int)) (hJ : J = (j : Int)) (hle : i ≤ j) (hle2 : j ≤ l.length) {r : List UInt8} (hr : (l.take j).drop i = r) :
    (execOp ρ o).run P w = .ok (.value (.string (bS r))) w := by
  unfold execOp; rw [ho]
  subst hI hJ hr
  have he : (bS l).extract i j = bS ((l.take j).drop i) := bS_extract l i j
  simp [hx, hy, hz, Instr.sliceAt, Instr.slice, run_underlying hu, Instr.sliceBounds, Instr.sliceBound, asIntOf, size_bS, hle, hle2, he]
/-- what the library's tables and errors hold -/
def Ev (w : World) : Prop := Lib.TabIs Tryd.prog w "internal/strconv.uint64pow10" .u64 Lib.pow10Tab ∧ (∃ t p, w.cell? ⟨2, 0, none⟩ = some (.iface t p)) ∧ (∃ t p, w.cell? ⟨3, 0, none⟩ = some (.iface t p))
theorem Ev.below {w w' : World} (h : Ev w) (hb : Below w.heap.size w w') : Ev w' := by
  obtain ⟨h1, ⟨t1, p1, h2⟩, t2, p2, h3⟩ := h
  exact ⟨Lib.TabBelow.here ((Lib.tabBelow_of_tabIs h1).on hb), ⟨t1, p1, HP.old (HP.of_below (S := Tr) hb) trivial h2⟩, t2, p2, HP.old (HP.of_below (S := Tr) hb) trivial h3⟩
theorem itoa_any (n : Int) (w : World) (h : -9223372036854775808 ≤ n ∧ n ≤ 9223372036854775807) (hE : Ev w) :
    Calls Tryd.prog 18 #[vI n] w fun e w' => e = .returned (.string (bS (Lib.itoa n))) ∧ Below w.heap.size w w' := by
  refine (Tryd.strconv_Itoa n h.1 h.2 w hE.1).mono ?_
  rintro e w' ⟨rfl, k, os, rfl⟩
  exact ⟨rfl, Lib.below_grow _ _ (Nat.le_refl _) _ _⟩
theorem atoi_any (l : List UInt8) (w : World) (hl : l.length ≤ 281474976710656) (hE : Ev w) :
    Calls Tryd.prog 62 #[.string (bS l)] w fun e w' => (∃ v, Lib.atoiAll l = .ok v ∧ e = .returned (.tuple #[vI v, .nilIface]) ∧ Below w.heap.size w w') ∨ (∃ v N, (∀ u, Lib.atoiAll l ≠ .ok u) ∧ e = .returned (.tuple #[vI v, .iface 129 (.pointer (some ⟨N, 0, none⟩))]) ∧ Below w.heap.size w w') := by
  rcases h : Lib.atoiAll l with v | _ | _
  · refine (Tryd.strconv_Atoi_ok (bS l) (by rw [size_bS]; omega) v h w).mono ?_
    rintro e w' ⟨rfl, hw⟩
    refine .inl ⟨v, rfl, rfl, ?_⟩
    rcases hw with rfl | ⟨t, rfl⟩
    · exact Below.refl _ _
    · exact Lib.bytesWorld_below w _ _
  · obtain ⟨t, p, hv⟩ := hE.2.1
    refine (Tryd.strconv_Atoi_syntax (bS l) (by rw [size_bS]; omega) (h.trans rfl) _ w hv (.inr ⟨t, p, rfl⟩)).mono ?_
    rintro e w' ⟨N, rfl, -, -, hb⟩
    exact .inr ⟨_, N, fun u hu => (by cases hu), rfl, hb⟩
  · obtain ⟨t, p, hv⟩ := hE.2.2
    refine (Tryd.strconv_Atoi_range (bS l) (by rw [size_bS]; omega) h _ w hv (.inr ⟨t, p, rfl⟩)).mono ?_
    rintro e w' ⟨N, rfl, -, -, hb⟩
    exact .inr ⟨_, N, fun u hu => (by cases hu), rfl, hb⟩
theorem split_idx {x : UInt8} {l : List UInt8} {k : Nat} (h : Lib.indexByte l x = (k : Int)) : k < l.length ∧ l = l.take k ++ x :: l.drop (k + 1) ∧ no x (l.take k) := by
  obtain ⟨h1, h2⟩ := Lib.indexByte_some h
  have hk := (List.getElem?_eq_some_iff.1 h1).1
  refine ⟨hk, ?_, fun y hy he => ?_⟩
  · have h3 := (List.take_append_drop k l).symm
    rw [List.drop_eq_getElem_cons hk, (List.getElem?_eq_some_iff.1 h1).2] at h3
    exact h3
  · obtain ⟨j, hj, rfl⟩ := List.mem_iff_getElem.1 hy
    simp at hj
    exact h2 j (by omega) (by rw [List.getElem?_eq_getElem (by omega)]; rw [← he]; simp)
theorem no_idx {x : UInt8} {l : List UInt8} (h : ¬ 0 ≤ Lib.indexByte l x) : no x l := fun y hy he => by
  have h1 := Lib.indexByte_ge l x
  obtain ⟨j, hj, rfl⟩ := List.mem_iff_getElem.1 hy
  exact Lib.indexByte_none (show Lib.indexByte l x = -1 by omega) j (by rw [List.getElem?_eq_getElem hj, he])
/-- a row of strings -/
abbrev sL (ws : List (List UInt8)) : List Value := ws.map fun l => Value.string (bS l)
theorem sL_one (ws : List (List UInt8)) : ∀ v ∈ sL ws, v.oneCell' = true := fun v hv => by obtain ⟨x, _, rfl⟩ := List.mem_map.1 hv; rfl
abbrev rowS (pv : Option Addr) (n cp : Nat) (ws : List (List UInt8)) : Ent := .own (.slice pv n cp) n (sL ws) 9 1
theorem own_rowG {w : World} {v : Value} {n e s : Nat} {ys : List Value} (h : Ent.holds w (.own v n ys e s)) : ∃ pv cp, v = .slice pv n cp := by
  have h2 : w.ownsRow 0 e s v n ys := h
  rcases h2.2 with ⟨h0, h1⟩ | ⟨g, cap, cur, hv, _⟩
  · exact ⟨none, 0, by rw [h0, h1]⟩
  · exact ⟨_, cap, hv⟩
theorem own_cap {w : World} {pv : Option Addr} {n cp e s : Nat} {ys : List Value} (h : Ent.holds w (.own (.slice pv n cp) n ys e s)) : n ≤ cp ∧ cp ≤ 9223372036854775807 := by
  have h2 : w.ownsRow 0 e s (.slice pv n cp) n ys := h
  rcases h2.2 with ⟨h0, h1⟩ | ⟨g, cap, cur, hv, hbg, hg, hnc, hcm, hcs, htake⟩
  · simp at h0; omega
  · simp at hv; obtain ⟨rfl, rfl⟩ := hv; exact ⟨hnc, hcm⟩
theorem own_at0 {w : World} {pv : Option Addr} {n cp e s : Nat} {ys : List Value} (h : Ent.holds w (.own (.slice pv n cp) n ys e s)) (h0 : 0 < n) : ∃ g, pv = some ⟨g, 0, none⟩ := by
  have h2 : w.ownsRow 0 e s (.slice pv n cp) n ys := h
  rcases h2.2 with ⟨h3, h1⟩ | ⟨g, cap, cur, hv, _⟩
  · cases h3; omega
  · cases hv; exact ⟨g, rfl⟩
theorem infoS : ∃ i, Tryd.prog.info? 9 = some i ∧ i.zero = some (.string (bS [])) ∧ i.size = 1 ∧ i.bytes = 16 := by
  obtain ⟨i, hi, h⟩ := Option.map_eq_some_iff.1 (show (Tryd.prog.info? 9).map (fun i => (i.zero, i.size, i.bytes)) = some (some (.string (bS [])), 1, 16) by kernel_rfl)
  simp only [Prod.mk.injEq] at h
  exact ⟨i, hi, h.1, h.2.1, h.2.2⟩
theorem infoB : ∃ i, Tryd.prog.info? 5 = some i ∧ i.zero = some (.int .u8 0) ∧ i.size = 1 ∧ i.bytes = 1 := by
  obtain ⟨i, hi, h⟩ := Option.map_eq_some_iff.1 (show (Tryd.prog.info? 5).map (fun i => (i.zero, i.size, i.bytes)) = some (some (.int .u8 0), 1, 1) by kernel_rfl)
  simp only [Prod.mk.injEq] at h
  exact ⟨i, hi, h.1, h.2.1, h.2.2⟩
/-- strings that came in -/
def InS (w : World) (p : Option Addr) (ws : List (List UInt8)) : Prop := 0 < ws.length → ∃ g o, p = some ⟨g, o, none⟩ ∧ ∀ i, i < ws.length → w.rangeAt g (o + i) [.string (bS (ws.getD i []))]
theorem InS.below {w w' : World} {p : Option Addr} {xs : List (List UInt8)} (h : InS w p xs) (hb : Below w.heap.size w w') : InS w' p xs := fun h0 => by
  obtain ⟨g, o, hp, hr⟩ := h h0
  exact ⟨g, o, hp, fun i hi => HP.oldRange (HP.of_below (S := Tr) hb) trivial (hr i hi)⟩
theorem InS.own {w : World} {pv : Option Addr} {cp : Nat} {ws : List (List UInt8)} (h : Ent.holds w (rowS pv ws.length cp ws)) : InS w pv ws := fun h0 => by
  obtain ⟨g, rfl⟩ := own_at0 h h0
  refine ⟨g, 0, rfl, fun i hi j v hv => ?_⟩
  match j, hv with
  | 0, hv =>
    simp at hv; subst hv
    have q := World.ownsRow.cells h (g := g) rfl i (.string (bS (ws.getD i []))) (by simp [sL, List.getD_eq_getElem?_getD, hi])
    have hadd : (⟨g, 0, none⟩ : Addr).add i = ⟨g, i, none⟩ := by unfold Addr.add; split <;> simp_all
    rw [hadd] at q
    rw [show 0 + i + 0 = i by omega]; exact q
  | j + 1, hv => simp at hv
def rs (g o cap : Nat) : Option Addr := some (if cap = 1 then ⟨g, o, none⟩ else ⟨g, o + 1, none⟩)
theorem x_reslice {P : Program} {ρ : Operand → Value} {o : Oper} {w : World} {t e b off n cap m : Nat} {x lo : Operand} (ho : o.op = .slice t x (some lo) none none) (hx : ρ x = .slice (some ⟨b, off, none⟩) n cap) (hy : ρ lo = .int .i64 1) (hu : P.underlying t = some (.slice e)) (hle : 1 ≤ n) (hnc : n ≤ cap) (hs : (P.info? e).map (·.size) = some 1) (hm : n - 1 = m) :
    (execOp ρ o).run P w = .ok (.value (.slice (rs b off cap) m (cap - 1))) w := by
  unfold execOp; rw [ho]
  obtain ⟨inf, hi, h1⟩ := Option.map_eq_some_iff.1 hs
  have hz : (sizeOf e).run P w = .ok 1 w := by simp [sizeOf, typeInfo, hi, h1]
  have hadd : (⟨b, off, none⟩ : Addr).add 1 = ⟨b, off + 1, none⟩ := by unfold Addr.add; split <;> simp_all
  unfold rs
  by_cases hc : cap = 1
  · subst hc
    have : n = 1 := by omega
    subst this
    simp [hx, hy, Instr.sliceAt, Instr.slice, run_underlying hu, Instr.sliceBounds, Instr.sliceBound, asIntOf, hz, ← hm]
  · have h0 : (0 : Int) ≤ 1 := by omega
    simp [hx, hy, Instr.sliceAt, Instr.slice, run_underlying hu, Instr.sliceBounds, Instr.sliceBound, asIntOf, hle, hz, hadd, hnc, hm, hc]
    intro hq; omega
theorem InS.drop1 {w : World} {g o icap : Nat} {R : List (List UInt8)} (h : ∀ i, i < R.length → w.rangeAt g (o + i) [.string (bS (R.getD i []))]) (hc : R.length ≤ icap) : InS w (rs g o icap) (R.drop 1) := fun h0 => by
  have h1 : 1 < R.length := by simp at h0; omega
  refine ⟨g, o + 1, ?_, fun i hi => ?_⟩
  · unfold rs; rw [if_neg (by omega)]
  · have hi' : i + 1 < R.length := by simp at hi; omega
    have q := h (i + 1) hi'
    rw [show (R.drop 1).getD i [] = R.getD (i + 1) [] by simp [List.getD_eq_getElem?_getD, Nat.add_comm]]
    rw [show o + 1 + i = o + (i + 1) by omega]
    exact q
theorem below_own {w w' : World} {v : Value} {n e s : Nat} {xs : List Value} (hb : Below w.heap.size w w') (h : w'.ownsRow w.heap.size e s v n xs) : HP Tr w w' [.own v n xs e s] := by
  have hblk : ∀ b, v.ownBlock = some b → w.heap.size ≤ b := fun b q => (World.ownsRow.lt h b q).1
  refine ⟨hb.os, hb.tape, hb.output, hb.size, fun k hk _ => hb.block k hk, fun x hx => ?_, fun x hx b q hlt => ?_, by simp⟩
  · simp at hx; subst hx
    refine ⟨h.1, ?_⟩
    rcases h.2 with h3 | ⟨g, cap, cur, h4, h5, h6⟩
    · exact .inl h3
    · exact .inr ⟨g, cap, cur, h4, Nat.zero_le _, h6⟩
  · simp at hx; subst hx
    have := hblk b q
    omega
set_option maxRecDepth 20000 in
set_option maxHeartbeats 4000000 in
theorem blank_any (x : Nat) (w : World) :
    Calls Tryd.prog 25 #[.int .i32 (x : Int)] w fun e w' => e = .returned (.bool (blank x)) ∧ w = w' := by
  refine calls_of Tryd.func25 rfl (m := 5) rfl [(0, .int .i32 (x : Int))] (Fr_enter [.int .i32 (x : Int)] 5 (Nat.le_of_ble_eq_true rfl)) ?_
  have hH1 : HP Tr w w [] := HP.refl w
  refine WC.seq fun K2 hK2 => ?_
  refine WC.region ?_
  refine WL.pure (v := .bool false) 2 rfl (Nat.le_of_ble_eq_true rfl) rfl rfl (by kernel_rfl) ?_
  refine WL.nil ?_
  refine WQ.then ?_
  refine hK2 _ _ _ ?_
  refine WC.seq fun K3 hK3 => ?_
  refine WC.region ?_
  refine WL.pure (v := .int .i32 (x : Int)) 3 rfl (Nat.le_of_ble_eq_true rfl) rfl rfl (by kernel_rfl) ?_
  by_cases h : (x : Int) = 32
  ·
    refine WL.pure (v := .bool true) 4 rfl (Nat.le_of_ble_eq_true rfl) rfl rfl (x_eql rfl rfl rfl (dT (h))) ?_
    refine WL.pure (v := .bool true) 2 rfl (Nat.le_of_ble_eq_true rfl) rfl rfl (by kernel_rfl) ?_
    refine WL.nil ?_
    refine WQ.then ?_
    refine hK3 _ _ _ ?_
    refine WC.ret ?_
    refine WQ.ret1 2 rfl rfl ?_
    exact ⟨by rw [show blank x = true from decide_eq_true (by omega)], rfl⟩
  ·
    refine WL.pure (v := .bool false) 4 rfl (Nat.le_of_ble_eq_true rfl) rfl rfl (x_eql rfl rfl rfl (dF (h))) ?_
    refine WL.pure (v := .bool false) 2 rfl (Nat.le_of_ble_eq_true rfl) rfl rfl (by kernel_rfl) ?_
    refine WL.nil ?_
    refine WQ.then ?_
    refine hK3 _ _ _ ?_
    refine WC.ret ?_
    refine WQ.ret1 2 rfl rfl ?_
    exact ⟨by rw [show blank x = false from decide_eq_false (by omega)], rfl⟩
theorem fields_any (l : List UInt8) (w : World) (hl : l.length ≤ 4294967296) :
    Calls Tryd.prog 24 #[.string (bS l), .func (.func 25) #[] #[]] w fun e w' => ∃ pv cp, e = .returned (.slice pv (wl [] l).length cp) ∧ HP Tr w w' [rowS pv (wl [] l).length cp (wl [] l)] := by
  refine (Tryd.strings_FieldsFunc 25 #[] (fun args w => by kernel_rfl) blank (bS l) w (by rw [size_bS]; exact hl) (fun W x _ => ?_)).mono ?_
  · unfold Go.Proofs.FnGives
    rw [Array.append_empty]
    exact (blank_any x W).mono fun e w' h => ⟨h.1, 0, h.2.symm⟩
  · rintro e w' ⟨A, rfl, hA, hrow, hb⟩
    rw [fields_wl] at hrow ⊢
    rw [List.length_map] at hrow ⊢
    refine ⟨_, _, rfl, below_own hb ?_⟩
    have e1 : (List.map bS (wl [] l)).map Value.string = sL (wl [] l) := by simp [sL]
    rw [e1] at hrow
    exact hrow
theorem trim_any (l : List UInt8) (w : World) : Calls Tryd.prog 63 #[.string (bS l), .string (bS [45])] w fun e w' => e = .returned (.string (bS (strip l))) ∧ w = w' := by
  refine (Tryd.strings_TrimPrefix (bS l) (bS [45]) w).mono ?_
  rintro e w' ⟨rfl, rfl⟩
  exact ⟨by rw [← trim_strip]; rfl, rfl⟩
theorem strip_len (l : List UInt8) : (strip l).length ≤ l.length := by
  cases l with
  | nil => exact Nat.le_refl _
  | cons b t => simp only [strip]; split <;> simp
theorem dec_bad {l : List UInt8} {b : UInt8} : ∀ (i acc : Nat) {m : Nat}, Lib.decFrom acc (l.take i) = some m → l[i]? = some b → Lib.digitVal b = none → Lib.decFrom acc l = none := by
  induction l with
  | nil => intro i acc m _ h; simp at h
  | cons c r ih =>
    intro i acc m h1 h2 h3
    cases i with
    | zero =>
      simp at h2; subst h2
      simp only [Lib.decFrom, h3]
    | succ i =>
      simp only [List.take_succ_cons, Lib.decFrom] at h1 ⊢
      cases hd : Lib.digitVal c with
      | none => rfl
      | some d =>
        simp only [hd] at h1
        exact ih i _ h1 (by simpa using h2) h3
theorem sz40 : (Tryd.prog.info? 40).map (·.size) = some 1 := by kernel_rfl
set_option maxRecDepth 20000 in
set_option maxHeartbeats 4000000 in
theorem WS_any (b : Nat) (a0 : Value) (pv : Option Addr) (cp : Nat) (l s : List UInt8) (w : World) (hB : OwnB w [Ent.cel b #[a0, .slice pv l.length cp] 42, Ent.own (.slice pv l.length cp) l.length (bC l) 5 1]) (ha0 : a0 = .pointer none ∨ a0 = .pointer (some ⟨b, 0, none⟩)) (hn : l.length + s.length ≤ 1000000) :
    Calls Tryd.prog 16 #[vP b 0, .string (bS s)] w fun e w' => ∃ pv' cp', e = .returned (.tuple #[vI (s.length : Int), .nilIface]) ∧ HP (Out [Ent.cel b #[a0, .slice pv l.length cp] 42, Ent.own (.slice pv l.length cp) l.length (bC l) 5 1]) w w' [Ent.cel b #[vP b 0, .slice pv' (l ++ s).length cp'] 42, Ent.own (.slice pv' (l ++ s).length cp') (l ++ s).length (bC (l ++ s)) 5 1] := by
  refine calls_of Tryd.func16 rfl (m := 19) rfl [(0, vP b 0), (1, .string (bS s))] (Fr_enter [vP b 0, .string (bS s)] 19 (Nat.le_of_ble_eq_true rfl)) ?_
  refine WC.seq fun K1 hK1 => ?_
  refine WC.region ?_
  refine WL.pure (v := vI 0) 4 rfl (Nat.le_of_ble_eq_true rfl) rfl rfl (by kernel_rfl) ?_
  refine WL.pure (v := .nilIface) 5 rfl (Nat.le_of_ble_eq_true rfl) rfl rfl (by kernel_rfl) ?_
  refine WL.nil ?_
  refine WQ.then ?_
  refine hK1 _ _ _ ?_
  refine WC.seq fun K2 hK2 => ?_
  refine WC.region ?_
  refine WL.pure (v := vP b 0) 6 rfl (Nat.le_of_ble_eq_true rfl) rfl rfl (by kernel_rfl) ?_
  refine WL.call (f := 37) (args := #[vP b 0]) 7 rfl (Nat.le_of_ble_eq_true rfl) rfl rfl (by kernel_rfl) ?_
  rcases ha0 with rfl | rfl
  ·
    refine (cc_fresh b _ (HP.cell (HP.startB hB) 0 rfl rfl) (by have q := HP.get (HP.startB hB) 0 rfl; unfold World.shape?; rw [show _ = some _ from q]; rfl) (HP.free (HP.startB hB) 0 rfl)).mono ?_
    rintro e w1 ⟨rfl, rfl⟩
    refine ⟨_, rfl, ?_⟩
    have hH3 : HP (Out [Ent.cel b #[(.pointer none), .slice pv l.length cp] 42, Ent.own (.slice pv l.length cp) l.length (bC l) 5 1]) w _ [.cel b #[vP b 0, .slice pv l.length cp] 42, .own (.slice pv l.length cp) l.length (bC l) 5 1] := HP.set (off := 0) (v := vP b 0) (HP.startB hB) 0 rfl
    refine WL.nil ?_
    refine WQ.then ?_
    refine hK2 _ _ _ ?_
    refine WC.seq fun K4 hK4 => ?_
    refine WC.region ?_
    refine WL.pure (v := vP b 0) 8 rfl (Nat.le_of_ble_eq_true rfl) rfl rfl (by kernel_rfl) ?_
    refine WL.pure (v := vP b 0) 9 rfl (Nat.le_of_ble_eq_true rfl) rfl rfl (by kernel_rfl) ?_
    refine WL.pure (v := vP b 0) 10 rfl (Nat.le_of_ble_eq_true rfl) rfl rfl (by kernel_rfl) ?_
    refine WL.pure (v := vP b 1) 11 rfl (Nat.le_of_ble_eq_true rfl) rfl rfl (by kernel_rfl) ?_
    refine WL.pure (v := .slice pv l.length cp) 12 rfl (Nat.le_of_ble_eq_true rfl) rfl rfl (x_load rfl rfl Tryd.underlying40 rfl (HP.cell hH3 0 rfl rfl)) ?_
    refine WL.pure (v := .string (bS s)) 13 rfl (Nat.le_of_ble_eq_true rfl) rfl rfl (by kernel_rfl) ?_
    obtain ⟨i0, hi0, hz0, hz1, hz2⟩ := infoB
    refine WL.appendStr (s := bS s) 1 hH3 14 rfl (by decide) rfl rfl rfl rfl Tryd.underlying40 Tryd.underlying9 hi0 hz0 hz1 hz2 rfl (by rw [size_bS]; omega) ?_
    rintro v7 w7 hA
    have e7 : l.length + (bS s).size = (l ++ s).length := by rw [List.length_append]; rfl
    rw [e7] at hA
    obtain ⟨pv7, cp7, rfl⟩ := own_rowG (HP.get hA 1 rfl)
    have hH5 : HP (Out [Ent.cel b #[(.pointer none), .slice pv l.length cp] 42, Ent.own (.slice pv l.length cp) l.length (bC l) 5 1]) w _ [.cel b #[vP b 0, .slice pv l.length cp] 42, .own (.slice pv7 (l ++ s).length cp7) (l ++ s).length (bC (l ++ s)) 5 1] := HP.eq hA (by simp only [bC, Lib.strCells, List.map_append]; rfl)
    refine WL.pure (v := vP b 0) 15 rfl (Nat.le_of_ble_eq_true rfl) rfl rfl (by kernel_rfl) ?_
    refine WL.pure (v := vP b 1) 16 rfl (Nat.le_of_ble_eq_true rfl) rfl rfl (by kernel_rfl) ?_
    refine WL.store (H2 := [.cel b #[vP b 0, .slice pv7 ((l ++ s).length) cp7] 42, .own (.slice pv7 (l ++ s).length cp7) (l ++ s).length (bC (l ++ s)) 5 1]) 0 hH5 rfl rfl rfl rfl rfl rfl sz40 rfl (Nat.le_of_ble_eq_true rfl) rfl rfl ?_
    intro w6 hH7
    refine WL.nil ?_
    refine WQ.then ?_
    refine hK4 _ _ _ ?_
    refine WC.sub (l' := [(0, vP b 0), (1, .string (bS s)), (4, vI 0), (5, .nilIface)]) ⟨rfl, rfl, rfl, rfl, trivial⟩ ?_
    refine WC.seq fun K8 hK8 => ?_
    refine WC.region ?_
    refine WL.pure (v := .string (bS s)) 17 rfl (Nat.le_of_ble_eq_true rfl) rfl rfl (by kernel_rfl) ?_
    refine WL.pure (v := vI (s.length : Int)) 18 rfl (Nat.le_of_ble_eq_true rfl) rfl rfl (x_slen (s) rfl rfl rfl Tryd.underlying9) ?_
    refine WL.pure (v := vI (s.length : Int)) 4 rfl (Nat.le_of_ble_eq_true rfl) rfl rfl (by kernel_rfl) ?_
    refine WL.pure (v := .nilIface) 5 rfl (Nat.le_of_ble_eq_true rfl) rfl rfl (by kernel_rfl) ?_
    refine WL.nil ?_
    refine WQ.then ?_
    refine hK8 _ _ _ ?_
    refine WC.ret ?_
    refine WQ.ret2 4 5 rfl rfl rfl ?_
    exact ⟨pv7, cp7, rfl, hH7⟩
  ·
    refine ((cc_used b _ (HP.cell (HP.startB hB) 0 rfl rfl)).mono fun e w2 h => And.intro h.1 h.2.symm).mono ?_
    rintro e w1 ⟨rfl, rfl⟩
    refine ⟨_, rfl, ?_⟩
    have hH9 : HP (Out [Ent.cel b #[(.pointer (some ⟨b, 0, none⟩)), .slice pv l.length cp] 42, Ent.own (.slice pv l.length cp) l.length (bC l) 5 1]) w _ [.cel b #[vP b 0, .slice pv l.length cp] 42, .own (.slice pv l.length cp) l.length (bC l) 5 1] := (HP.startB hB)
    refine WL.nil ?_
    refine WQ.then ?_
    refine hK2 _ _ _ ?_
    refine WC.seq fun K10 hK10 => ?_
    refine WC.region ?_
    refine WL.pure (v := vP b 0) 8 rfl (Nat.le_of_ble_eq_true rfl) rfl rfl (by kernel_rfl) ?_
    refine WL.pure (v := vP b 0) 9 rfl (Nat.le_of_ble_eq_true rfl) rfl rfl (by kernel_rfl) ?_
    refine WL.pure (v := vP b 0) 10 rfl (Nat.le_of_ble_eq_true rfl) rfl rfl (by kernel_rfl) ?_
    refine WL.pure (v := vP b 1) 11 rfl (Nat.le_of_ble_eq_true rfl) rfl rfl (by kernel_rfl) ?_
    refine WL.pure (v := .slice pv l.length cp) 12 rfl (Nat.le_of_ble_eq_true rfl) rfl rfl (x_load rfl rfl Tryd.underlying40 rfl (HP.cell hH9 0 rfl rfl)) ?_
    refine WL.pure (v := .string (bS s)) 13 rfl (Nat.le_of_ble_eq_true rfl) rfl rfl (by kernel_rfl) ?_
    obtain ⟨i0, hi0, hz0, hz1, hz2⟩ := infoB
    refine WL.appendStr (s := bS s) 1 hH9 14 rfl (by decide) rfl rfl rfl rfl Tryd.underlying40 Tryd.underlying9 hi0 hz0 hz1 hz2 rfl (by rw [size_bS]; omega) ?_
    rintro v7 w7 hA
    have e7 : l.length + (bS s).size = (l ++ s).length := by rw [List.length_append]; rfl
    rw [e7] at hA
    obtain ⟨pv7, cp7, rfl⟩ := own_rowG (HP.get hA 1 rfl)
    have hH11 : HP (Out [Ent.cel b #[(.pointer (some ⟨b, 0, none⟩)), .slice pv l.length cp] 42, Ent.own (.slice pv l.length cp) l.length (bC l) 5 1]) w _ [.cel b #[vP b 0, .slice pv l.length cp] 42, .own (.slice pv7 (l ++ s).length cp7) (l ++ s).length (bC (l ++ s)) 5 1] := HP.eq hA (by simp only [bC, Lib.strCells, List.map_append]; rfl)
    refine WL.pure (v := vP b 0) 15 rfl (Nat.le_of_ble_eq_true rfl) rfl rfl (by kernel_rfl) ?_
    refine WL.pure (v := vP b 1) 16 rfl (Nat.le_of_ble_eq_true rfl) rfl rfl (by kernel_rfl) ?_
    refine WL.store (H2 := [.cel b #[vP b 0, .slice pv7 ((l ++ s).length) cp7] 42, .own (.slice pv7 (l ++ s).length cp7) (l ++ s).length (bC (l ++ s)) 5 1]) 0 hH11 rfl rfl rfl rfl rfl rfl sz40 rfl (Nat.le_of_ble_eq_true rfl) rfl rfl ?_
    intro w12 hH13
    refine WL.nil ?_
    refine WQ.then ?_
    refine hK10 _ _ _ ?_
    refine WC.sub (l' := [(0, vP b 0), (1, .string (bS s)), (4, vI 0), (5, .nilIface)]) ⟨rfl, rfl, rfl, rfl, trivial⟩ ?_
    refine WC.seq fun K14 hK14 => ?_
    refine WC.region ?_
    refine WL.pure (v := .string (bS s)) 17 rfl (Nat.le_of_ble_eq_true rfl) rfl rfl (by kernel_rfl) ?_
    refine WL.pure (v := vI (s.length : Int)) 18 rfl (Nat.le_of_ble_eq_true rfl) rfl rfl (x_slen (s) rfl rfl rfl Tryd.underlying9) ?_
    refine WL.pure (v := vI (s.length : Int)) 4 rfl (Nat.le_of_ble_eq_true rfl) rfl rfl (by kernel_rfl) ?_
    refine WL.pure (v := .nilIface) 5 rfl (Nat.le_of_ble_eq_true rfl) rfl rfl (by kernel_rfl) ?_
    refine WL.nil ?_
    refine WQ.then ?_
    refine hK14 _ _ _ ?_
    refine WC.ret ?_
    refine WQ.ret2 4 5 rfl rfl rfl ?_
    exact ⟨pv7, cp7, rfl, hH13⟩
set_option maxRecDepth 20000 in
set_option maxHeartbeats 4000000 in
theorem scut_any (l : List UInt8) (w : World) (hl : l.length ≤ 1000000) :
    Calls Tryd.prog 45 #[.string (bS l), .string (bS ([10]))] w fun e w' => ((no 10 l ∧ e = .returned (.tuple #[.string (bS l), .string (bS []), .bool false])) ∨ (∃ l1 l2, l = l1 ++ 10 :: l2 ∧ no 10 l1 ∧ e = .returned (.tuple #[.string (bS l1), .string (bS l2), .bool true]))) ∧ Below w.heap.size w w' := by
  refine calls_of Tryd.func45 rfl (m := 23) rfl [(0, .string (bS l)), (1, .string (bS ([10])))] (Fr_enter [.string (bS l), .string (bS ([10]))] 23 (Nat.le_of_ble_eq_true rfl)) ?_
  have hH1 : HP Tr w w [] := HP.refl w
  refine WC.seq fun K2 hK2 => ?_
  refine WC.region ?_
  refine WL.pure (v := .string (bS [])) 4 rfl (Nat.le_of_ble_eq_true rfl) rfl rfl (by kernel_rfl) ?_
  refine WL.pure (v := .string (bS [])) 5 rfl (Nat.le_of_ble_eq_true rfl) rfl rfl (by kernel_rfl) ?_
  refine WL.pure (v := .bool false) 6 rfl (Nat.le_of_ble_eq_true rfl) rfl rfl (by kernel_rfl) ?_
  refine WL.nil ?_
  refine WQ.then ?_
  refine hK2 _ _ _ ?_
  refine WC.seq fun K3 hK3 => ?_
  refine WC.seq fun K4 hK4 => ?_
  refine WC.region ?_
  refine WL.pure (v := .string (bS l)) 8 rfl (Nat.le_of_ble_eq_true rfl) rfl rfl (by kernel_rfl) ?_
  refine WL.pure (v := .string (bS ([10]))) 9 rfl (Nat.le_of_ble_eq_true rfl) rfl rfl (by kernel_rfl) ?_
  refine WL.call (f := 61) (args := #[.string (bS l), .string (bS ([10]))]) 10 rfl (Nat.le_of_ble_eq_true rfl) rfl rfl (by kernel_rfl) ?_
  refine ((Tryd.stringslite_Index_one (bS l) 10 _).mono fun e w2 h => And.intro h.1 h.2.symm).mono ?_
  rintro e w5 ⟨rfl, rfl⟩
  refine ⟨_, rfl, ?_⟩
  refine WL.pure (v := vI (Lib.indexByte l 10)) 7 rfl (Nat.le_of_ble_eq_true rfl) rfl rfl (by kernel_rfl) ?_
  refine WL.nil ?_
  refine WQ.then ?_
  refine hK4 _ _ _ ?_
  refine WC.seq fun K6 hK6 => ?_
  refine WC.region ?_
  refine WL.pure (v := vI (Lib.indexByte l 10)) 11 rfl (Nat.le_of_ble_eq_true rfl) rfl rfl (by kernel_rfl) ?_
  by_cases hc : (0 : Int) ≤ (Lib.indexByte l 10)
  ·
    refine WL.pure (v := .bool true) 12 rfl (Nat.le_of_ble_eq_true rfl) rfl rfl (x_geq rfl rfl rfl (dT (hc))) ?_
    refine WL.nil ?_
    refine WQ.then ?_
    refine hK6 _ _ _ ?_
    refine WC.yes rfl ?_
    refine WC.seq fun K7 hK7 => ?_
    obtain ⟨k, hk⟩ : ∃ k : Nat, Lib.indexByte l 10 = (k : Int) := ⟨(Lib.indexByte l 10).toNat, by omega⟩
    obtain ⟨hk1, hk2, hk3⟩ := split_idx hk
    refine WC.still (by kernel_rfl) (by kernel_rfl) ?_
    have hH8 : HP Tr w _ [] := HP.drew hH1
    refine WS.val (v := .string (bS l)) 13 rfl (Nat.le_of_ble_eq_true rfl) rfl rfl (by kernel_rfl) ?_
    refine WS.val (v := vI (Lib.indexByte l 10)) 14 rfl (Nat.le_of_ble_eq_true rfl) rfl rfl (by kernel_rfl) ?_
    refine WS.val (v := .string (bS (l.take k))) 15 rfl (Nat.le_of_ble_eq_true rfl) rfl rfl (x_shi (l) (k) rfl rfl rfl Tryd.underlying9 (hk) (by omega)) ?_
    refine WS.val (v := .string (bS l)) 16 rfl (Nat.le_of_ble_eq_true rfl) rfl rfl (by kernel_rfl) ?_
    refine WS.val (v := vI (Lib.indexByte l 10)) 17 rfl (Nat.le_of_ble_eq_true rfl) rfl rfl (by kernel_rfl) ?_
    refine WS.val (v := .string (bS ([10]))) 18 rfl (Nat.le_of_ble_eq_true rfl) rfl rfl (by kernel_rfl) ?_
    refine WS.val (v := vI ((([10]).length : Nat) : Int)) 19 rfl (Nat.le_of_ble_eq_true rfl) rfl rfl (x_slen (([10])) rfl rfl rfl Tryd.underlying9) ?_
    refine WS.val (v := vI ((k + 1 : Nat) : Int)) 20 rfl (Nat.le_of_ble_eq_true rfl) rfl rfl (x_add (Z := ((k + 1 : Nat) : Int)) rfl rfl rfl (by rw [hk]; simp) (by omega) (by omega)) ?_
    refine WS.val (v := .string (bS (l.drop (k + 1)))) 21 rfl (Nat.le_of_ble_eq_true rfl) rfl rfl (x_slo (l) (k + 1) rfl rfl rfl Tryd.underlying9 (by omega) (by omega)) ?_
    refine WS.val (v := .string (bS (l.take k))) 4 rfl (Nat.le_of_ble_eq_true rfl) rfl rfl (by kernel_rfl) ?_
    refine WS.val (v := .string (bS (l.drop (k + 1)))) 5 rfl (Nat.le_of_ble_eq_true rfl) rfl rfl (by kernel_rfl) ?_
    refine WS.val (v := .bool true) 6 rfl (Nat.le_of_ble_eq_true rfl) rfl rfl (by kernel_rfl) ?_
    refine WS.nilQ ?_
    refine WQ.then ?_
    refine hK7 _ _ _ ?_
    refine WC.sub (l' := [(0, .string (bS l)), (1, .string (bS ([10]))), (4, .string (bS (l.take k))), (5, .string (bS (l.drop (k + 1)))), (6, .bool true), (7, vI (Lib.indexByte l 10)), (12, .bool true)]) ⟨rfl, rfl, rfl, rfl, rfl, rfl, rfl, trivial⟩ ?_
    refine WC.ret ?_
    refine WQ.thenRet ?_
    refine WQ.ret3 4 5 6 rfl rfl rfl rfl ?_
    exact ⟨.inr ⟨_, _, hk2, hk3, rfl⟩, HP.below hH8⟩
  ·
    refine WL.pure (v := .bool false) 12 rfl (Nat.le_of_ble_eq_true rfl) rfl rfl (x_geq rfl rfl rfl (dF (hc))) ?_
    refine WL.nil ?_
    refine WQ.then ?_
    refine hK6 _ _ _ ?_
    refine WC.no rfl ?_
    refine WC.skip ?_
    refine WQ.then ?_
    refine hK3 _ _ _ ?_
    refine WC.seq fun K9 hK9 => ?_
    refine WC.region ?_
    refine WL.pure (v := .string (bS l)) 22 rfl (Nat.le_of_ble_eq_true rfl) rfl rfl (by kernel_rfl) ?_
    refine WL.pure (v := .string (bS l)) 4 rfl (Nat.le_of_ble_eq_true rfl) rfl rfl (by kernel_rfl) ?_
    refine WL.pure (v := .string (bS [])) 5 rfl (Nat.le_of_ble_eq_true rfl) rfl rfl (by kernel_rfl) ?_
    refine WL.pure (v := .bool false) 6 rfl (Nat.le_of_ble_eq_true rfl) rfl rfl (by kernel_rfl) ?_
    refine WL.nil ?_
    refine WQ.then ?_
    refine hK9 _ _ _ ?_
    refine WC.sub (l' := [(0, .string (bS l)), (1, .string (bS ([10]))), (4, .string (bS l)), (5, .string (bS [])), (6, .bool false), (7, vI (Lib.indexByte l 10)), (12, .bool false)]) ⟨rfl, rfl, rfl, rfl, rfl, rfl, rfl, trivial⟩ ?_
    refine WC.ret ?_
    refine WQ.ret3 4 5 6 rfl rfl rfl rfl ?_
    exact ⟨.inl ⟨no_idx hc, rfl⟩, HP.below hH1⟩
set_option maxRecDepth 20000 in
set_option maxHeartbeats 4000000 in
theorem cut_any (l : List UInt8) (w : World) (hl : l.length ≤ 1000000) :
    Calls Tryd.prog 23 #[.string (bS l), .string (bS ([10]))] w fun e w' => ((no 10 l ∧ e = .returned (.tuple #[.string (bS l), .string (bS []), .bool false])) ∨ (∃ l1 l2, l = l1 ++ 10 :: l2 ∧ no 10 l1 ∧ e = .returned (.tuple #[.string (bS l1), .string (bS l2), .bool true]))) ∧ Below w.heap.size w w' := by
  refine calls_of Tryd.func23 rfl (m := 13) rfl [(0, .string (bS l)), (1, .string (bS ([10])))] (Fr_enter [.string (bS l), .string (bS ([10]))] 13 (Nat.le_of_ble_eq_true rfl)) ?_
  have hH1 : HP Tr w w [] := HP.refl w
  refine WC.seq fun K2 hK2 => ?_
  refine WC.region ?_
  refine WL.pure (v := .string (bS [])) 4 rfl (Nat.le_of_ble_eq_true rfl) rfl rfl (by kernel_rfl) ?_
  refine WL.pure (v := .string (bS [])) 5 rfl (Nat.le_of_ble_eq_true rfl) rfl rfl (by kernel_rfl) ?_
  refine WL.pure (v := .bool false) 6 rfl (Nat.le_of_ble_eq_true rfl) rfl rfl (by kernel_rfl) ?_
  refine WL.nil ?_
  refine WQ.then ?_
  refine hK2 _ _ _ ?_
  refine WC.seq fun K3 hK3 => ?_
  refine WC.region ?_
  refine WL.pure (v := .string (bS l)) 7 rfl (Nat.le_of_ble_eq_true rfl) rfl rfl (by kernel_rfl) ?_
  refine WL.pure (v := .string (bS ([10]))) 8 rfl (Nat.le_of_ble_eq_true rfl) rfl rfl (by kernel_rfl) ?_
  refine WL.call (f := 45) (args := #[.string (bS l), .string (bS ([10]))]) 9 rfl (Nat.le_of_ble_eq_true rfl) rfl rfl (by kernel_rfl) ?_
  refine (scut_any l _ hl).mono ?_
  rintro e w1 ⟨⟨hno, rfl⟩ | ⟨l1, l2, hl12, hno, rfl⟩, hb⟩
  ·
    refine ⟨_, rfl, ?_⟩
    have hH4 : HP Tr w _ [] := HP.call hH1 hb
    refine WL.pure (v := .string (bS l)) 10 rfl (Nat.le_of_ble_eq_true rfl) rfl rfl (by kernel_rfl) ?_
    refine WL.pure (v := .string (bS ([]))) 11 rfl (Nat.le_of_ble_eq_true rfl) rfl rfl (by kernel_rfl) ?_
    refine WL.pure (v := .bool false) 12 rfl (Nat.le_of_ble_eq_true rfl) rfl rfl (by kernel_rfl) ?_
    refine WL.pure (v := .string (bS l)) 4 rfl (Nat.le_of_ble_eq_true rfl) rfl rfl (by kernel_rfl) ?_
    refine WL.pure (v := .string (bS ([]))) 5 rfl (Nat.le_of_ble_eq_true rfl) rfl rfl (by kernel_rfl) ?_
    refine WL.pure (v := .bool false) 6 rfl (Nat.le_of_ble_eq_true rfl) rfl rfl (by kernel_rfl) ?_
    refine WL.nil ?_
    refine WQ.then ?_
    refine hK3 _ _ _ ?_
    refine WC.sub (l' := [(0, .string (bS l)), (1, .string (bS ([10]))), (4, .string (bS l)), (5, .string (bS ([]))), (6, .bool false)]) ⟨rfl, rfl, rfl, rfl, rfl, trivial⟩ ?_
    refine WC.ret ?_
    refine WQ.ret3 4 5 6 rfl rfl rfl rfl ?_
    exact ⟨.inl ⟨hno, rfl⟩, HP.below hH4⟩
  ·
    refine ⟨_, rfl, ?_⟩
    have hH5 : HP Tr w _ [] := HP.call hH1 hb
    refine WL.pure (v := .string (bS l1)) 10 rfl (Nat.le_of_ble_eq_true rfl) rfl rfl (by kernel_rfl) ?_
    refine WL.pure (v := .string (bS l2)) 11 rfl (Nat.le_of_ble_eq_true rfl) rfl rfl (by kernel_rfl) ?_
    refine WL.pure (v := .bool true) 12 rfl (Nat.le_of_ble_eq_true rfl) rfl rfl (by kernel_rfl) ?_
    refine WL.pure (v := .string (bS l1)) 4 rfl (Nat.le_of_ble_eq_true rfl) rfl rfl (by kernel_rfl) ?_
    refine WL.pure (v := .string (bS l2)) 5 rfl (Nat.le_of_ble_eq_true rfl) rfl rfl (by kernel_rfl) ?_
    refine WL.pure (v := .bool true) 6 rfl (Nat.le_of_ble_eq_true rfl) rfl rfl (by kernel_rfl) ?_
    refine WL.nil ?_
    refine WQ.then ?_
    refine hK3 _ _ _ ?_
    refine WC.sub (l' := [(0, .string (bS l)), (1, .string (bS ([10]))), (4, .string (bS l1)), (5, .string (bS l2)), (6, .bool true)]) ⟨rfl, rfl, rfl, rfl, rfl, trivial⟩ ?_
    refine WC.ret ?_
    refine WQ.ret3 4 5 6 rfl rfl rfl rfl ?_
    exact ⟨.inr ⟨l1, l2, hl12, hno, rfl⟩, HP.below hH5⟩
set_option maxRecDepth 20000 in
set_option maxHeartbeats 4000000 in
theorem decimal_any (l : List UInt8) (w : World) (hl : l.length ≤ 1000000) (hE : Ev w) :
    Calls Tryd.prog 48 #[.string (bS l)] w fun e w' => ((∃ n, numV l = some n ∧ e = .returned (.tuple #[vI n, .bool true])) ∨ (numV l = none ∧ ∃ v, e = .returned (.tuple #[vI v, .bool false]))) ∧ Below w.heap.size w w' := by
  refine calls_of Tryd.func48 rfl (m := 26) rfl [(0, .string (bS l))] (Fr_enter [.string (bS l)] 26 (Nat.le_of_ble_eq_true rfl)) ?_
  have hH1 : HP Tr w w [] := HP.refl w
  refine WC.seq fun K2 hK2 => ?_
  refine WC.region ?_
  refine WL.pure (v := vI 0) 2 rfl (Nat.le_of_ble_eq_true rfl) rfl rfl (by kernel_rfl) ?_
  refine WL.pure (v := .bool false) 3 rfl (Nat.le_of_ble_eq_true rfl) rfl rfl (by kernel_rfl) ?_
  refine WL.nil ?_
  refine WQ.then ?_
  refine hK2 _ _ _ ?_
  refine WC.seq fun K3 hK3 => ?_
  refine WC.region ?_
  refine WL.pure (v := .string (bS l)) 7 rfl (Nat.le_of_ble_eq_true rfl) rfl rfl (by kernel_rfl) ?_
  refine WL.call (f := 62) (args := #[.string (bS l)]) 8 rfl (Nat.le_of_ble_eq_true rfl) rfl rfl (by kernel_rfl) ?_
  refine (atoi_any l _ (by omega) (hE.below (HP.below hH1))).mono ?_
  rintro e w2 (⟨v, hv, rfl, hb⟩ | ⟨v, N, hv, rfl, hb⟩)
  ·
    refine ⟨_, rfl, ?_⟩
    have hH4 : HP Tr w _ [] := HP.call hH1 hb
    have hvb := Lib.atoiAll_bounds hv
    refine WL.pure (v := .tuple #[vI v, .nilIface]) 6 rfl (Nat.le_of_ble_eq_true rfl) rfl rfl (by kernel_rfl) ?_
    refine WL.pure (v := vI v) 9 rfl (Nat.le_of_ble_eq_true rfl) rfl rfl (by kernel_rfl) ?_
    refine WL.pure (v := .nilIface) 10 rfl (Nat.le_of_ble_eq_true rfl) rfl rfl (by kernel_rfl) ?_
    refine WL.pure (v := vI v) 4 rfl (Nat.le_of_ble_eq_true rfl) rfl rfl (by kernel_rfl) ?_
    refine WL.pure (v := .nilIface) 5 rfl (Nat.le_of_ble_eq_true rfl) rfl rfl (by kernel_rfl) ?_
    refine WL.nil ?_
    refine WQ.then ?_
    refine hK3 _ _ _ ?_
    refine WC.seq fun K5 hK5 => ?_
    refine WC.region ?_
    refine WL.pure (v := vI v) 11 rfl (Nat.le_of_ble_eq_true rfl) rfl rfl (by kernel_rfl) ?_
    refine WL.pure (v := .nilIface) 12 rfl (Nat.le_of_ble_eq_true rfl) rfl rfl (by kernel_rfl) ?_
    refine WL.pure (v := .bool true) 13 rfl (Nat.le_of_ble_eq_true rfl) rfl rfl (by kernel_rfl) ?_
    refine WL.pure (v := .bool true) 14 rfl (Nat.le_of_ble_eq_true rfl) rfl rfl (by kernel_rfl) ?_
    refine WL.pure (v := vI v) 15 rfl (Nat.le_of_ble_eq_true rfl) rfl rfl (by kernel_rfl) ?_
    refine WL.call (f := 18) (args := #[vI v]) 16 rfl (Nat.le_of_ble_eq_true rfl) rfl rfl (by kernel_rfl) ?_
    refine (itoa_any v _ hvb (hE.below (HP.below hH4))).mono ?_
    rintro e w6 ⟨rfl, hb7⟩
    refine ⟨_, rfl, ?_⟩
    have hH8 : HP Tr w _ [] := HP.call hH4 hb7
    refine WL.pure (v := .string (bS l)) 17 rfl (Nat.le_of_ble_eq_true rfl) rfl rfl (by kernel_rfl) ?_
    by_cases hs : (Lib.itoa v) = l
    ·
      refine WL.pure (v := .bool true) 18 rfl (Nat.le_of_ble_eq_true rfl) rfl rfl (x_eqls rfl rfl rfl (dT (congrArg bS hs))) ?_
      refine WL.pure (v := .bool true) 19 rfl (Nat.le_of_ble_eq_true rfl) rfl rfl (by kernel_rfl) ?_
      refine WL.pure (v := .bool true) 20 rfl (Nat.le_of_ble_eq_true rfl) rfl rfl (by kernel_rfl) ?_
      refine WL.pure (v := .string (bS l)) 21 rfl (Nat.le_of_ble_eq_true rfl) rfl rfl (by kernel_rfl) ?_
      refine WL.call (f := 63) (args := #[.string (bS l), .string (bS [45])]) 22 rfl (Nat.le_of_ble_eq_true rfl) rfl rfl (by kernel_rfl) ?_
      refine (trim_any l _).mono ?_
      rintro e w9 ⟨rfl, rfl⟩
      refine ⟨_, rfl, ?_⟩
      refine WL.pure (v := vI (((strip l).length : Nat) : Int)) 23 rfl (Nat.le_of_ble_eq_true rfl) rfl rfl (x_slen ((strip l)) rfl rfl rfl Tryd.underlying9) ?_
      by_cases h10 : (((strip l).length : Nat) : Int) ≤ 10
      ·
        refine WL.pure (v := .bool true) 24 rfl (Nat.le_of_ble_eq_true rfl) rfl rfl (x_leq rfl rfl rfl (dT (h10))) ?_
        refine WL.pure (v := .bool true) 25 rfl (Nat.le_of_ble_eq_true rfl) rfl rfl (by kernel_rfl) ?_
        refine WL.pure (v := vI v) 2 rfl (Nat.le_of_ble_eq_true rfl) rfl rfl (by kernel_rfl) ?_
        refine WL.pure (v := .bool true) 3 rfl (Nat.le_of_ble_eq_true rfl) rfl rfl (by kernel_rfl) ?_
        refine WL.nil ?_
        refine WQ.then ?_
        refine hK5 _ _ _ ?_
        refine WC.sub (l' := [(0, .string (bS l)), (2, vI v), (3, .bool true), (4, vI v), (5, .nilIface)]) ⟨rfl, rfl, rfl, rfl, rfl, trivial⟩ ?_
        refine WC.ret ?_
        refine WQ.ret2 2 3 rfl rfl rfl ?_
        exact ⟨.inl ⟨v, dec_yes hs (by omega), rfl⟩, HP.below hH8⟩
      ·
        refine WL.pure (v := .bool false) 24 rfl (Nat.le_of_ble_eq_true rfl) rfl rfl (x_leq rfl rfl rfl (dF (h10))) ?_
        refine WL.pure (v := .bool false) 25 rfl (Nat.le_of_ble_eq_true rfl) rfl rfl (by kernel_rfl) ?_
        refine WL.pure (v := vI v) 2 rfl (Nat.le_of_ble_eq_true rfl) rfl rfl (by kernel_rfl) ?_
        refine WL.pure (v := .bool false) 3 rfl (Nat.le_of_ble_eq_true rfl) rfl rfl (by kernel_rfl) ?_
        refine WL.nil ?_
        refine WQ.then ?_
        refine hK5 _ _ _ ?_
        refine WC.sub (l' := [(0, .string (bS l)), (2, vI v), (3, .bool false), (4, vI v), (5, .nilIface)]) ⟨rfl, rfl, rfl, rfl, rfl, trivial⟩ ?_
        refine WC.ret ?_
        refine WQ.ret2 2 3 rfl rfl rfl ?_
        refine ⟨.inr ⟨?_, v, rfl⟩, HP.below hH8⟩
        cases hnv : numV l with
        | none => rfl
        | some n =>
          obtain ⟨g1, g2, g3⟩ := dec_no hnv
          rw [hv] at g1; cases g1
          first | exact absurd g2 hs | omega
    ·
      refine WL.pure (v := .bool false) 18 rfl (Nat.le_of_ble_eq_true rfl) rfl rfl (x_eqls rfl rfl rfl (dF (fun h => hs (bS_inj h)))) ?_
      refine WL.pure (v := .bool false) 19 rfl (Nat.le_of_ble_eq_true rfl) rfl rfl (by kernel_rfl) ?_
      refine WL.pure (v := .bool false) 20 rfl (Nat.le_of_ble_eq_true rfl) rfl rfl (by kernel_rfl) ?_
      refine WL.pass 21 rfl (Nat.le_of_ble_eq_true rfl) rfl ?_
      refine WL.pass 22 rfl (Nat.le_of_ble_eq_true rfl) rfl ?_
      refine WL.pass 23 rfl (Nat.le_of_ble_eq_true rfl) rfl ?_
      refine WL.pass 24 rfl (Nat.le_of_ble_eq_true rfl) rfl ?_
      refine WL.pure (v := .bool false) 25 rfl (Nat.le_of_ble_eq_true rfl) rfl rfl (by kernel_rfl) ?_
      refine WL.pure (v := vI v) 2 rfl (Nat.le_of_ble_eq_true rfl) rfl rfl (by kernel_rfl) ?_
      refine WL.pure (v := .bool false) 3 rfl (Nat.le_of_ble_eq_true rfl) rfl rfl (by kernel_rfl) ?_
      refine WL.nil ?_
      refine WQ.then ?_
      refine hK5 _ _ _ ?_
      refine WC.sub (l' := [(0, .string (bS l)), (2, vI v), (3, .bool false), (4, vI v), (5, .nilIface)]) ⟨rfl, rfl, rfl, rfl, rfl, trivial⟩ ?_
      refine WC.ret ?_
      refine WQ.ret2 2 3 rfl rfl rfl ?_
      refine ⟨.inr ⟨?_, v, rfl⟩, HP.below hH8⟩
      cases hnv : numV l with
      | none => rfl
      | some n =>
        obtain ⟨g1, g2, g3⟩ := dec_no hnv
        rw [hv] at g1; cases g1
        first | exact absurd g2 hs | omega
  ·
    refine ⟨_, rfl, ?_⟩
    have hH10 : HP Tr w _ [] := HP.call hH1 hb
    refine WL.pure (v := .tuple #[vI v, .iface 129 (.pointer (some ⟨N, 0, none⟩))]) 6 rfl (Nat.le_of_ble_eq_true rfl) rfl rfl (by kernel_rfl) ?_
    refine WL.pure (v := vI v) 9 rfl (Nat.le_of_ble_eq_true rfl) rfl rfl (by kernel_rfl) ?_
    refine WL.pure (v := .iface 129 (.pointer (some ⟨N, 0, none⟩))) 10 rfl (Nat.le_of_ble_eq_true rfl) rfl rfl (by kernel_rfl) ?_
    refine WL.pure (v := vI v) 4 rfl (Nat.le_of_ble_eq_true rfl) rfl rfl (by kernel_rfl) ?_
    refine WL.pure (v := .iface 129 (.pointer (some ⟨N, 0, none⟩))) 5 rfl (Nat.le_of_ble_eq_true rfl) rfl rfl (by kernel_rfl) ?_
    refine WL.nil ?_
    refine WQ.then ?_
    refine hK3 _ _ _ ?_
    refine WC.seq fun K11 hK11 => ?_
    refine WC.region ?_
    refine WL.pure (v := vI v) 11 rfl (Nat.le_of_ble_eq_true rfl) rfl rfl (by kernel_rfl) ?_
    refine WL.pure (v := .iface 129 (.pointer (some ⟨N, 0, none⟩))) 12 rfl (Nat.le_of_ble_eq_true rfl) rfl rfl (by kernel_rfl) ?_
    refine WL.pure (v := .bool false) 13 rfl (Nat.le_of_ble_eq_true rfl) rfl rfl (by kernel_rfl) ?_
    refine WL.pure (v := .bool false) 14 rfl (Nat.le_of_ble_eq_true rfl) rfl rfl (by kernel_rfl) ?_
    refine WL.pass 15 rfl (Nat.le_of_ble_eq_true rfl) rfl ?_
    refine WL.pass 16 rfl (Nat.le_of_ble_eq_true rfl) rfl ?_
    refine WL.pass 17 rfl (Nat.le_of_ble_eq_true rfl) rfl ?_
    refine WL.pass 18 rfl (Nat.le_of_ble_eq_true rfl) rfl ?_
    refine WL.pure (v := .bool false) 19 rfl (Nat.le_of_ble_eq_true rfl) rfl rfl (by kernel_rfl) ?_
    refine WL.pure (v := .bool false) 20 rfl (Nat.le_of_ble_eq_true rfl) rfl rfl (by kernel_rfl) ?_
    refine WL.pass 21 rfl (Nat.le_of_ble_eq_true rfl) rfl ?_
    refine WL.pass 22 rfl (Nat.le_of_ble_eq_true rfl) rfl ?_
    refine WL.pass 23 rfl (Nat.le_of_ble_eq_true rfl) rfl ?_
    refine WL.pass 24 rfl (Nat.le_of_ble_eq_true rfl) rfl ?_
    refine WL.pure (v := .bool false) 25 rfl (Nat.le_of_ble_eq_true rfl) rfl rfl (by kernel_rfl) ?_
    refine WL.pure (v := vI v) 2 rfl (Nat.le_of_ble_eq_true rfl) rfl rfl (by kernel_rfl) ?_
    refine WL.pure (v := .bool false) 3 rfl (Nat.le_of_ble_eq_true rfl) rfl rfl (by kernel_rfl) ?_
    refine WL.nil ?_
    refine WQ.then ?_
    refine hK11 _ _ _ ?_
    refine WC.sub (l' := [(0, .string (bS l)), (2, vI v), (3, .bool false), (4, vI v), (5, .iface 129 (.pointer (some ⟨N, 0, none⟩)))]) ⟨rfl, rfl, rfl, rfl, rfl, trivial⟩ ?_
    refine WC.ret ?_
    refine WQ.ret2 2 3 rfl rfl rfl ?_
    refine ⟨.inr ⟨?_, v, rfl⟩, HP.below hH10⟩
    cases hnv : numV l with
    | none => rfl
    | some n =>
      obtain ⟨g1, g2, g3⟩ := dec_no hnv
      exact absurd g1 (hv n)
set_option maxRecDepth 20000 in
set_option maxHeartbeats 4000000 in
theorem Number_any (l : List UInt8) (w : World) (hl : l.length ≤ 1000000) :
    Calls Tryd.prog 50 #[.string (bS l)] w fun e w' => ((∃ n, numV l = some n ∧ e = .returned (.tuple #[vI n, .bool true])) ∨ (numV l = none ∧ ∃ v, e = .returned (.tuple #[vI v, .bool false]))) ∧ Below w.heap.size w w' := by
  refine calls_of Tryd.func50 rfl (m := 65) rfl [(0, .string (bS l))] (Fr_enter [.string (bS l)] 65 (Nat.le_of_ble_eq_true rfl)) ?_
  have hH1 : HP Tr w w [] := HP.refl w
  refine WC.seq fun K2 hK2 => ?_
  refine WC.region ?_
  refine WL.pure (v := vI 0) 2 rfl (Nat.le_of_ble_eq_true rfl) rfl rfl (by kernel_rfl) ?_
  refine WL.pure (v := .bool false) 3 rfl (Nat.le_of_ble_eq_true rfl) rfl rfl (by kernel_rfl) ?_
  refine WL.nil ?_
  refine WQ.then ?_
  refine hK2 _ _ _ ?_
  refine WC.seq fun K3 hK3 => ?_
  refine WC.region ?_
  refine WL.pure (v := .string (bS l)) 7 rfl (Nat.le_of_ble_eq_true rfl) rfl rfl (by kernel_rfl) ?_
  refine WL.pure (v := .string (bS l)) 4 rfl (Nat.le_of_ble_eq_true rfl) rfl rfl (by kernel_rfl) ?_
  refine WL.nil ?_
  refine WQ.then ?_
  refine hK3 _ _ _ ?_
  refine WC.seq fun K4 hK4 => ?_
  refine WC.seq fun K5 hK5 => ?_
  refine WC.region ?_
  refine WL.pure (v := .string (bS l)) 8 rfl (Nat.le_of_ble_eq_true rfl) rfl rfl (by kernel_rfl) ?_
  refine WL.pure (v := vI (l.length : Int)) 9 rfl (Nat.le_of_ble_eq_true rfl) rfl rfl (x_slen (l) rfl rfl rfl Tryd.underlying9) ?_
  by_cases hlen : (0 : Int) < (l.length : Int)
  ·
    refine WL.pure (v := .bool true) 10 rfl (Nat.le_of_ble_eq_true rfl) rfl rfl (x_gtr rfl rfl rfl (dT (hlen))) ?_
    refine WL.pure (v := .bool true) 11 rfl (Nat.le_of_ble_eq_true rfl) rfl rfl (by kernel_rfl) ?_
    refine WL.pure (v := .string (bS l)) 12 rfl (Nat.le_of_ble_eq_true rfl) rfl rfl (by kernel_rfl) ?_
    obtain ⟨c0, r0, rfl⟩ : ∃ c0 r0, l = c0 :: r0 := by
      cases l with
      | nil => simp at hlen
      | cons c0 r0 => exact ⟨c0, r0, rfl⟩
    refine WL.pure (v := .int .u8 (c0.toNat : Int)) 13 rfl (Nat.le_of_ble_eq_true rfl) rfl rfl (x_sidx (c0 :: r0) 0 c0 rfl rfl rfl Tryd.underlying9 rfl rfl) ?_
    by_cases hsg : (c0.toNat : Int) = 45
    ·
      have hc45 : c0 = 45 := UInt8.toNat_inj.1 (by simpa using (by omega : c0.toNat = 45))
      refine WL.pure (v := .bool true) 14 rfl (Nat.le_of_ble_eq_true rfl) rfl rfl (x_eql rfl rfl rfl (dT (hsg))) ?_
      refine WL.pure (v := .bool true) 15 rfl (Nat.le_of_ble_eq_true rfl) rfl rfl (by kernel_rfl) ?_
      refine WL.nil ?_
      refine WQ.then ?_
      refine hK5 _ _ _ ?_
      refine WC.sub (l' := [(0, .string (bS (c0 :: r0))), (2, vI 0), (3, .bool false), (4, .string (bS (c0 :: r0))), (15, .bool true)]) ⟨rfl, rfl, rfl, rfl, rfl, trivial⟩ ?_
      refine WC.yes rfl ?_
      refine WC.region ?_
      refine WL.pure (v := .string (bS (c0 :: r0))) 16 rfl (Nat.le_of_ble_eq_true rfl) rfl rfl (by kernel_rfl) ?_
      refine WL.pure (v := .string (bS ((c0 :: r0).drop 1))) 17 rfl (Nat.le_of_ble_eq_true rfl) rfl rfl (x_slo ((c0 :: r0)) (1) rfl rfl rfl Tryd.underlying9 (by omega) (by omega)) ?_
      refine WL.pure (v := .string (bS ((c0 :: r0).drop 1))) 4 rfl (Nat.le_of_ble_eq_true rfl) rfl rfl (by kernel_rfl) ?_
      refine WL.nil ?_
      refine WQ.then ?_
      refine hK4 _ _ _ ?_
      refine WC.seq fun K6 hK6 => ?_
      refine WC.seq fun K7 hK7 => ?_
      have hst : strip (c0 :: r0) = r0 ∧ neg (c0 :: r0) = true := by subst hc45; exact ⟨rfl, rfl⟩
      refine WC.region ?_
      refine WL.pure (v := .string (bS r0)) 18 rfl (Nat.le_of_ble_eq_true rfl) rfl rfl (by kernel_rfl) ?_
      refine WL.pure (v := vI (r0.length : Int)) 19 rfl (Nat.le_of_ble_eq_true rfl) rfl rfl (x_slen (r0) rfl rfl rfl Tryd.underlying9) ?_
      by_cases ht0 : (r0.length : Int) = 0
      ·
        refine WL.pure (v := .bool true) 20 rfl (Nat.le_of_ble_eq_true rfl) rfl rfl (x_eql rfl rfl rfl (dT (ht0))) ?_
        refine WL.pure (v := .bool true) 21 rfl (Nat.le_of_ble_eq_true rfl) rfl rfl (by kernel_rfl) ?_
        refine WL.pass 22 rfl (Nat.le_of_ble_eq_true rfl) rfl ?_
        refine WL.pass 23 rfl (Nat.le_of_ble_eq_true rfl) rfl ?_
        refine WL.pass 24 rfl (Nat.le_of_ble_eq_true rfl) rfl ?_
        refine WL.pure (v := .bool true) 25 rfl (Nat.le_of_ble_eq_true rfl) rfl rfl (by kernel_rfl) ?_
        refine WL.pure (v := .bool true) 26 rfl (Nat.le_of_ble_eq_true rfl) rfl rfl (by kernel_rfl) ?_
        refine WL.pass 27 rfl (Nat.le_of_ble_eq_true rfl) rfl ?_
        refine WL.pass 28 rfl (Nat.le_of_ble_eq_true rfl) rfl ?_
        refine WL.pass 29 rfl (Nat.le_of_ble_eq_true rfl) rfl ?_
        refine WL.pass 30 rfl (Nat.le_of_ble_eq_true rfl) rfl ?_
        refine WL.pass 31 rfl (Nat.le_of_ble_eq_true rfl) rfl ?_
        refine WL.pass 32 rfl (Nat.le_of_ble_eq_true rfl) rfl ?_
        refine WL.pass 33 rfl (Nat.le_of_ble_eq_true rfl) rfl ?_
        refine WL.pure (v := .bool true) 34 rfl (Nat.le_of_ble_eq_true rfl) rfl rfl (by kernel_rfl) ?_
        refine WL.nil ?_
        refine WQ.then ?_
        refine hK7 _ _ _ ?_
        refine WC.sub (l' := [(0, .string (bS (c0 :: r0))), (2, vI 0), (3, .bool false), (4, .string (bS r0)), (15, .bool true), (34, .bool true)]) ⟨rfl, rfl, rfl, rfl, rfl, rfl, trivial⟩ ?_
        refine WC.yes rfl ?_
        refine WC.seq fun K8 hK8 => ?_
        refine WC.region ?_
        refine WL.pure (v := vI 0) 2 rfl (Nat.le_of_ble_eq_true rfl) rfl rfl (by kernel_rfl) ?_
        refine WL.pure (v := .bool false) 3 rfl (Nat.le_of_ble_eq_true rfl) rfl rfl (by kernel_rfl) ?_
        refine WL.nil ?_
        refine WQ.then ?_
        refine hK8 _ _ _ ?_
        refine WC.ret ?_
        refine WQ.thenRet ?_
        refine WQ.ret2 2 3 rfl rfl rfl ?_
        refine ⟨.inr ⟨?_, _, rfl⟩, HP.below hH1⟩
        unfold numV
        rw [hst.1, hst.2]
        rw [if_pos (.inl (List.length_eq_zero_iff.1 (by omega)))]
      ·
        refine WL.pure (v := .bool false) 20 rfl (Nat.le_of_ble_eq_true rfl) rfl rfl (x_eql rfl rfl rfl (dF (ht0))) ?_
        refine WL.pure (v := .bool false) 21 rfl (Nat.le_of_ble_eq_true rfl) rfl rfl (by kernel_rfl) ?_
        refine WL.pure (v := .string (bS r0)) 22 rfl (Nat.le_of_ble_eq_true rfl) rfl rfl (by kernel_rfl) ?_
        refine WL.pure (v := vI (r0.length : Int)) 23 rfl (Nat.le_of_ble_eq_true rfl) rfl rfl (x_slen (r0) rfl rfl rfl Tryd.underlying9) ?_
        by_cases h10 : (10 : Int) < (r0.length : Int)
        ·
          refine WL.pure (v := .bool true) 24 rfl (Nat.le_of_ble_eq_true rfl) rfl rfl (x_gtr rfl rfl rfl (dT (h10))) ?_
          refine WL.pure (v := .bool true) 25 rfl (Nat.le_of_ble_eq_true rfl) rfl rfl (by kernel_rfl) ?_
          refine WL.pure (v := .bool true) 26 rfl (Nat.le_of_ble_eq_true rfl) rfl rfl (by kernel_rfl) ?_
          refine WL.pass 27 rfl (Nat.le_of_ble_eq_true rfl) rfl ?_
          refine WL.pass 28 rfl (Nat.le_of_ble_eq_true rfl) rfl ?_
          refine WL.pass 29 rfl (Nat.le_of_ble_eq_true rfl) rfl ?_
          refine WL.pass 30 rfl (Nat.le_of_ble_eq_true rfl) rfl ?_
          refine WL.pass 31 rfl (Nat.le_of_ble_eq_true rfl) rfl ?_
          refine WL.pass 32 rfl (Nat.le_of_ble_eq_true rfl) rfl ?_
          refine WL.pass 33 rfl (Nat.le_of_ble_eq_true rfl) rfl ?_
          refine WL.pure (v := .bool true) 34 rfl (Nat.le_of_ble_eq_true rfl) rfl rfl (by kernel_rfl) ?_
          refine WL.nil ?_
          refine WQ.then ?_
          refine hK7 _ _ _ ?_
          refine WC.sub (l' := [(0, .string (bS (c0 :: r0))), (2, vI 0), (3, .bool false), (4, .string (bS r0)), (15, .bool true), (34, .bool true)]) ⟨rfl, rfl, rfl, rfl, rfl, rfl, trivial⟩ ?_
          refine WC.yes rfl ?_
          refine WC.seq fun K9 hK9 => ?_
          refine WC.region ?_
          refine WL.pure (v := vI 0) 2 rfl (Nat.le_of_ble_eq_true rfl) rfl rfl (by kernel_rfl) ?_
          refine WL.pure (v := .bool false) 3 rfl (Nat.le_of_ble_eq_true rfl) rfl rfl (by kernel_rfl) ?_
          refine WL.nil ?_
          refine WQ.then ?_
          refine hK9 _ _ _ ?_
          refine WC.ret ?_
          refine WQ.thenRet ?_
          refine WQ.ret2 2 3 rfl rfl rfl ?_
          refine ⟨.inr ⟨?_, _, rfl⟩, HP.below hH1⟩
          unfold numV
          rw [hst.1, hst.2]
          rw [if_pos (.inr (.inl (by omega)))]
        ·
          refine WL.pure (v := .bool false) 24 rfl (Nat.le_of_ble_eq_true rfl) rfl rfl (x_gtr rfl rfl rfl (dF (h10))) ?_
          refine WL.pure (v := .bool false) 25 rfl (Nat.le_of_ble_eq_true rfl) rfl rfl (by kernel_rfl) ?_
          refine WL.pure (v := .bool false) 26 rfl (Nat.le_of_ble_eq_true rfl) rfl rfl (by kernel_rfl) ?_
          refine WL.pure (v := .string (bS r0)) 27 rfl (Nat.le_of_ble_eq_true rfl) rfl rfl (by kernel_rfl) ?_
          obtain ⟨t0, t1, ht01⟩ : ∃ t0 t1, r0 = t0 :: t1 := by
            cases hq : r0 with
            | nil => rw [hq] at ht0; simp at ht0
            | cons t0 t1 => exact ⟨t0, t1, rfl⟩
          refine WL.pure (v := .int .u8 (t0.toNat : Int)) 28 rfl (Nat.le_of_ble_eq_true rfl) rfl rfl (x_sidx r0 0 t0 rfl rfl rfl Tryd.underlying9 rfl (by rw [ht01]; rfl)) ?_
          by_cases hz48 : (t0.toNat : Int) = 48
          ·
            refine WL.pure (v := .bool true) 29 rfl (Nat.le_of_ble_eq_true rfl) rfl rfl (x_eql rfl rfl rfl (dT (hz48))) ?_
            refine WL.pure (v := .bool true) 30 rfl (Nat.le_of_ble_eq_true rfl) rfl rfl (by kernel_rfl) ?_
            refine WL.pure (v := .string (bS (c0 :: r0))) 31 rfl (Nat.le_of_ble_eq_true rfl) rfl rfl (by kernel_rfl) ?_
            by_cases h48 : (c0 :: r0) = [48]
            ·
              refine WL.pure (v := .bool false) 32 rfl (Nat.le_of_ble_eq_true rfl) rfl rfl (x_neqs rfl rfl rfl (dF (fun h => h (congrArg bS h48)))) ?_
              refine WL.pure (v := .bool false) 33 rfl (Nat.le_of_ble_eq_true rfl) rfl rfl (by kernel_rfl) ?_
              refine WL.pure (v := .bool false) 34 rfl (Nat.le_of_ble_eq_true rfl) rfl rfl (by kernel_rfl) ?_
              refine WL.nil ?_
              refine WQ.then ?_
              refine hK7 _ _ _ ?_
              refine WC.sub (l' := [(0, .string (bS (c0 :: r0))), (2, vI 0), (3, .bool false), (4, .string (bS r0)), (15, .bool true), (34, .bool false)]) ⟨rfl, rfl, rfl, rfl, rfl, rfl, trivial⟩ ?_
              refine WC.no rfl ?_
              refine WC.skip ?_
              refine WQ.then ?_
              refine hK6 _ _ _ ?_
              refine WC.seq fun K10 hK10 => ?_
              refine WC.region ?_
              refine WL.pure (v := vI 0) 5 rfl (Nat.le_of_ble_eq_true rfl) rfl rfl (by kernel_rfl) ?_
              refine WL.nil ?_
              refine WQ.then ?_
              refine hK10 _ _ _ ?_
              refine WC.seq fun K11 hK11 => ?_
              refine WC.seq fun K12 hK12 => ?_
              refine WC.region ?_
              refine WL.pure (v := vI 0) 6 rfl (Nat.le_of_ble_eq_true rfl) rfl rfl (by kernel_rfl) ?_
              refine WL.nil ?_
              refine WQ.then ?_
              refine hK12 _ _ _ ?_
              refine WC.block ?_
              refine WC.loop (fun kk0 ll0 ww0 => ∃ (i : Nat) (m : Nat), ll0 = [(0, .string (bS (c0 :: r0))), (4, .string (bS r0)), (5, vI (m : Int)), (6, vI (i : Int))] ∧ kk0 = r0.length - i ∧ (i ≤ r0.length) ∧ (Lib.decFrom 0 (r0.take i) = some m) ∧ HP Tr w ww0 []) (r0.length) [(0, .string (bS (c0 :: r0))), (4, .string (bS r0)), (5, vI 0), (6, vI 0)] ⟨rfl, rfl, rfl, rfl, trivial⟩ ⟨0, 0, rfl, rfl, Nat.zero_le _, rfl, hH1⟩ ?_
              rintro kk l w14 ⟨i, m, rfl, hkk, hi, hm, hH15⟩ K13 hK13
              refine WC.seq fun K16 hK16 => ?_
              refine WC.seq fun K17 hK17 => ?_
              refine WC.region ?_
              refine WL.pure (v := vI (i : Int)) 35 rfl (Nat.le_of_ble_eq_true rfl) rfl rfl (by kernel_rfl) ?_
              refine WL.pure (v := .string (bS r0)) 36 rfl (Nat.le_of_ble_eq_true rfl) rfl rfl (by kernel_rfl) ?_
              refine WL.pure (v := vI (r0.length : Int)) 37 rfl (Nat.le_of_ble_eq_true rfl) rfl rfl (x_slen (r0) rfl rfl rfl Tryd.underlying9) ?_
              by_cases hlt : (i : Int) < (r0.length : Int)
              ·
                refine WL.pure (v := .bool true) 38 rfl (Nat.le_of_ble_eq_true rfl) rfl rfl (x_lss rfl rfl rfl (dT (hlt))) ?_
                refine WL.nil ?_
                refine WQ.then ?_
                refine hK17 _ _ _ ?_
                refine WC.yes rfl ?_
                refine WC.skip ?_
                refine WQ.then ?_
                refine hK16 _ _ _ ?_
                refine WC.seq fun K18 hK18 => ?_
                refine WC.block ?_
                refine WC.seq fun K19 hK19 => ?_
                refine WC.seq fun K20 hK20 => ?_
                have hlt' : i < r0.length := by omega
                obtain ⟨b, hb⟩ : ∃ b, r0[i]? = some b := ⟨r0[i], List.getElem?_eq_getElem hlt'⟩
                have hb1 := b.toNat_lt
                refine WC.region ?_
                refine WL.pure (v := .string (bS r0)) 41 rfl (Nat.le_of_ble_eq_true rfl) rfl rfl (by kernel_rfl) ?_
                refine WL.pure (v := vI (i : Int)) 42 rfl (Nat.le_of_ble_eq_true rfl) rfl rfl (by kernel_rfl) ?_
                refine WL.pure (v := .int .u8 (b.toNat : Int)) 43 rfl (Nat.le_of_ble_eq_true rfl) rfl rfl (x_sidx r0 i b rfl rfl rfl Tryd.underlying9 rfl hb) ?_
                by_cases hlo : (b.toNat : Int) < 48
                ·
                  refine WL.pure (v := .bool true) 44 rfl (Nat.le_of_ble_eq_true rfl) rfl rfl (x_lss rfl rfl rfl (dT (hlo))) ?_
                  refine WL.pure (v := .bool true) 45 rfl (Nat.le_of_ble_eq_true rfl) rfl rfl (by kernel_rfl) ?_
                  refine WL.pass 46 rfl (Nat.le_of_ble_eq_true rfl) rfl ?_
                  refine WL.pass 47 rfl (Nat.le_of_ble_eq_true rfl) rfl ?_
                  refine WL.pass 48 rfl (Nat.le_of_ble_eq_true rfl) rfl ?_
                  refine WL.pass 49 rfl (Nat.le_of_ble_eq_true rfl) rfl ?_
                  refine WL.pure (v := .bool true) 50 rfl (Nat.le_of_ble_eq_true rfl) rfl rfl (by kernel_rfl) ?_
                  refine WL.nil ?_
                  refine WQ.then ?_
                  refine hK20 _ _ _ ?_
                  refine WC.sub (l' := [(0, .string (bS (c0 :: r0))), (4, .string (bS r0)), (5, vI (m : Int)), (6, vI (i : Int)), (38, .bool true), (50, .bool true)]) ⟨rfl, rfl, rfl, rfl, rfl, rfl, trivial⟩ ?_
                  refine WC.yes rfl ?_
                  refine WC.seq fun K21 hK21 => ?_
                  refine WC.region ?_
                  refine WL.pure (v := vI 0) 2 rfl (Nat.le_of_ble_eq_true rfl) rfl rfl (by kernel_rfl) ?_
                  refine WL.pure (v := .bool false) 3 rfl (Nat.le_of_ble_eq_true rfl) rfl rfl (by kernel_rfl) ?_
                  refine WL.nil ?_
                  refine WQ.then ?_
                  refine hK21 _ _ _ ?_
                  refine WC.ret ?_
                  refine WQ.thenRet ?_
                  refine WQ.inRet ?_
                  refine WQ.thenRet ?_
                  refine WQ.thenRet ?_
                  refine WQ.inRet ?_
                  refine WQ.thenRet ?_
                  refine WQ.ret2 2 3 rfl rfl rfl ?_
                  refine ⟨.inr ⟨?_, _, rfl⟩, HP.below hH15⟩
                  unfold numV
                  rw [hst.1, hst.2]
                  have hdv : Lib.digitVal b = none := by unfold Lib.digitVal; rw [if_neg (by omega)]
                  split
                  · rfl
                  · rw [dec_bad i 0 hm hb hdv]
                ·
                  refine WL.pure (v := .bool false) 44 rfl (Nat.le_of_ble_eq_true rfl) rfl rfl (x_lss rfl rfl rfl (dF (hlo))) ?_
                  refine WL.pure (v := .bool false) 45 rfl (Nat.le_of_ble_eq_true rfl) rfl rfl (by kernel_rfl) ?_
                  refine WL.pure (v := .string (bS r0)) 46 rfl (Nat.le_of_ble_eq_true rfl) rfl rfl (by kernel_rfl) ?_
                  refine WL.pure (v := vI (i : Int)) 47 rfl (Nat.le_of_ble_eq_true rfl) rfl rfl (by kernel_rfl) ?_
                  refine WL.pure (v := .int .u8 (b.toNat : Int)) 48 rfl (Nat.le_of_ble_eq_true rfl) rfl rfl (x_sidx r0 i b rfl rfl rfl Tryd.underlying9 rfl hb) ?_
                  by_cases hhi : (57 : Int) < (b.toNat : Int)
                  ·
                    refine WL.pure (v := .bool true) 49 rfl (Nat.le_of_ble_eq_true rfl) rfl rfl (x_gtr rfl rfl rfl (dT (hhi))) ?_
                    refine WL.pure (v := .bool true) 50 rfl (Nat.le_of_ble_eq_true rfl) rfl rfl (by kernel_rfl) ?_
                    refine WL.nil ?_
                    refine WQ.then ?_
                    refine hK20 _ _ _ ?_
                    refine WC.sub (l' := [(0, .string (bS (c0 :: r0))), (4, .string (bS r0)), (5, vI (m : Int)), (6, vI (i : Int)), (38, .bool true), (50, .bool true)]) ⟨rfl, rfl, rfl, rfl, rfl, rfl, trivial⟩ ?_
                    refine WC.yes rfl ?_
                    refine WC.seq fun K22 hK22 => ?_
                    refine WC.region ?_
                    refine WL.pure (v := vI 0) 2 rfl (Nat.le_of_ble_eq_true rfl) rfl rfl (by kernel_rfl) ?_
                    refine WL.pure (v := .bool false) 3 rfl (Nat.le_of_ble_eq_true rfl) rfl rfl (by kernel_rfl) ?_
                    refine WL.nil ?_
                    refine WQ.then ?_
                    refine hK22 _ _ _ ?_
                    refine WC.ret ?_
                    refine WQ.thenRet ?_
                    refine WQ.inRet ?_
                    refine WQ.thenRet ?_
                    refine WQ.thenRet ?_
                    refine WQ.inRet ?_
                    refine WQ.thenRet ?_
                    refine WQ.ret2 2 3 rfl rfl rfl ?_
                    refine ⟨.inr ⟨?_, _, rfl⟩, HP.below hH15⟩
                    unfold numV
                    rw [hst.1, hst.2]
                    have hdv : Lib.digitVal b = none := by unfold Lib.digitVal; rw [if_neg (by omega)]
                    split
                    · rfl
                    · rw [dec_bad i 0 hm hb hdv]
                  ·
                    refine WL.pure (v := .bool false) 49 rfl (Nat.le_of_ble_eq_true rfl) rfl rfl (x_gtr rfl rfl rfl (dF (hhi))) ?_
                    refine WL.pure (v := .bool false) 50 rfl (Nat.le_of_ble_eq_true rfl) rfl rfl (by kernel_rfl) ?_
                    refine WL.nil ?_
                    refine WQ.then ?_
                    refine hK20 _ _ _ ?_
                    refine WC.sub (l' := [(0, .string (bS (c0 :: r0))), (4, .string (bS r0)), (5, vI (m : Int)), (6, vI (i : Int)), (38, .bool true), (50, .bool false)]) ⟨rfl, rfl, rfl, rfl, rfl, rfl, trivial⟩ ?_
                    refine WC.no rfl ?_
                    refine WC.skip ?_
                    refine WQ.then ?_
                    refine hK19 _ _ _ ?_
                    have hmb : m < 10000000000 := by
                      have h1 := Lib.decFrom_lt _ _ _ hm
                      have h2 : (10 : Nat) ^ (r0.take i).length ≤ 10 ^ 10 := Nat.pow_le_pow_right (by decide) (by simp at h10 ⊢; omega)
                      have h3 : (10 : Nat) ^ 10 = 10000000000 := by decide
                      omega
                    refine WC.region ?_
                    refine WL.pure (v := vI (m : Int)) 51 rfl (Nat.le_of_ble_eq_true rfl) rfl rfl (by kernel_rfl) ?_
                    refine WL.pure (v := vI ((10 * m : Nat) : Int)) 52 rfl (Nat.le_of_ble_eq_true rfl) rfl rfl (x_mul (Z := ((10 * m : Nat) : Int)) rfl rfl rfl (by omega) (by omega) (by omega)) ?_
                    refine WL.pure (v := .string (bS r0)) 53 rfl (Nat.le_of_ble_eq_true rfl) rfl rfl (by kernel_rfl) ?_
                    refine WL.pure (v := vI (i : Int)) 54 rfl (Nat.le_of_ble_eq_true rfl) rfl rfl (by kernel_rfl) ?_
                    refine WL.pure (v := .int .u8 (b.toNat : Int)) 55 rfl (Nat.le_of_ble_eq_true rfl) rfl rfl (x_sidx r0 i b rfl rfl rfl Tryd.underlying9 rfl hb) ?_
                    refine WL.pure (v := .int .u8 ((b.toNat - 48 : Nat) : Int)) 56 rfl (Nat.le_of_ble_eq_true rfl) rfl rfl (x_sub8 (Z := ((b.toNat - 48 : Nat) : Int)) rfl rfl rfl (by omega) (by omega) (by omega)) ?_
                    refine WL.pure (v := vI ((b.toNat - 48 : Nat) : Int)) 57 rfl (Nat.le_of_ble_eq_true rfl) rfl rfl (x_cvi rfl rfl (by kernel_rfl) Tryd.underlying3 (by omega) (by omega)) ?_
                    refine WL.pure (v := vI ((m * 10 + (b.toNat - 48) : Nat) : Int)) 58 rfl (Nat.le_of_ble_eq_true rfl) rfl rfl (x_add (Z := ((m * 10 + (b.toNat - 48) : Nat) : Int)) rfl rfl rfl (by omega) (by omega) (by omega)) ?_
                    refine WL.pure (v := vI ((m * 10 + (b.toNat - 48) : Nat) : Int)) 5 rfl (Nat.le_of_ble_eq_true rfl) rfl rfl (by kernel_rfl) ?_
                    refine WL.nil ?_
                    refine WQ.inNormal ?_
                    refine WQ.then ?_
                    refine hK18 _ _ _ ?_
                    refine WC.sub (l' := [(0, .string (bS (c0 :: r0))), (4, .string (bS r0)), (5, vI ((m * 10 + (b.toNat - 48) : Nat) : Int)), (6, vI (i : Int)), (38, .bool true), (50, .bool false)]) ⟨rfl, rfl, rfl, rfl, rfl, rfl, trivial⟩ ?_
                    refine WC.region ?_
                    refine WL.pure (v := vI (i : Int)) 39 rfl (Nat.le_of_ble_eq_true rfl) rfl rfl (by kernel_rfl) ?_
                    refine WL.pure (v := vI ((i + 1 : Nat) : Int)) 40 rfl (Nat.le_of_ble_eq_true rfl) rfl rfl (x_add (Z := ((i + 1 : Nat) : Int)) rfl rfl rfl (by omega) (by omega) (by omega)) ?_
                    refine WL.pure (v := vI ((i + 1 : Nat) : Int)) 6 rfl (Nat.le_of_ble_eq_true rfl) rfl rfl (by kernel_rfl) ?_
                    refine WL.nil ?_
                    refine WQ.sub (l' := [(0, .string (bS (c0 :: r0))), (4, .string (bS r0)), (5, vI ((m * 10 + (b.toNat - 48) : Nat) : Int)), (6, vI ((i + 1 : Nat) : Int))]) ⟨rfl, rfl, rfl, rfl, trivial⟩ ?_
                    refine WQ.then (hK13 _ _ _ (by omega) ⟨i + 1, m * 10 + (b.toNat - 48), rfl, rfl, by omega, Lib.decFrom_take r0 i 0 m b (b.toNat - 48) hm hb (by unfold Lib.digitVal; rw [if_pos (by omega)]), hH15⟩)
              ·
                refine WL.pure (v := .bool false) 38 rfl (Nat.le_of_ble_eq_true rfl) rfl rfl (x_lss rfl rfl rfl (dF (hlt))) ?_
                refine WL.nil ?_
                refine WQ.then ?_
                refine hK17 _ _ _ ?_
                refine WC.no rfl ?_
                refine WC.exit ?_
                refine WQ.thenExit ?_
                refine WQ.thenExit ?_
                refine WQ.inExit ?_
                refine WQ.then ?_
                refine hK11 _ _ _ ?_
                refine WC.seq fun K23 hK23 => ?_
                refine WC.seq fun K24 hK24 => ?_
                refine WC.region ?_
                refine WL.pure (v := .string (bS (c0 :: r0))) 59 rfl (Nat.le_of_ble_eq_true rfl) rfl rfl (by kernel_rfl) ?_
                refine WL.pure (v := .int .u8 (c0.toNat : Int)) 60 rfl (Nat.le_of_ble_eq_true rfl) rfl rfl (x_sidx (c0 :: r0) 0 c0 rfl rfl rfl Tryd.underlying9 rfl rfl) ?_
                refine WL.pure (v := .bool true) 61 rfl (Nat.le_of_ble_eq_true rfl) rfl rfl (x_eql rfl rfl rfl (dT (by subst hc45; rfl))) ?_
                refine WL.nil ?_
                refine WQ.then ?_
                refine hK24 _ _ _ ?_
                refine WC.yes rfl ?_
                refine WC.region ?_
                refine WL.pure (v := vI (m : Int)) 62 rfl (Nat.le_of_ble_eq_true rfl) rfl rfl (by kernel_rfl) ?_
                have hmb : m < 10000000000 := by
                  have h1 := Lib.decFrom_lt _ _ _ hm
                  have h2 : (10 : Nat) ^ (r0.take i).length ≤ 10 ^ 10 := Nat.pow_le_pow_right (by decide) (by simp at h10 ⊢; omega)
                  have h3 : (10 : Nat) ^ 10 = 10000000000 := by decide
                  omega
                refine WL.pure (v := vI (-(m : Int))) 63 rfl (Nat.le_of_ble_eq_true rfl) rfl rfl (x_neg rfl rfl (by omega) (by omega)) ?_
                refine WL.pure (v := vI (-(m : Int))) 5 rfl (Nat.le_of_ble_eq_true rfl) rfl rfl (by kernel_rfl) ?_
                refine WL.nil ?_
                refine WQ.then ?_
                refine hK23 _ _ _ ?_
                refine WC.sub (l' := [(0, .string (bS (c0 :: r0))), (4, .string (bS r0)), (5, vI (-(m : Int))), (6, vI (i : Int)), (38, .bool false), (61, .bool true)]) ⟨rfl, rfl, rfl, rfl, rfl, rfl, trivial⟩ ?_
                refine WC.seq fun K25 hK25 => ?_
                refine WC.region ?_
                refine WL.pure (v := vI (-(m : Int))) 64 rfl (Nat.le_of_ble_eq_true rfl) rfl rfl (by kernel_rfl) ?_
                refine WL.pure (v := vI (-(m : Int))) 2 rfl (Nat.le_of_ble_eq_true rfl) rfl rfl (by kernel_rfl) ?_
                refine WL.pure (v := .bool true) 3 rfl (Nat.le_of_ble_eq_true rfl) rfl rfl (by kernel_rfl) ?_
                refine WL.nil ?_
                refine WQ.then ?_
                refine hK25 _ _ _ ?_
                refine WC.ret ?_
                refine WQ.ret2 2 3 rfl rfl rfl ?_
                have hm2 : Lib.decFrom 0 r0 = some m := by rw [show i = r0.length by omega, List.take_length] at hm; exact hm
                refine ⟨.inl ⟨_, ?_, rfl⟩, HP.below hH15⟩
                unfold numV
                rw [hst.1, hst.2]
                rw [if_neg (by
                  rintro (q | q | ⟨q, q2⟩)
                  · rw [q] at ht0; simp at ht0
                  · omega
                  · first | (exact q2 (by first | exact Decidable.not_not.1 h48 | exact h48)) | (rw [ht01] at q; simp only [List.head?_cons, Option.some.injEq] at q; subst q; exact hz48 rfl)), hm2]
                rfl
            ·
              refine WL.pure (v := .bool true) 32 rfl (Nat.le_of_ble_eq_true rfl) rfl rfl (x_neqs rfl rfl rfl (dT (fun h => h48 (bS_inj h)))) ?_
              refine WL.pure (v := .bool true) 33 rfl (Nat.le_of_ble_eq_true rfl) rfl rfl (by kernel_rfl) ?_
              refine WL.pure (v := .bool true) 34 rfl (Nat.le_of_ble_eq_true rfl) rfl rfl (by kernel_rfl) ?_
              refine WL.nil ?_
              refine WQ.then ?_
              refine hK7 _ _ _ ?_
              refine WC.sub (l' := [(0, .string (bS (c0 :: r0))), (2, vI 0), (3, .bool false), (4, .string (bS r0)), (15, .bool true), (34, .bool true)]) ⟨rfl, rfl, rfl, rfl, rfl, rfl, trivial⟩ ?_
              refine WC.yes rfl ?_
              refine WC.seq fun K26 hK26 => ?_
              refine WC.region ?_
              refine WL.pure (v := vI 0) 2 rfl (Nat.le_of_ble_eq_true rfl) rfl rfl (by kernel_rfl) ?_
              refine WL.pure (v := .bool false) 3 rfl (Nat.le_of_ble_eq_true rfl) rfl rfl (by kernel_rfl) ?_
              refine WL.nil ?_
              refine WQ.then ?_
              refine hK26 _ _ _ ?_
              refine WC.ret ?_
              refine WQ.thenRet ?_
              refine WQ.ret2 2 3 rfl rfl rfl ?_
              refine ⟨.inr ⟨?_, _, rfl⟩, HP.below hH1⟩
              unfold numV
              rw [hst.1, hst.2]
              rw [if_pos (.inr (.inr ⟨by rw [ht01]; simp only [List.head?_cons, Option.some.injEq]; exact UInt8.toNat_inj.1 (by simpa using (by omega : t0.toNat = 48)), h48⟩))]
          ·
            refine WL.pure (v := .bool false) 29 rfl (Nat.le_of_ble_eq_true rfl) rfl rfl (x_eql rfl rfl rfl (dF (hz48))) ?_
            refine WL.pure (v := .bool false) 30 rfl (Nat.le_of_ble_eq_true rfl) rfl rfl (by kernel_rfl) ?_
            refine WL.pass 31 rfl (Nat.le_of_ble_eq_true rfl) rfl ?_
            refine WL.pass 32 rfl (Nat.le_of_ble_eq_true rfl) rfl ?_
            refine WL.pure (v := .bool false) 33 rfl (Nat.le_of_ble_eq_true rfl) rfl rfl (by kernel_rfl) ?_
            refine WL.pure (v := .bool false) 34 rfl (Nat.le_of_ble_eq_true rfl) rfl rfl (by kernel_rfl) ?_
            refine WL.nil ?_
            refine WQ.then ?_
            refine hK7 _ _ _ ?_
            refine WC.sub (l' := [(0, .string (bS (c0 :: r0))), (2, vI 0), (3, .bool false), (4, .string (bS r0)), (15, .bool true), (34, .bool false)]) ⟨rfl, rfl, rfl, rfl, rfl, rfl, trivial⟩ ?_
            refine WC.no rfl ?_
            refine WC.skip ?_
            refine WQ.then ?_
            refine hK6 _ _ _ ?_
            refine WC.seq fun K27 hK27 => ?_
            refine WC.region ?_
            refine WL.pure (v := vI 0) 5 rfl (Nat.le_of_ble_eq_true rfl) rfl rfl (by kernel_rfl) ?_
            refine WL.nil ?_
            refine WQ.then ?_
            refine hK27 _ _ _ ?_
            refine WC.seq fun K28 hK28 => ?_
            refine WC.seq fun K29 hK29 => ?_
            refine WC.region ?_
            refine WL.pure (v := vI 0) 6 rfl (Nat.le_of_ble_eq_true rfl) rfl rfl (by kernel_rfl) ?_
            refine WL.nil ?_
            refine WQ.then ?_
            refine hK29 _ _ _ ?_
            refine WC.block ?_
            refine WC.loop (fun kk0 ll0 ww0 => ∃ (i : Nat) (m : Nat), ll0 = [(0, .string (bS (c0 :: r0))), (4, .string (bS r0)), (5, vI (m : Int)), (6, vI (i : Int))] ∧ kk0 = r0.length - i ∧ (i ≤ r0.length) ∧ (Lib.decFrom 0 (r0.take i) = some m) ∧ HP Tr w ww0 []) (r0.length) [(0, .string (bS (c0 :: r0))), (4, .string (bS r0)), (5, vI 0), (6, vI 0)] ⟨rfl, rfl, rfl, rfl, trivial⟩ ⟨0, 0, rfl, rfl, Nat.zero_le _, rfl, hH1⟩ ?_
            rintro kk l w31 ⟨i, m, rfl, hkk, hi, hm, hH32⟩ K30 hK30
            refine WC.seq fun K33 hK33 => ?_
            refine WC.seq fun K34 hK34 => ?_
            refine WC.region ?_
            refine WL.pure (v := vI (i : Int)) 35 rfl (Nat.le_of_ble_eq_true rfl) rfl rfl (by kernel_rfl) ?_
            refine WL.pure (v := .string (bS r0)) 36 rfl (Nat.le_of_ble_eq_true rfl) rfl rfl (by kernel_rfl) ?_
            refine WL.pure (v := vI (r0.length : Int)) 37 rfl (Nat.le_of_ble_eq_true rfl) rfl rfl (x_slen (r0) rfl rfl rfl Tryd.underlying9) ?_
            by_cases hlt : (i : Int) < (r0.length : Int)
            ·
              refine WL.pure (v := .bool true) 38 rfl (Nat.le_of_ble_eq_true rfl) rfl rfl (x_lss rfl rfl rfl (dT (hlt))) ?_
              refine WL.nil ?_
              refine WQ.then ?_
              refine hK34 _ _ _ ?_
              refine WC.yes rfl ?_
              refine WC.skip ?_
              refine WQ.then ?_
              refine hK33 _ _ _ ?_
              refine WC.seq fun K35 hK35 => ?_
              refine WC.block ?_
              refine WC.seq fun K36 hK36 => ?_
              refine WC.seq fun K37 hK37 => ?_
              have hlt' : i < r0.length := by omega
              obtain ⟨b, hb⟩ : ∃ b, r0[i]? = some b := ⟨r0[i], List.getElem?_eq_getElem hlt'⟩
              have hb1 := b.toNat_lt
              refine WC.region ?_
              refine WL.pure (v := .string (bS r0)) 41 rfl (Nat.le_of_ble_eq_true rfl) rfl rfl (by kernel_rfl) ?_
              refine WL.pure (v := vI (i : Int)) 42 rfl (Nat.le_of_ble_eq_true rfl) rfl rfl (by kernel_rfl) ?_
              refine WL.pure (v := .int .u8 (b.toNat : Int)) 43 rfl (Nat.le_of_ble_eq_true rfl) rfl rfl (x_sidx r0 i b rfl rfl rfl Tryd.underlying9 rfl hb) ?_
              by_cases hlo : (b.toNat : Int) < 48
              ·
                refine WL.pure (v := .bool true) 44 rfl (Nat.le_of_ble_eq_true rfl) rfl rfl (x_lss rfl rfl rfl (dT (hlo))) ?_
                refine WL.pure (v := .bool true) 45 rfl (Nat.le_of_ble_eq_true rfl) rfl rfl (by kernel_rfl) ?_
                refine WL.pass 46 rfl (Nat.le_of_ble_eq_true rfl) rfl ?_
                refine WL.pass 47 rfl (Nat.le_of_ble_eq_true rfl) rfl ?_
                refine WL.pass 48 rfl (Nat.le_of_ble_eq_true rfl) rfl ?_
                refine WL.pass 49 rfl (Nat.le_of_ble_eq_true rfl) rfl ?_
                refine WL.pure (v := .bool true) 50 rfl (Nat.le_of_ble_eq_true rfl) rfl rfl (by kernel_rfl) ?_
                refine WL.nil ?_
                refine WQ.then ?_
                refine hK37 _ _ _ ?_
                refine WC.sub (l' := [(0, .string (bS (c0 :: r0))), (4, .string (bS r0)), (5, vI (m : Int)), (6, vI (i : Int)), (38, .bool true), (50, .bool true)]) ⟨rfl, rfl, rfl, rfl, rfl, rfl, trivial⟩ ?_
                refine WC.yes rfl ?_
                refine WC.seq fun K38 hK38 => ?_
                refine WC.region ?_
                refine WL.pure (v := vI 0) 2 rfl (Nat.le_of_ble_eq_true rfl) rfl rfl (by kernel_rfl) ?_
                refine WL.pure (v := .bool false) 3 rfl (Nat.le_of_ble_eq_true rfl) rfl rfl (by kernel_rfl) ?_
                refine WL.nil ?_
                refine WQ.then ?_
                refine hK38 _ _ _ ?_
                refine WC.ret ?_
                refine WQ.thenRet ?_
                refine WQ.inRet ?_
                refine WQ.thenRet ?_
                refine WQ.thenRet ?_
                refine WQ.inRet ?_
                refine WQ.thenRet ?_
                refine WQ.ret2 2 3 rfl rfl rfl ?_
                refine ⟨.inr ⟨?_, _, rfl⟩, HP.below hH32⟩
                unfold numV
                rw [hst.1, hst.2]
                have hdv : Lib.digitVal b = none := by unfold Lib.digitVal; rw [if_neg (by omega)]
                split
                · rfl
                · rw [dec_bad i 0 hm hb hdv]
              ·
                refine WL.pure (v := .bool false) 44 rfl (Nat.le_of_ble_eq_true rfl) rfl rfl (x_lss rfl rfl rfl (dF (hlo))) ?_
                refine WL.pure (v := .bool false) 45 rfl (Nat.le_of_ble_eq_true rfl) rfl rfl (by kernel_rfl) ?_
                refine WL.pure (v := .string (bS r0)) 46 rfl (Nat.le_of_ble_eq_true rfl) rfl rfl (by kernel_rfl) ?_
                refine WL.pure (v := vI (i : Int)) 47 rfl (Nat.le_of_ble_eq_true rfl) rfl rfl (by kernel_rfl) ?_
                refine WL.pure (v := .int .u8 (b.toNat : Int)) 48 rfl (Nat.le_of_ble_eq_true rfl) rfl rfl (x_sidx r0 i b rfl rfl rfl Tryd.underlying9 rfl hb) ?_
                by_cases hhi : (57 : Int) < (b.toNat : Int)
                ·
                  refine WL.pure (v := .bool true) 49 rfl (Nat.le_of_ble_eq_true rfl) rfl rfl (x_gtr rfl rfl rfl (dT (hhi))) ?_
                  refine WL.pure (v := .bool true) 50 rfl (Nat.le_of_ble_eq_true rfl) rfl rfl (by kernel_rfl) ?_
                  refine WL.nil ?_
                  refine WQ.then ?_
                  refine hK37 _ _ _ ?_
                  refine WC.sub (l' := [(0, .string (bS (c0 :: r0))), (4, .string (bS r0)), (5, vI (m : Int)), (6, vI (i : Int)), (38, .bool true), (50, .bool true)]) ⟨rfl, rfl, rfl, rfl, rfl, rfl, trivial⟩ ?_
                  refine WC.yes rfl ?_
                  refine WC.seq fun K39 hK39 => ?_
                  refine WC.region ?_
                  refine WL.pure (v := vI 0) 2 rfl (Nat.le_of_ble_eq_true rfl) rfl rfl (by kernel_rfl) ?_
                  refine WL.pure (v := .bool false) 3 rfl (Nat.le_of_ble_eq_true rfl) rfl rfl (by kernel_rfl) ?_
                  refine WL.nil ?_
                  refine WQ.then ?_
                  refine hK39 _ _ _ ?_
                  refine WC.ret ?_
                  refine WQ.thenRet ?_
                  refine WQ.inRet ?_
                  refine WQ.thenRet ?_
                  refine WQ.thenRet ?_
                  refine WQ.inRet ?_
                  refine WQ.thenRet ?_
                  refine WQ.ret2 2 3 rfl rfl rfl ?_
                  refine ⟨.inr ⟨?_, _, rfl⟩, HP.below hH32⟩
                  unfold numV
                  rw [hst.1, hst.2]
                  have hdv : Lib.digitVal b = none := by unfold Lib.digitVal; rw [if_neg (by omega)]
                  split
                  · rfl
                  · rw [dec_bad i 0 hm hb hdv]
                ·
                  refine WL.pure (v := .bool false) 49 rfl (Nat.le_of_ble_eq_true rfl) rfl rfl (x_gtr rfl rfl rfl (dF (hhi))) ?_
                  refine WL.pure (v := .bool false) 50 rfl (Nat.le_of_ble_eq_true rfl) rfl rfl (by kernel_rfl) ?_
                  refine WL.nil ?_
                  refine WQ.then ?_
                  refine hK37 _ _ _ ?_
                  refine WC.sub (l' := [(0, .string (bS (c0 :: r0))), (4, .string (bS r0)), (5, vI (m : Int)), (6, vI (i : Int)), (38, .bool true), (50, .bool false)]) ⟨rfl, rfl, rfl, rfl, rfl, rfl, trivial⟩ ?_
                  refine WC.no rfl ?_
                  refine WC.skip ?_
                  refine WQ.then ?_
                  refine hK36 _ _ _ ?_
                  have hmb : m < 10000000000 := by
                    have h1 := Lib.decFrom_lt _ _ _ hm
                    have h2 : (10 : Nat) ^ (r0.take i).length ≤ 10 ^ 10 := Nat.pow_le_pow_right (by decide) (by simp at h10 ⊢; omega)
                    have h3 : (10 : Nat) ^ 10 = 10000000000 := by decide
                    omega
                  refine WC.region ?_
                  refine WL.pure (v := vI (m : Int)) 51 rfl (Nat.le_of_ble_eq_true rfl) rfl rfl (by kernel_rfl) ?_
                  refine WL.pure (v := vI ((10 * m : Nat) : Int)) 52 rfl (Nat.le_of_ble_eq_true rfl) rfl rfl (x_mul (Z := ((10 * m : Nat) : Int)) rfl rfl rfl (by omega) (by omega) (by omega)) ?_
                  refine WL.pure (v := .string (bS r0)) 53 rfl (Nat.le_of_ble_eq_true rfl) rfl rfl (by kernel_rfl) ?_
                  refine WL.pure (v := vI (i : Int)) 54 rfl (Nat.le_of_ble_eq_true rfl) rfl rfl (by kernel_rfl) ?_
                  refine WL.pure (v := .int .u8 (b.toNat : Int)) 55 rfl (Nat.le_of_ble_eq_true rfl) rfl rfl (x_sidx r0 i b rfl rfl rfl Tryd.underlying9 rfl hb) ?_
                  refine WL.pure (v := .int .u8 ((b.toNat - 48 : Nat) : Int)) 56 rfl (Nat.le_of_ble_eq_true rfl) rfl rfl (x_sub8 (Z := ((b.toNat - 48 : Nat) : Int)) rfl rfl rfl (by omega) (by omega) (by omega)) ?_
                  refine WL.pure (v := vI ((b.toNat - 48 : Nat) : Int)) 57 rfl (Nat.le_of_ble_eq_true rfl) rfl rfl (x_cvi rfl rfl (by kernel_rfl) Tryd.underlying3 (by omega) (by omega)) ?_
                  refine WL.pure (v := vI ((m * 10 + (b.toNat - 48) : Nat) : Int)) 58 rfl (Nat.le_of_ble_eq_true rfl) rfl rfl (x_add (Z := ((m * 10 + (b.toNat - 48) : Nat) : Int)) rfl rfl rfl (by omega) (by omega) (by omega)) ?_
                  refine WL.pure (v := vI ((m * 10 + (b.toNat - 48) : Nat) : Int)) 5 rfl (Nat.le_of_ble_eq_true rfl) rfl rfl (by kernel_rfl) ?_
                  refine WL.nil ?_
                  refine WQ.inNormal ?_
                  refine WQ.then ?_
                  refine hK35 _ _ _ ?_
                  refine WC.sub (l' := [(0, .string (bS (c0 :: r0))), (4, .string (bS r0)), (5, vI ((m * 10 + (b.toNat - 48) : Nat) : Int)), (6, vI (i : Int)), (38, .bool true), (50, .bool false)]) ⟨rfl, rfl, rfl, rfl, rfl, rfl, trivial⟩ ?_
                  refine WC.region ?_
                  refine WL.pure (v := vI (i : Int)) 39 rfl (Nat.le_of_ble_eq_true rfl) rfl rfl (by kernel_rfl) ?_
                  refine WL.pure (v := vI ((i + 1 : Nat) : Int)) 40 rfl (Nat.le_of_ble_eq_true rfl) rfl rfl (x_add (Z := ((i + 1 : Nat) : Int)) rfl rfl rfl (by omega) (by omega) (by omega)) ?_
                  refine WL.pure (v := vI ((i + 1 : Nat) : Int)) 6 rfl (Nat.le_of_ble_eq_true rfl) rfl rfl (by kernel_rfl) ?_
                  refine WL.nil ?_
                  refine WQ.sub (l' := [(0, .string (bS (c0 :: r0))), (4, .string (bS r0)), (5, vI ((m * 10 + (b.toNat - 48) : Nat) : Int)), (6, vI ((i + 1 : Nat) : Int))]) ⟨rfl, rfl, rfl, rfl, trivial⟩ ?_
                  refine WQ.then (hK30 _ _ _ (by omega) ⟨i + 1, m * 10 + (b.toNat - 48), rfl, rfl, by omega, Lib.decFrom_take r0 i 0 m b (b.toNat - 48) hm hb (by unfold Lib.digitVal; rw [if_pos (by omega)]), hH32⟩)
            ·
              refine WL.pure (v := .bool false) 38 rfl (Nat.le_of_ble_eq_true rfl) rfl rfl (x_lss rfl rfl rfl (dF (hlt))) ?_
              refine WL.nil ?_
              refine WQ.then ?_
              refine hK34 _ _ _ ?_
              refine WC.no rfl ?_
              refine WC.exit ?_
              refine WQ.thenExit ?_
              refine WQ.thenExit ?_
              refine WQ.inExit ?_
              refine WQ.then ?_
              refine hK28 _ _ _ ?_
              refine WC.seq fun K40 hK40 => ?_
              refine WC.seq fun K41 hK41 => ?_
              refine WC.region ?_
              refine WL.pure (v := .string (bS (c0 :: r0))) 59 rfl (Nat.le_of_ble_eq_true rfl) rfl rfl (by kernel_rfl) ?_
              refine WL.pure (v := .int .u8 (c0.toNat : Int)) 60 rfl (Nat.le_of_ble_eq_true rfl) rfl rfl (x_sidx (c0 :: r0) 0 c0 rfl rfl rfl Tryd.underlying9 rfl rfl) ?_
              refine WL.pure (v := .bool true) 61 rfl (Nat.le_of_ble_eq_true rfl) rfl rfl (x_eql rfl rfl rfl (dT (by subst hc45; rfl))) ?_
              refine WL.nil ?_
              refine WQ.then ?_
              refine hK41 _ _ _ ?_
              refine WC.yes rfl ?_
              refine WC.region ?_
              refine WL.pure (v := vI (m : Int)) 62 rfl (Nat.le_of_ble_eq_true rfl) rfl rfl (by kernel_rfl) ?_
              have hmb : m < 10000000000 := by
                have h1 := Lib.decFrom_lt _ _ _ hm
                have h2 : (10 : Nat) ^ (r0.take i).length ≤ 10 ^ 10 := Nat.pow_le_pow_right (by decide) (by simp at h10 ⊢; omega)
                have h3 : (10 : Nat) ^ 10 = 10000000000 := by decide
                omega
              refine WL.pure (v := vI (-(m : Int))) 63 rfl (Nat.le_of_ble_eq_true rfl) rfl rfl (x_neg rfl rfl (by omega) (by omega)) ?_
              refine WL.pure (v := vI (-(m : Int))) 5 rfl (Nat.le_of_ble_eq_true rfl) rfl rfl (by kernel_rfl) ?_
              refine WL.nil ?_
              refine WQ.then ?_
              refine hK40 _ _ _ ?_
              refine WC.sub (l' := [(0, .string (bS (c0 :: r0))), (4, .string (bS r0)), (5, vI (-(m : Int))), (6, vI (i : Int)), (38, .bool false), (61, .bool true)]) ⟨rfl, rfl, rfl, rfl, rfl, rfl, trivial⟩ ?_
              refine WC.seq fun K42 hK42 => ?_
              refine WC.region ?_
              refine WL.pure (v := vI (-(m : Int))) 64 rfl (Nat.le_of_ble_eq_true rfl) rfl rfl (by kernel_rfl) ?_
              refine WL.pure (v := vI (-(m : Int))) 2 rfl (Nat.le_of_ble_eq_true rfl) rfl rfl (by kernel_rfl) ?_
              refine WL.pure (v := .bool true) 3 rfl (Nat.le_of_ble_eq_true rfl) rfl rfl (by kernel_rfl) ?_
              refine WL.nil ?_
              refine WQ.then ?_
              refine hK42 _ _ _ ?_
              refine WC.ret ?_
              refine WQ.ret2 2 3 rfl rfl rfl ?_
              have hm2 : Lib.decFrom 0 r0 = some m := by rw [show i = r0.length by omega, List.take_length] at hm; exact hm
              refine ⟨.inl ⟨_, ?_, rfl⟩, HP.below hH32⟩
              unfold numV
              rw [hst.1, hst.2]
              rw [if_neg (by
                rintro (q | q | ⟨q, q2⟩)
                · rw [q] at ht0; simp at ht0
                · omega
                · first | (exact q2 (by first | exact Decidable.not_not.1 h48 | exact h48)) | (rw [ht01] at q; simp only [List.head?_cons, Option.some.injEq] at q; subst q; exact hz48 rfl)), hm2]
              rfl
    ·
      refine WL.pure (v := .bool false) 14 rfl (Nat.le_of_ble_eq_true rfl) rfl rfl (x_eql rfl rfl rfl (dF (hsg))) ?_
      refine WL.pure (v := .bool false) 15 rfl (Nat.le_of_ble_eq_true rfl) rfl rfl (by kernel_rfl) ?_
      refine WL.nil ?_
      refine WQ.then ?_
      refine hK5 _ _ _ ?_
      refine WC.sub (l' := [(0, .string (bS (c0 :: r0))), (2, vI 0), (3, .bool false), (4, .string (bS (c0 :: r0))), (15, .bool false)]) ⟨rfl, rfl, rfl, rfl, rfl, trivial⟩ ?_
      refine WC.no rfl ?_
      refine WC.skip ?_
      refine WQ.then ?_
      refine hK4 _ _ _ ?_
      refine WC.seq fun K43 hK43 => ?_
      refine WC.seq fun K44 hK44 => ?_
      have hc45 : c0 ≠ 45 := fun h => hsg (by rw [h]; rfl)
      have hst : strip (c0 :: r0) = c0 :: r0 ∧ neg (c0 :: r0) = false := ⟨by simp [strip, hc45], by simp [neg, hc45]⟩
      refine WC.region ?_
      refine WL.pure (v := .string (bS (c0 :: r0))) 18 rfl (Nat.le_of_ble_eq_true rfl) rfl rfl (by kernel_rfl) ?_
      refine WL.pure (v := vI (((c0 :: r0).length : Nat) : Int)) 19 rfl (Nat.le_of_ble_eq_true rfl) rfl rfl (x_slen ((c0 :: r0)) rfl rfl rfl Tryd.underlying9) ?_
      by_cases ht0 : (((c0 :: r0).length : Nat) : Int) = 0
      ·
        refine WL.pure (v := .bool true) 20 rfl (Nat.le_of_ble_eq_true rfl) rfl rfl (x_eql rfl rfl rfl (dT (ht0))) ?_
        refine WL.pure (v := .bool true) 21 rfl (Nat.le_of_ble_eq_true rfl) rfl rfl (by kernel_rfl) ?_
        refine WL.pass 22 rfl (Nat.le_of_ble_eq_true rfl) rfl ?_
        refine WL.pass 23 rfl (Nat.le_of_ble_eq_true rfl) rfl ?_
        refine WL.pass 24 rfl (Nat.le_of_ble_eq_true rfl) rfl ?_
        refine WL.pure (v := .bool true) 25 rfl (Nat.le_of_ble_eq_true rfl) rfl rfl (by kernel_rfl) ?_
        refine WL.pure (v := .bool true) 26 rfl (Nat.le_of_ble_eq_true rfl) rfl rfl (by kernel_rfl) ?_
        refine WL.pass 27 rfl (Nat.le_of_ble_eq_true rfl) rfl ?_
        refine WL.pass 28 rfl (Nat.le_of_ble_eq_true rfl) rfl ?_
        refine WL.pass 29 rfl (Nat.le_of_ble_eq_true rfl) rfl ?_
        refine WL.pass 30 rfl (Nat.le_of_ble_eq_true rfl) rfl ?_
        refine WL.pass 31 rfl (Nat.le_of_ble_eq_true rfl) rfl ?_
        refine WL.pass 32 rfl (Nat.le_of_ble_eq_true rfl) rfl ?_
        refine WL.pass 33 rfl (Nat.le_of_ble_eq_true rfl) rfl ?_
        refine WL.pure (v := .bool true) 34 rfl (Nat.le_of_ble_eq_true rfl) rfl rfl (by kernel_rfl) ?_
        refine WL.nil ?_
        refine WQ.then ?_
        refine hK44 _ _ _ ?_
        refine WC.sub (l' := [(0, .string (bS (c0 :: r0))), (2, vI 0), (3, .bool false), (4, .string (bS (c0 :: r0))), (15, .bool false), (34, .bool true)]) ⟨rfl, rfl, rfl, rfl, rfl, rfl, trivial⟩ ?_
        refine WC.yes rfl ?_
        refine WC.seq fun K45 hK45 => ?_
        refine WC.region ?_
        refine WL.pure (v := vI 0) 2 rfl (Nat.le_of_ble_eq_true rfl) rfl rfl (by kernel_rfl) ?_
        refine WL.pure (v := .bool false) 3 rfl (Nat.le_of_ble_eq_true rfl) rfl rfl (by kernel_rfl) ?_
        refine WL.nil ?_
        refine WQ.then ?_
        refine hK45 _ _ _ ?_
        refine WC.ret ?_
        refine WQ.thenRet ?_
        refine WQ.ret2 2 3 rfl rfl rfl ?_
        refine ⟨.inr ⟨?_, _, rfl⟩, HP.below hH1⟩
        unfold numV
        rw [hst.1, hst.2]
        rw [if_pos (.inl (List.length_eq_zero_iff.1 (by omega)))]
      ·
        refine WL.pure (v := .bool false) 20 rfl (Nat.le_of_ble_eq_true rfl) rfl rfl (x_eql rfl rfl rfl (dF (ht0))) ?_
        refine WL.pure (v := .bool false) 21 rfl (Nat.le_of_ble_eq_true rfl) rfl rfl (by kernel_rfl) ?_
        refine WL.pure (v := .string (bS (c0 :: r0))) 22 rfl (Nat.le_of_ble_eq_true rfl) rfl rfl (by kernel_rfl) ?_
        refine WL.pure (v := vI (((c0 :: r0).length : Nat) : Int)) 23 rfl (Nat.le_of_ble_eq_true rfl) rfl rfl (x_slen ((c0 :: r0)) rfl rfl rfl Tryd.underlying9) ?_
        by_cases h10 : (10 : Int) < (((c0 :: r0).length : Nat) : Int)
        ·
          refine WL.pure (v := .bool true) 24 rfl (Nat.le_of_ble_eq_true rfl) rfl rfl (x_gtr rfl rfl rfl (dT (h10))) ?_
          refine WL.pure (v := .bool true) 25 rfl (Nat.le_of_ble_eq_true rfl) rfl rfl (by kernel_rfl) ?_
          refine WL.pure (v := .bool true) 26 rfl (Nat.le_of_ble_eq_true rfl) rfl rfl (by kernel_rfl) ?_
          refine WL.pass 27 rfl (Nat.le_of_ble_eq_true rfl) rfl ?_
          refine WL.pass 28 rfl (Nat.le_of_ble_eq_true rfl) rfl ?_
          refine WL.pass 29 rfl (Nat.le_of_ble_eq_true rfl) rfl ?_
          refine WL.pass 30 rfl (Nat.le_of_ble_eq_true rfl) rfl ?_
          refine WL.pass 31 rfl (Nat.le_of_ble_eq_true rfl) rfl ?_
          refine WL.pass 32 rfl (Nat.le_of_ble_eq_true rfl) rfl ?_
          refine WL.pass 33 rfl (Nat.le_of_ble_eq_true rfl) rfl ?_
          refine WL.pure (v := .bool true) 34 rfl (Nat.le_of_ble_eq_true rfl) rfl rfl (by kernel_rfl) ?_
          refine WL.nil ?_
          refine WQ.then ?_
          refine hK44 _ _ _ ?_
          refine WC.sub (l' := [(0, .string (bS (c0 :: r0))), (2, vI 0), (3, .bool false), (4, .string (bS (c0 :: r0))), (15, .bool false), (34, .bool true)]) ⟨rfl, rfl, rfl, rfl, rfl, rfl, trivial⟩ ?_
          refine WC.yes rfl ?_
          refine WC.seq fun K46 hK46 => ?_
          refine WC.region ?_
          refine WL.pure (v := vI 0) 2 rfl (Nat.le_of_ble_eq_true rfl) rfl rfl (by kernel_rfl) ?_
          refine WL.pure (v := .bool false) 3 rfl (Nat.le_of_ble_eq_true rfl) rfl rfl (by kernel_rfl) ?_
          refine WL.nil ?_
          refine WQ.then ?_
          refine hK46 _ _ _ ?_
          refine WC.ret ?_
          refine WQ.thenRet ?_
          refine WQ.ret2 2 3 rfl rfl rfl ?_
          refine ⟨.inr ⟨?_, _, rfl⟩, HP.below hH1⟩
          unfold numV
          rw [hst.1, hst.2]
          rw [if_pos (.inr (.inl (by omega)))]
        ·
          refine WL.pure (v := .bool false) 24 rfl (Nat.le_of_ble_eq_true rfl) rfl rfl (x_gtr rfl rfl rfl (dF (h10))) ?_
          refine WL.pure (v := .bool false) 25 rfl (Nat.le_of_ble_eq_true rfl) rfl rfl (by kernel_rfl) ?_
          refine WL.pure (v := .bool false) 26 rfl (Nat.le_of_ble_eq_true rfl) rfl rfl (by kernel_rfl) ?_
          refine WL.pure (v := .string (bS (c0 :: r0))) 27 rfl (Nat.le_of_ble_eq_true rfl) rfl rfl (by kernel_rfl) ?_
          obtain ⟨t0, t1, ht01⟩ : ∃ t0 t1, (c0 :: r0) = t0 :: t1 := by
            cases hq : (c0 :: r0) with
            | nil => rw [hq] at ht0; simp at ht0
            | cons t0 t1 => exact ⟨t0, t1, rfl⟩
          refine WL.pure (v := .int .u8 (t0.toNat : Int)) 28 rfl (Nat.le_of_ble_eq_true rfl) rfl rfl (x_sidx (c0 :: r0) 0 t0 rfl rfl rfl Tryd.underlying9 rfl (by rw [ht01]; rfl)) ?_
          by_cases hz48 : (t0.toNat : Int) = 48
          ·
            refine WL.pure (v := .bool true) 29 rfl (Nat.le_of_ble_eq_true rfl) rfl rfl (x_eql rfl rfl rfl (dT (hz48))) ?_
            refine WL.pure (v := .bool true) 30 rfl (Nat.le_of_ble_eq_true rfl) rfl rfl (by kernel_rfl) ?_
            refine WL.pure (v := .string (bS (c0 :: r0))) 31 rfl (Nat.le_of_ble_eq_true rfl) rfl rfl (by kernel_rfl) ?_
            by_cases h48 : (c0 :: r0) = [48]
            ·
              refine WL.pure (v := .bool false) 32 rfl (Nat.le_of_ble_eq_true rfl) rfl rfl (x_neqs rfl rfl rfl (dF (fun h => h (congrArg bS h48)))) ?_
              refine WL.pure (v := .bool false) 33 rfl (Nat.le_of_ble_eq_true rfl) rfl rfl (by kernel_rfl) ?_
              refine WL.pure (v := .bool false) 34 rfl (Nat.le_of_ble_eq_true rfl) rfl rfl (by kernel_rfl) ?_
              refine WL.nil ?_
              refine WQ.then ?_
              refine hK44 _ _ _ ?_
              refine WC.sub (l' := [(0, .string (bS (c0 :: r0))), (2, vI 0), (3, .bool false), (4, .string (bS (c0 :: r0))), (15, .bool false), (34, .bool false)]) ⟨rfl, rfl, rfl, rfl, rfl, rfl, trivial⟩ ?_
              refine WC.no rfl ?_
              refine WC.skip ?_
              refine WQ.then ?_
              refine hK43 _ _ _ ?_
              refine WC.seq fun K47 hK47 => ?_
              refine WC.region ?_
              refine WL.pure (v := vI 0) 5 rfl (Nat.le_of_ble_eq_true rfl) rfl rfl (by kernel_rfl) ?_
              refine WL.nil ?_
              refine WQ.then ?_
              refine hK47 _ _ _ ?_
              refine WC.seq fun K48 hK48 => ?_
              refine WC.seq fun K49 hK49 => ?_
              refine WC.region ?_
              refine WL.pure (v := vI 0) 6 rfl (Nat.le_of_ble_eq_true rfl) rfl rfl (by kernel_rfl) ?_
              refine WL.nil ?_
              refine WQ.then ?_
              refine hK49 _ _ _ ?_
              refine WC.block ?_
              refine WC.loop (fun kk0 ll0 ww0 => ∃ (i : Nat) (m : Nat), ll0 = [(0, .string (bS (c0 :: r0))), (4, .string (bS (c0 :: r0))), (5, vI (m : Int)), (6, vI (i : Int))] ∧ kk0 = (c0 :: r0).length - i ∧ (i ≤ (c0 :: r0).length) ∧ (Lib.decFrom 0 ((c0 :: r0).take i) = some m) ∧ HP Tr w ww0 []) ((c0 :: r0).length) [(0, .string (bS (c0 :: r0))), (4, .string (bS (c0 :: r0))), (5, vI 0), (6, vI 0)] ⟨rfl, rfl, rfl, rfl, trivial⟩ ⟨0, 0, rfl, rfl, Nat.zero_le _, rfl, hH1⟩ ?_
              rintro kk l w51 ⟨i, m, rfl, hkk, hi, hm, hH52⟩ K50 hK50
              refine WC.seq fun K53 hK53 => ?_
              refine WC.seq fun K54 hK54 => ?_
              refine WC.region ?_
              refine WL.pure (v := vI (i : Int)) 35 rfl (Nat.le_of_ble_eq_true rfl) rfl rfl (by kernel_rfl) ?_
              refine WL.pure (v := .string (bS (c0 :: r0))) 36 rfl (Nat.le_of_ble_eq_true rfl) rfl rfl (by kernel_rfl) ?_
              refine WL.pure (v := vI (((c0 :: r0).length : Nat) : Int)) 37 rfl (Nat.le_of_ble_eq_true rfl) rfl rfl (x_slen ((c0 :: r0)) rfl rfl rfl Tryd.underlying9) ?_
              by_cases hlt : (i : Int) < (((c0 :: r0).length : Nat) : Int)
              ·
                refine WL.pure (v := .bool true) 38 rfl (Nat.le_of_ble_eq_true rfl) rfl rfl (x_lss rfl rfl rfl (dT (hlt))) ?_
                refine WL.nil ?_
                refine WQ.then ?_
                refine hK54 _ _ _ ?_
                refine WC.yes rfl ?_
                refine WC.skip ?_
                refine WQ.then ?_
                refine hK53 _ _ _ ?_
                refine WC.seq fun K55 hK55 => ?_
                refine WC.block ?_
                refine WC.seq fun K56 hK56 => ?_
                refine WC.seq fun K57 hK57 => ?_
                have hlt' : i < (c0 :: r0).length := by omega
                obtain ⟨b, hb⟩ : ∃ b, (c0 :: r0)[i]? = some b := ⟨(c0 :: r0)[i], List.getElem?_eq_getElem hlt'⟩
                have hb1 := b.toNat_lt
                refine WC.region ?_
                refine WL.pure (v := .string (bS (c0 :: r0))) 41 rfl (Nat.le_of_ble_eq_true rfl) rfl rfl (by kernel_rfl) ?_
                refine WL.pure (v := vI (i : Int)) 42 rfl (Nat.le_of_ble_eq_true rfl) rfl rfl (by kernel_rfl) ?_
                refine WL.pure (v := .int .u8 (b.toNat : Int)) 43 rfl (Nat.le_of_ble_eq_true rfl) rfl rfl (x_sidx (c0 :: r0) i b rfl rfl rfl Tryd.underlying9 rfl hb) ?_
                by_cases hlo : (b.toNat : Int) < 48
                ·
                  refine WL.pure (v := .bool true) 44 rfl (Nat.le_of_ble_eq_true rfl) rfl rfl (x_lss rfl rfl rfl (dT (hlo))) ?_
                  refine WL.pure (v := .bool true) 45 rfl (Nat.le_of_ble_eq_true rfl) rfl rfl (by kernel_rfl) ?_
                  refine WL.pass 46 rfl (Nat.le_of_ble_eq_true rfl) rfl ?_
                  refine WL.pass 47 rfl (Nat.le_of_ble_eq_true rfl) rfl ?_
                  refine WL.pass 48 rfl (Nat.le_of_ble_eq_true rfl) rfl ?_
                  refine WL.pass 49 rfl (Nat.le_of_ble_eq_true rfl) rfl ?_
                  refine WL.pure (v := .bool true) 50 rfl (Nat.le_of_ble_eq_true rfl) rfl rfl (by kernel_rfl) ?_
                  refine WL.nil ?_
                  refine WQ.then ?_
                  refine hK57 _ _ _ ?_
                  refine WC.sub (l' := [(0, .string (bS (c0 :: r0))), (4, .string (bS (c0 :: r0))), (5, vI (m : Int)), (6, vI (i : Int)), (38, .bool true), (50, .bool true)]) ⟨rfl, rfl, rfl, rfl, rfl, rfl, trivial⟩ ?_
                  refine WC.yes rfl ?_
                  refine WC.seq fun K58 hK58 => ?_
                  refine WC.region ?_
                  refine WL.pure (v := vI 0) 2 rfl (Nat.le_of_ble_eq_true rfl) rfl rfl (by kernel_rfl) ?_
                  refine WL.pure (v := .bool false) 3 rfl (Nat.le_of_ble_eq_true rfl) rfl rfl (by kernel_rfl) ?_
                  refine WL.nil ?_
                  refine WQ.then ?_
                  refine hK58 _ _ _ ?_
                  refine WC.ret ?_
                  refine WQ.thenRet ?_
                  refine WQ.inRet ?_
                  refine WQ.thenRet ?_
                  refine WQ.thenRet ?_
                  refine WQ.inRet ?_
                  refine WQ.thenRet ?_
                  refine WQ.ret2 2 3 rfl rfl rfl ?_
                  refine ⟨.inr ⟨?_, _, rfl⟩, HP.below hH52⟩
                  unfold numV
                  rw [hst.1, hst.2]
                  have hdv : Lib.digitVal b = none := by unfold Lib.digitVal; rw [if_neg (by omega)]
                  split
                  · rfl
                  · rw [dec_bad i 0 hm hb hdv]
                ·
                  refine WL.pure (v := .bool false) 44 rfl (Nat.le_of_ble_eq_true rfl) rfl rfl (x_lss rfl rfl rfl (dF (hlo))) ?_
                  refine WL.pure (v := .bool false) 45 rfl (Nat.le_of_ble_eq_true rfl) rfl rfl (by kernel_rfl) ?_
                  refine WL.pure (v := .string (bS (c0 :: r0))) 46 rfl (Nat.le_of_ble_eq_true rfl) rfl rfl (by kernel_rfl) ?_
                  refine WL.pure (v := vI (i : Int)) 47 rfl (Nat.le_of_ble_eq_true rfl) rfl rfl (by kernel_rfl) ?_
                  refine WL.pure (v := .int .u8 (b.toNat : Int)) 48 rfl (Nat.le_of_ble_eq_true rfl) rfl rfl (x_sidx (c0 :: r0) i b rfl rfl rfl Tryd.underlying9 rfl hb) ?_
                  by_cases hhi : (57 : Int) < (b.toNat : Int)
                  ·
                    refine WL.pure (v := .bool true) 49 rfl (Nat.le_of_ble_eq_true rfl) rfl rfl (x_gtr rfl rfl rfl (dT (hhi))) ?_
                    refine WL.pure (v := .bool true) 50 rfl (Nat.le_of_ble_eq_true rfl) rfl rfl (by kernel_rfl) ?_
                    refine WL.nil ?_
                    refine WQ.then ?_
                    refine hK57 _ _ _ ?_
                    refine WC.sub (l' := [(0, .string (bS (c0 :: r0))), (4, .string (bS (c0 :: r0))), (5, vI (m : Int)), (6, vI (i : Int)), (38, .bool true), (50, .bool true)]) ⟨rfl, rfl, rfl, rfl, rfl, rfl, trivial⟩ ?_
                    refine WC.yes rfl ?_
                    refine WC.seq fun K59 hK59 => ?_
                    refine WC.region ?_
                    refine WL.pure (v := vI 0) 2 rfl (Nat.le_of_ble_eq_true rfl) rfl rfl (by kernel_rfl) ?_
                    refine WL.pure (v := .bool false) 3 rfl (Nat.le_of_ble_eq_true rfl) rfl rfl (by kernel_rfl) ?_
                    refine WL.nil ?_
                    refine WQ.then ?_
                    refine hK59 _ _ _ ?_
                    refine WC.ret ?_
                    refine WQ.thenRet ?_
                    refine WQ.inRet ?_
                    refine WQ.thenRet ?_
                    refine WQ.thenRet ?_
                    refine WQ.inRet ?_
                    refine WQ.thenRet ?_
                    refine WQ.ret2 2 3 rfl rfl rfl ?_
                    refine ⟨.inr ⟨?_, _, rfl⟩, HP.below hH52⟩
                    unfold numV
                    rw [hst.1, hst.2]
                    have hdv : Lib.digitVal b = none := by unfold Lib.digitVal; rw [if_neg (by omega)]
                    split
                    · rfl
                    · rw [dec_bad i 0 hm hb hdv]
                  ·
                    refine WL.pure (v := .bool false) 49 rfl (Nat.le_of_ble_eq_true rfl) rfl rfl (x_gtr rfl rfl rfl (dF (hhi))) ?_
                    refine WL.pure (v := .bool false) 50 rfl (Nat.le_of_ble_eq_true rfl) rfl rfl (by kernel_rfl) ?_
                    refine WL.nil ?_
                    refine WQ.then ?_
                    refine hK57 _ _ _ ?_
                    refine WC.sub (l' := [(0, .string (bS (c0 :: r0))), (4, .string (bS (c0 :: r0))), (5, vI (m : Int)), (6, vI (i : Int)), (38, .bool true), (50, .bool false)]) ⟨rfl, rfl, rfl, rfl, rfl, rfl, trivial⟩ ?_
                    refine WC.no rfl ?_
                    refine WC.skip ?_
                    refine WQ.then ?_
                    refine hK56 _ _ _ ?_
                    have hmb : m < 10000000000 := by
                      have h1 := Lib.decFrom_lt _ _ _ hm
                      have h2 : (10 : Nat) ^ ((c0 :: r0).take i).length ≤ 10 ^ 10 := Nat.pow_le_pow_right (by decide) (by simp at h10 ⊢; omega)
                      have h3 : (10 : Nat) ^ 10 = 10000000000 := by decide
                      omega
                    refine WC.region ?_
                    refine WL.pure (v := vI (m : Int)) 51 rfl (Nat.le_of_ble_eq_true rfl) rfl rfl (by kernel_rfl) ?_
                    refine WL.pure (v := vI ((10 * m : Nat) : Int)) 52 rfl (Nat.le_of_ble_eq_true rfl) rfl rfl (x_mul (Z := ((10 * m : Nat) : Int)) rfl rfl rfl (by omega) (by omega) (by omega)) ?_
                    refine WL.pure (v := .string (bS (c0 :: r0))) 53 rfl (Nat.le_of_ble_eq_true rfl) rfl rfl (by kernel_rfl) ?_
                    refine WL.pure (v := vI (i : Int)) 54 rfl (Nat.le_of_ble_eq_true rfl) rfl rfl (by kernel_rfl) ?_
                    refine WL.pure (v := .int .u8 (b.toNat : Int)) 55 rfl (Nat.le_of_ble_eq_true rfl) rfl rfl (x_sidx (c0 :: r0) i b rfl rfl rfl Tryd.underlying9 rfl hb) ?_
                    refine WL.pure (v := .int .u8 ((b.toNat - 48 : Nat) : Int)) 56 rfl (Nat.le_of_ble_eq_true rfl) rfl rfl (x_sub8 (Z := ((b.toNat - 48 : Nat) : Int)) rfl rfl rfl (by omega) (by omega) (by omega)) ?_
                    refine WL.pure (v := vI ((b.toNat - 48 : Nat) : Int)) 57 rfl (Nat.le_of_ble_eq_true rfl) rfl rfl (x_cvi rfl rfl (by kernel_rfl) Tryd.underlying3 (by omega) (by omega)) ?_
                    refine WL.pure (v := vI ((m * 10 + (b.toNat - 48) : Nat) : Int)) 58 rfl (Nat.le_of_ble_eq_true rfl) rfl rfl (x_add (Z := ((m * 10 + (b.toNat - 48) : Nat) : Int)) rfl rfl rfl (by omega) (by omega) (by omega)) ?_
                    refine WL.pure (v := vI ((m * 10 + (b.toNat - 48) : Nat) : Int)) 5 rfl (Nat.le_of_ble_eq_true rfl) rfl rfl (by kernel_rfl) ?_
                    refine WL.nil ?_
                    refine WQ.inNormal ?_
                    refine WQ.then ?_
                    refine hK55 _ _ _ ?_
                    refine WC.sub (l' := [(0, .string (bS (c0 :: r0))), (4, .string (bS (c0 :: r0))), (5, vI ((m * 10 + (b.toNat - 48) : Nat) : Int)), (6, vI (i : Int)), (38, .bool true), (50, .bool false)]) ⟨rfl, rfl, rfl, rfl, rfl, rfl, trivial⟩ ?_
                    refine WC.region ?_
                    refine WL.pure (v := vI (i : Int)) 39 rfl (Nat.le_of_ble_eq_true rfl) rfl rfl (by kernel_rfl) ?_
                    refine WL.pure (v := vI ((i + 1 : Nat) : Int)) 40 rfl (Nat.le_of_ble_eq_true rfl) rfl rfl (x_add (Z := ((i + 1 : Nat) : Int)) rfl rfl rfl (by omega) (by omega) (by omega)) ?_
                    refine WL.pure (v := vI ((i + 1 : Nat) : Int)) 6 rfl (Nat.le_of_ble_eq_true rfl) rfl rfl (by kernel_rfl) ?_
                    refine WL.nil ?_
                    refine WQ.sub (l' := [(0, .string (bS (c0 :: r0))), (4, .string (bS (c0 :: r0))), (5, vI ((m * 10 + (b.toNat - 48) : Nat) : Int)), (6, vI ((i + 1 : Nat) : Int))]) ⟨rfl, rfl, rfl, rfl, trivial⟩ ?_
                    refine WQ.then (hK50 _ _ _ (by omega) ⟨i + 1, m * 10 + (b.toNat - 48), rfl, rfl, by omega, Lib.decFrom_take (c0 :: r0) i 0 m b (b.toNat - 48) hm hb (by unfold Lib.digitVal; rw [if_pos (by omega)]), hH52⟩)
              ·
                refine WL.pure (v := .bool false) 38 rfl (Nat.le_of_ble_eq_true rfl) rfl rfl (x_lss rfl rfl rfl (dF (hlt))) ?_
                refine WL.nil ?_
                refine WQ.then ?_
                refine hK54 _ _ _ ?_
                refine WC.no rfl ?_
                refine WC.exit ?_
                refine WQ.thenExit ?_
                refine WQ.thenExit ?_
                refine WQ.inExit ?_
                refine WQ.then ?_
                refine hK48 _ _ _ ?_
                refine WC.seq fun K60 hK60 => ?_
                refine WC.seq fun K61 hK61 => ?_
                refine WC.region ?_
                refine WL.pure (v := .string (bS (c0 :: r0))) 59 rfl (Nat.le_of_ble_eq_true rfl) rfl rfl (by kernel_rfl) ?_
                refine WL.pure (v := .int .u8 (c0.toNat : Int)) 60 rfl (Nat.le_of_ble_eq_true rfl) rfl rfl (x_sidx (c0 :: r0) 0 c0 rfl rfl rfl Tryd.underlying9 rfl rfl) ?_
                refine WL.pure (v := .bool false) 61 rfl (Nat.le_of_ble_eq_true rfl) rfl rfl (x_eql rfl rfl rfl (dF (fun h => hc45 (UInt8.toNat_inj.1 (by simpa using (by omega : c0.toNat = 45)))))) ?_
                refine WL.nil ?_
                refine WQ.then ?_
                refine hK61 _ _ _ ?_
                refine WC.no rfl ?_
                refine WC.skip ?_
                refine WQ.then ?_
                refine hK60 _ _ _ ?_
                refine WC.seq fun K62 hK62 => ?_
                refine WC.region ?_
                refine WL.pure (v := vI (m : Int)) 64 rfl (Nat.le_of_ble_eq_true rfl) rfl rfl (by kernel_rfl) ?_
                refine WL.pure (v := vI (m : Int)) 2 rfl (Nat.le_of_ble_eq_true rfl) rfl rfl (by kernel_rfl) ?_
                refine WL.pure (v := .bool true) 3 rfl (Nat.le_of_ble_eq_true rfl) rfl rfl (by kernel_rfl) ?_
                refine WL.nil ?_
                refine WQ.then ?_
                refine hK62 _ _ _ ?_
                refine WC.sub (l' := [(0, .string (bS (c0 :: r0))), (2, vI (m : Int)), (3, .bool true), (4, .string (bS (c0 :: r0))), (5, vI (m : Int)), (6, vI (i : Int)), (38, .bool false), (61, .bool false)]) ⟨rfl, rfl, rfl, rfl, rfl, rfl, rfl, rfl, trivial⟩ ?_
                refine WC.ret ?_
                refine WQ.ret2 2 3 rfl rfl rfl ?_
                have hm2 : Lib.decFrom 0 (c0 :: r0) = some m := by rw [show i = (c0 :: r0).length by omega, List.take_length] at hm; exact hm
                refine ⟨.inl ⟨_, ?_, rfl⟩, HP.below hH52⟩
                unfold numV
                rw [hst.1, hst.2]
                rw [if_neg (by
                  rintro (q | q | ⟨q, q2⟩)
                  · rw [q] at ht0; simp at ht0
                  · omega
                  · first | (exact q2 (by first | exact Decidable.not_not.1 h48 | exact h48)) | (rw [ht01] at q; simp only [List.head?_cons, Option.some.injEq] at q; subst q; exact hz48 rfl)), hm2]
                rfl
            ·
              refine WL.pure (v := .bool true) 32 rfl (Nat.le_of_ble_eq_true rfl) rfl rfl (x_neqs rfl rfl rfl (dT (fun h => h48 (bS_inj h)))) ?_
              refine WL.pure (v := .bool true) 33 rfl (Nat.le_of_ble_eq_true rfl) rfl rfl (by kernel_rfl) ?_
              refine WL.pure (v := .bool true) 34 rfl (Nat.le_of_ble_eq_true rfl) rfl rfl (by kernel_rfl) ?_
              refine WL.nil ?_
              refine WQ.then ?_
              refine hK44 _ _ _ ?_
              refine WC.sub (l' := [(0, .string (bS (c0 :: r0))), (2, vI 0), (3, .bool false), (4, .string (bS (c0 :: r0))), (15, .bool false), (34, .bool true)]) ⟨rfl, rfl, rfl, rfl, rfl, rfl, trivial⟩ ?_
              refine WC.yes rfl ?_
              refine WC.seq fun K63 hK63 => ?_
              refine WC.region ?_
              refine WL.pure (v := vI 0) 2 rfl (Nat.le_of_ble_eq_true rfl) rfl rfl (by kernel_rfl) ?_
              refine WL.pure (v := .bool false) 3 rfl (Nat.le_of_ble_eq_true rfl) rfl rfl (by kernel_rfl) ?_
              refine WL.nil ?_
              refine WQ.then ?_
              refine hK63 _ _ _ ?_
              refine WC.ret ?_
              refine WQ.thenRet ?_
              refine WQ.ret2 2 3 rfl rfl rfl ?_
              refine ⟨.inr ⟨?_, _, rfl⟩, HP.below hH1⟩
              unfold numV
              rw [hst.1, hst.2]
              rw [if_pos (.inr (.inr ⟨by rw [ht01]; simp only [List.head?_cons, Option.some.injEq]; exact UInt8.toNat_inj.1 (by simpa using (by omega : t0.toNat = 48)), h48⟩))]
          ·
            refine WL.pure (v := .bool false) 29 rfl (Nat.le_of_ble_eq_true rfl) rfl rfl (x_eql rfl rfl rfl (dF (hz48))) ?_
            refine WL.pure (v := .bool false) 30 rfl (Nat.le_of_ble_eq_true rfl) rfl rfl (by kernel_rfl) ?_
            refine WL.pass 31 rfl (Nat.le_of_ble_eq_true rfl) rfl ?_
            refine WL.pass 32 rfl (Nat.le_of_ble_eq_true rfl) rfl ?_
            refine WL.pure (v := .bool false) 33 rfl (Nat.le_of_ble_eq_true rfl) rfl rfl (by kernel_rfl) ?_
            refine WL.pure (v := .bool false) 34 rfl (Nat.le_of_ble_eq_true rfl) rfl rfl (by kernel_rfl) ?_
            refine WL.nil ?_
            refine WQ.then ?_
            refine hK44 _ _ _ ?_
            refine WC.sub (l' := [(0, .string (bS (c0 :: r0))), (2, vI 0), (3, .bool false), (4, .string (bS (c0 :: r0))), (15, .bool false), (34, .bool false)]) ⟨rfl, rfl, rfl, rfl, rfl, rfl, trivial⟩ ?_
            refine WC.no rfl ?_
            refine WC.skip ?_
            refine WQ.then ?_
            refine hK43 _ _ _ ?_
            refine WC.seq fun K64 hK64 => ?_
            refine WC.region ?_
            refine WL.pure (v := vI 0) 5 rfl (Nat.le_of_ble_eq_true rfl) rfl rfl (by kernel_rfl) ?_
            refine WL.nil ?_
            refine WQ.then ?_
            refine hK64 _ _ _ ?_
            refine WC.seq fun K65 hK65 => ?_
            refine WC.seq fun K66 hK66 => ?_
            refine WC.region ?_
            refine WL.pure (v := vI 0) 6 rfl (Nat.le_of_ble_eq_true rfl) rfl rfl (by kernel_rfl) ?_
            refine WL.nil ?_
            refine WQ.then ?_
            refine hK66 _ _ _ ?_
            refine WC.block ?_
            refine WC.loop (fun kk0 ll0 ww0 => ∃ (i : Nat) (m : Nat), ll0 = [(0, .string (bS (c0 :: r0))), (4, .string (bS (c0 :: r0))), (5, vI (m : Int)), (6, vI (i : Int))] ∧ kk0 = (c0 :: r0).length - i ∧ (i ≤ (c0 :: r0).length) ∧ (Lib.decFrom 0 ((c0 :: r0).take i) = some m) ∧ HP Tr w ww0 []) ((c0 :: r0).length) [(0, .string (bS (c0 :: r0))), (4, .string (bS (c0 :: r0))), (5, vI 0), (6, vI 0)] ⟨rfl, rfl, rfl, rfl, trivial⟩ ⟨0, 0, rfl, rfl, Nat.zero_le _, rfl, hH1⟩ ?_
            rintro kk l w68 ⟨i, m, rfl, hkk, hi, hm, hH69⟩ K67 hK67
            refine WC.seq fun K70 hK70 => ?_
            refine WC.seq fun K71 hK71 => ?_
            refine WC.region ?_
            refine WL.pure (v := vI (i : Int)) 35 rfl (Nat.le_of_ble_eq_true rfl) rfl rfl (by kernel_rfl) ?_
            refine WL.pure (v := .string (bS (c0 :: r0))) 36 rfl (Nat.le_of_ble_eq_true rfl) rfl rfl (by kernel_rfl) ?_
            refine WL.pure (v := vI (((c0 :: r0).length : Nat) : Int)) 37 rfl (Nat.le_of_ble_eq_true rfl) rfl rfl (x_slen ((c0 :: r0)) rfl rfl rfl Tryd.underlying9) ?_
            by_cases hlt : (i : Int) < (((c0 :: r0).length : Nat) : Int)
            ·
              refine WL.pure (v := .bool true) 38 rfl (Nat.le_of_ble_eq_true rfl) rfl rfl (x_lss rfl rfl rfl (dT (hlt))) ?_
              refine WL.nil ?_
              refine WQ.then ?_
              refine hK71 _ _ _ ?_
              refine WC.yes rfl ?_
              refine WC.skip ?_
              refine WQ.then ?_
              refine hK70 _ _ _ ?_
              refine WC.seq fun K72 hK72 => ?_
              refine WC.block ?_
              refine WC.seq fun K73 hK73 => ?_
              refine WC.seq fun K74 hK74 => ?_
              have hlt' : i < (c0 :: r0).length := by omega
              obtain ⟨b, hb⟩ : ∃ b, (c0 :: r0)[i]? = some b := ⟨(c0 :: r0)[i], List.getElem?_eq_getElem hlt'⟩
              have hb1 := b.toNat_lt
              refine WC.region ?_
              refine WL.pure (v := .string (bS (c0 :: r0))) 41 rfl (Nat.le_of_ble_eq_true rfl) rfl rfl (by kernel_rfl) ?_
              refine WL.pure (v := vI (i : Int)) 42 rfl (Nat.le_of_ble_eq_true rfl) rfl rfl (by kernel_rfl) ?_
              refine WL.pure (v := .int .u8 (b.toNat : Int)) 43 rfl (Nat.le_of_ble_eq_true rfl) rfl rfl (x_sidx (c0 :: r0) i b rfl rfl rfl Tryd.underlying9 rfl hb) ?_
              by_cases hlo : (b.toNat : Int) < 48
              ·
                refine WL.pure (v := .bool true) 44 rfl (Nat.le_of_ble_eq_true rfl) rfl rfl (x_lss rfl rfl rfl (dT (hlo))) ?_
                refine WL.pure (v := .bool true) 45 rfl (Nat.le_of_ble_eq_true rfl) rfl rfl (by kernel_rfl) ?_
                refine WL.pass 46 rfl (Nat.le_of_ble_eq_true rfl) rfl ?_
                refine WL.pass 47 rfl (Nat.le_of_ble_eq_true rfl) rfl ?_
                refine WL.pass 48 rfl (Nat.le_of_ble_eq_true rfl) rfl ?_
                refine WL.pass 49 rfl (Nat.le_of_ble_eq_true rfl) rfl ?_
                refine WL.pure (v := .bool true) 50 rfl (Nat.le_of_ble_eq_true rfl) rfl rfl (by kernel_rfl) ?_
                refine WL.nil ?_
                refine WQ.then ?_
                refine hK74 _ _ _ ?_
                refine WC.sub (l' := [(0, .string (bS (c0 :: r0))), (4, .string (bS (c0 :: r0))), (5, vI (m : Int)), (6, vI (i : Int)), (38, .bool true), (50, .bool true)]) ⟨rfl, rfl, rfl, rfl, rfl, rfl, trivial⟩ ?_
                refine WC.yes rfl ?_
                refine WC.seq fun K75 hK75 => ?_
                refine WC.region ?_
                refine WL.pure (v := vI 0) 2 rfl (Nat.le_of_ble_eq_true rfl) rfl rfl (by kernel_rfl) ?_
                refine WL.pure (v := .bool false) 3 rfl (Nat.le_of_ble_eq_true rfl) rfl rfl (by kernel_rfl) ?_
                refine WL.nil ?_
                refine WQ.then ?_
                refine hK75 _ _ _ ?_
                refine WC.ret ?_
                refine WQ.thenRet ?_
                refine WQ.inRet ?_
                refine WQ.thenRet ?_
                refine WQ.thenRet ?_
                refine WQ.inRet ?_
                refine WQ.thenRet ?_
                refine WQ.ret2 2 3 rfl rfl rfl ?_
                refine ⟨.inr ⟨?_, _, rfl⟩, HP.below hH69⟩
                unfold numV
                rw [hst.1, hst.2]
                have hdv : Lib.digitVal b = none := by unfold Lib.digitVal; rw [if_neg (by omega)]
                split
                · rfl
                · rw [dec_bad i 0 hm hb hdv]
              ·
                refine WL.pure (v := .bool false) 44 rfl (Nat.le_of_ble_eq_true rfl) rfl rfl (x_lss rfl rfl rfl (dF (hlo))) ?_
                refine WL.pure (v := .bool false) 45 rfl (Nat.le_of_ble_eq_true rfl) rfl rfl (by kernel_rfl) ?_
                refine WL.pure (v := .string (bS (c0 :: r0))) 46 rfl (Nat.le_of_ble_eq_true rfl) rfl rfl (by kernel_rfl) ?_
                refine WL.pure (v := vI (i : Int)) 47 rfl (Nat.le_of_ble_eq_true rfl) rfl rfl (by kernel_rfl) ?_
                refine WL.pure (v := .int .u8 (b.toNat : Int)) 48 rfl (Nat.le_of_ble_eq_true rfl) rfl rfl (x_sidx (c0 :: r0) i b rfl rfl rfl Tryd.underlying9 rfl hb) ?_
                by_cases hhi : (57 : Int) < (b.toNat : Int)
                ·
                  refine WL.pure (v := .bool true) 49 rfl (Nat.le_of_ble_eq_true rfl) rfl rfl (x_gtr rfl rfl rfl (dT (hhi))) ?_
                  refine WL.pure (v := .bool true) 50 rfl (Nat.le_of_ble_eq_true rfl) rfl rfl (by kernel_rfl) ?_
                  refine WL.nil ?_
                  refine WQ.then ?_
                  refine hK74 _ _ _ ?_
                  refine WC.sub (l' := [(0, .string (bS (c0 :: r0))), (4, .string (bS (c0 :: r0))), (5, vI (m : Int)), (6, vI (i : Int)), (38, .bool true), (50, .bool true)]) ⟨rfl, rfl, rfl, rfl, rfl, rfl, trivial⟩ ?_
                  refine WC.yes rfl ?_
                  refine WC.seq fun K76 hK76 => ?_
                  refine WC.region ?_
                  refine WL.pure (v := vI 0) 2 rfl (Nat.le_of_ble_eq_true rfl) rfl rfl (by kernel_rfl) ?_
                  refine WL.pure (v := .bool false) 3 rfl (Nat.le_of_ble_eq_true rfl) rfl rfl (by kernel_rfl) ?_
                  refine WL.nil ?_
                  refine WQ.then ?_
                  refine hK76 _ _ _ ?_
                  refine WC.ret ?_
                  refine WQ.thenRet ?_
                  refine WQ.inRet ?_
                  refine WQ.thenRet ?_
                  refine WQ.thenRet ?_
                  refine WQ.inRet ?_
                  refine WQ.thenRet ?_
                  refine WQ.ret2 2 3 rfl rfl rfl ?_
                  refine ⟨.inr ⟨?_, _, rfl⟩, HP.below hH69⟩
                  unfold numV
                  rw [hst.1, hst.2]
                  have hdv : Lib.digitVal b = none := by unfold Lib.digitVal; rw [if_neg (by omega)]
                  split
                  · rfl
                  · rw [dec_bad i 0 hm hb hdv]
                ·
                  refine WL.pure (v := .bool false) 49 rfl (Nat.le_of_ble_eq_true rfl) rfl rfl (x_gtr rfl rfl rfl (dF (hhi))) ?_
                  refine WL.pure (v := .bool false) 50 rfl (Nat.le_of_ble_eq_true rfl) rfl rfl (by kernel_rfl) ?_
                  refine WL.nil ?_
                  refine WQ.then ?_
                  refine hK74 _ _ _ ?_
                  refine WC.sub (l' := [(0, .string (bS (c0 :: r0))), (4, .string (bS (c0 :: r0))), (5, vI (m : Int)), (6, vI (i : Int)), (38, .bool true), (50, .bool false)]) ⟨rfl, rfl, rfl, rfl, rfl, rfl, trivial⟩ ?_
                  refine WC.no rfl ?_
                  refine WC.skip ?_
                  refine WQ.then ?_
                  refine hK73 _ _ _ ?_
                  have hmb : m < 10000000000 := by
                    have h1 := Lib.decFrom_lt _ _ _ hm
                    have h2 : (10 : Nat) ^ ((c0 :: r0).take i).length ≤ 10 ^ 10 := Nat.pow_le_pow_right (by decide) (by simp at h10 ⊢; omega)
                    have h3 : (10 : Nat) ^ 10 = 10000000000 := by decide
                    omega
                  refine WC.region ?_
                  refine WL.pure (v := vI (m : Int)) 51 rfl (Nat.le_of_ble_eq_true rfl) rfl rfl (by kernel_rfl) ?_
                  refine WL.pure (v := vI ((10 * m : Nat) : Int)) 52 rfl (Nat.le_of_ble_eq_true rfl) rfl rfl (x_mul (Z := ((10 * m : Nat) : Int)) rfl rfl rfl (by omega) (by omega) (by omega)) ?_
                  refine WL.pure (v := .string (bS (c0 :: r0))) 53 rfl (Nat.le_of_ble_eq_true rfl) rfl rfl (by kernel_rfl) ?_
                  refine WL.pure (v := vI (i : Int)) 54 rfl (Nat.le_of_ble_eq_true rfl) rfl rfl (by kernel_rfl) ?_
                  refine WL.pure (v := .int .u8 (b.toNat : Int)) 55 rfl (Nat.le_of_ble_eq_true rfl) rfl rfl (x_sidx (c0 :: r0) i b rfl rfl rfl Tryd.underlying9 rfl hb) ?_
                  refine WL.pure (v := .int .u8 ((b.toNat - 48 : Nat) : Int)) 56 rfl (Nat.le_of_ble_eq_true rfl) rfl rfl (x_sub8 (Z := ((b.toNat - 48 : Nat) : Int)) rfl rfl rfl (by omega) (by omega) (by omega)) ?_
                  refine WL.pure (v := vI ((b.toNat - 48 : Nat) : Int)) 57 rfl (Nat.le_of_ble_eq_true rfl) rfl rfl (x_cvi rfl rfl (by kernel_rfl) Tryd.underlying3 (by omega) (by omega)) ?_
                  refine WL.pure (v := vI ((m * 10 + (b.toNat - 48) : Nat) : Int)) 58 rfl (Nat.le_of_ble_eq_true rfl) rfl rfl (x_add (Z := ((m * 10 + (b.toNat - 48) : Nat) : Int)) rfl rfl rfl (by omega) (by omega) (by omega)) ?_
                  refine WL.pure (v := vI ((m * 10 + (b.toNat - 48) : Nat) : Int)) 5 rfl (Nat.le_of_ble_eq_true rfl) rfl rfl (by kernel_rfl) ?_
                  refine WL.nil ?_
                  refine WQ.inNormal ?_
                  refine WQ.then ?_
                  refine hK72 _ _ _ ?_
                  refine WC.sub (l' := [(0, .string (bS (c0 :: r0))), (4, .string (bS (c0 :: r0))), (5, vI ((m * 10 + (b.toNat - 48) : Nat) : Int)), (6, vI (i : Int)), (38, .bool true), (50, .bool false)]) ⟨rfl, rfl, rfl, rfl, rfl, rfl, trivial⟩ ?_
                  refine WC.region ?_
                  refine WL.pure (v := vI (i : Int)) 39 rfl (Nat.le_of_ble_eq_true rfl) rfl rfl (by kernel_rfl) ?_
                  refine WL.pure (v := vI ((i + 1 : Nat) : Int)) 40 rfl (Nat.le_of_ble_eq_true rfl) rfl rfl (x_add (Z := ((i + 1 : Nat) : Int)) rfl rfl rfl (by omega) (by omega) (by omega)) ?_
                  refine WL.pure (v := vI ((i + 1 : Nat) : Int)) 6 rfl (Nat.le_of_ble_eq_true rfl) rfl rfl (by kernel_rfl) ?_
                  refine WL.nil ?_
                  refine WQ.sub (l' := [(0, .string (bS (c0 :: r0))), (4, .string (bS (c0 :: r0))), (5, vI ((m * 10 + (b.toNat - 48) : Nat) : Int)), (6, vI ((i + 1 : Nat) : Int))]) ⟨rfl, rfl, rfl, rfl, trivial⟩ ?_
                  refine WQ.then (hK67 _ _ _ (by omega) ⟨i + 1, m * 10 + (b.toNat - 48), rfl, rfl, by omega, Lib.decFrom_take (c0 :: r0) i 0 m b (b.toNat - 48) hm hb (by unfold Lib.digitVal; rw [if_pos (by omega)]), hH69⟩)
            ·
              refine WL.pure (v := .bool false) 38 rfl (Nat.le_of_ble_eq_true rfl) rfl rfl (x_lss rfl rfl rfl (dF (hlt))) ?_
              refine WL.nil ?_
              refine WQ.then ?_
              refine hK71 _ _ _ ?_
              refine WC.no rfl ?_
              refine WC.exit ?_
              refine WQ.thenExit ?_
              refine WQ.thenExit ?_
              refine WQ.inExit ?_
              refine WQ.then ?_
              refine hK65 _ _ _ ?_
              refine WC.seq fun K77 hK77 => ?_
              refine WC.seq fun K78 hK78 => ?_
              refine WC.region ?_
              refine WL.pure (v := .string (bS (c0 :: r0))) 59 rfl (Nat.le_of_ble_eq_true rfl) rfl rfl (by kernel_rfl) ?_
              refine WL.pure (v := .int .u8 (c0.toNat : Int)) 60 rfl (Nat.le_of_ble_eq_true rfl) rfl rfl (x_sidx (c0 :: r0) 0 c0 rfl rfl rfl Tryd.underlying9 rfl rfl) ?_
              refine WL.pure (v := .bool false) 61 rfl (Nat.le_of_ble_eq_true rfl) rfl rfl (x_eql rfl rfl rfl (dF (fun h => hc45 (UInt8.toNat_inj.1 (by simpa using (by omega : c0.toNat = 45)))))) ?_
              refine WL.nil ?_
              refine WQ.then ?_
              refine hK78 _ _ _ ?_
              refine WC.no rfl ?_
              refine WC.skip ?_
              refine WQ.then ?_
              refine hK77 _ _ _ ?_
              refine WC.seq fun K79 hK79 => ?_
              refine WC.region ?_
              refine WL.pure (v := vI (m : Int)) 64 rfl (Nat.le_of_ble_eq_true rfl) rfl rfl (by kernel_rfl) ?_
              refine WL.pure (v := vI (m : Int)) 2 rfl (Nat.le_of_ble_eq_true rfl) rfl rfl (by kernel_rfl) ?_
              refine WL.pure (v := .bool true) 3 rfl (Nat.le_of_ble_eq_true rfl) rfl rfl (by kernel_rfl) ?_
              refine WL.nil ?_
              refine WQ.then ?_
              refine hK79 _ _ _ ?_
              refine WC.sub (l' := [(0, .string (bS (c0 :: r0))), (2, vI (m : Int)), (3, .bool true), (4, .string (bS (c0 :: r0))), (5, vI (m : Int)), (6, vI (i : Int)), (38, .bool false), (61, .bool false)]) ⟨rfl, rfl, rfl, rfl, rfl, rfl, rfl, rfl, trivial⟩ ?_
              refine WC.ret ?_
              refine WQ.ret2 2 3 rfl rfl rfl ?_
              have hm2 : Lib.decFrom 0 (c0 :: r0) = some m := by rw [show i = (c0 :: r0).length by omega, List.take_length] at hm; exact hm
              refine ⟨.inl ⟨_, ?_, rfl⟩, HP.below hH69⟩
              unfold numV
              rw [hst.1, hst.2]
              rw [if_neg (by
                rintro (q | q | ⟨q, q2⟩)
                · rw [q] at ht0; simp at ht0
                · omega
                · first | (exact q2 (by first | exact Decidable.not_not.1 h48 | exact h48)) | (rw [ht01] at q; simp only [List.head?_cons, Option.some.injEq] at q; subst q; exact hz48 rfl)), hm2]
              rfl
  ·
    refine WL.pure (v := .bool false) 10 rfl (Nat.le_of_ble_eq_true rfl) rfl rfl (x_gtr rfl rfl rfl (dF (hlen))) ?_
    refine WL.pure (v := .bool false) 11 rfl (Nat.le_of_ble_eq_true rfl) rfl rfl (by kernel_rfl) ?_
    refine WL.pass 12 rfl (Nat.le_of_ble_eq_true rfl) rfl ?_
    refine WL.pass 13 rfl (Nat.le_of_ble_eq_true rfl) rfl ?_
    refine WL.pass 14 rfl (Nat.le_of_ble_eq_true rfl) rfl ?_
    refine WL.pure (v := .bool false) 15 rfl (Nat.le_of_ble_eq_true rfl) rfl rfl (by kernel_rfl) ?_
    refine WL.nil ?_
    refine WQ.then ?_
    refine hK5 _ _ _ ?_
    refine WC.sub (l' := [(0, .string (bS l)), (2, vI 0), (3, .bool false), (4, .string (bS l)), (15, .bool false)]) ⟨rfl, rfl, rfl, rfl, rfl, trivial⟩ ?_
    refine WC.no rfl ?_
    refine WC.skip ?_
    refine WQ.then ?_
    refine hK4 _ _ _ ?_
    refine WC.seq fun K80 hK80 => ?_
    refine WC.seq fun K81 hK81 => ?_
    have hnil : l = [] := List.length_eq_zero_iff.1 (by omega)
    have hst : strip l = l ∧ neg l = false := by rw [hnil]; exact ⟨rfl, rfl⟩
    refine WC.region ?_
    refine WL.pure (v := .string (bS l)) 18 rfl (Nat.le_of_ble_eq_true rfl) rfl rfl (by kernel_rfl) ?_
    refine WL.pure (v := vI (l.length : Int)) 19 rfl (Nat.le_of_ble_eq_true rfl) rfl rfl (x_slen (l) rfl rfl rfl Tryd.underlying9) ?_
    by_cases ht0 : (l.length : Int) = 0
    ·
      refine WL.pure (v := .bool true) 20 rfl (Nat.le_of_ble_eq_true rfl) rfl rfl (x_eql rfl rfl rfl (dT (ht0))) ?_
      refine WL.pure (v := .bool true) 21 rfl (Nat.le_of_ble_eq_true rfl) rfl rfl (by kernel_rfl) ?_
      refine WL.pass 22 rfl (Nat.le_of_ble_eq_true rfl) rfl ?_
      refine WL.pass 23 rfl (Nat.le_of_ble_eq_true rfl) rfl ?_
      refine WL.pass 24 rfl (Nat.le_of_ble_eq_true rfl) rfl ?_
      refine WL.pure (v := .bool true) 25 rfl (Nat.le_of_ble_eq_true rfl) rfl rfl (by kernel_rfl) ?_
      refine WL.pure (v := .bool true) 26 rfl (Nat.le_of_ble_eq_true rfl) rfl rfl (by kernel_rfl) ?_
      refine WL.pass 27 rfl (Nat.le_of_ble_eq_true rfl) rfl ?_
      refine WL.pass 28 rfl (Nat.le_of_ble_eq_true rfl) rfl ?_
      refine WL.pass 29 rfl (Nat.le_of_ble_eq_true rfl) rfl ?_
      refine WL.pass 30 rfl (Nat.le_of_ble_eq_true rfl) rfl ?_
      refine WL.pass 31 rfl (Nat.le_of_ble_eq_true rfl) rfl ?_
      refine WL.pass 32 rfl (Nat.le_of_ble_eq_true rfl) rfl ?_
      refine WL.pass 33 rfl (Nat.le_of_ble_eq_true rfl) rfl ?_
      refine WL.pure (v := .bool true) 34 rfl (Nat.le_of_ble_eq_true rfl) rfl rfl (by kernel_rfl) ?_
      refine WL.nil ?_
      refine WQ.then ?_
      refine hK81 _ _ _ ?_
      refine WC.sub (l' := [(0, .string (bS l)), (2, vI 0), (3, .bool false), (4, .string (bS l)), (15, .bool false), (34, .bool true)]) ⟨rfl, rfl, rfl, rfl, rfl, rfl, trivial⟩ ?_
      refine WC.yes rfl ?_
      refine WC.seq fun K82 hK82 => ?_
      refine WC.region ?_
      refine WL.pure (v := vI 0) 2 rfl (Nat.le_of_ble_eq_true rfl) rfl rfl (by kernel_rfl) ?_
      refine WL.pure (v := .bool false) 3 rfl (Nat.le_of_ble_eq_true rfl) rfl rfl (by kernel_rfl) ?_
      refine WL.nil ?_
      refine WQ.then ?_
      refine hK82 _ _ _ ?_
      refine WC.ret ?_
      refine WQ.thenRet ?_
      refine WQ.ret2 2 3 rfl rfl rfl ?_
      refine ⟨.inr ⟨?_, _, rfl⟩, HP.below hH1⟩
      unfold numV
      rw [hst.1, hst.2]
      rw [if_pos (.inl (List.length_eq_zero_iff.1 (by omega)))]
    ·
      refine WL.pure (v := .bool false) 20 rfl (Nat.le_of_ble_eq_true rfl) rfl rfl (x_eql rfl rfl rfl (dF (ht0))) ?_
      refine WL.pure (v := .bool false) 21 rfl (Nat.le_of_ble_eq_true rfl) rfl rfl (by kernel_rfl) ?_
      refine WL.pure (v := .string (bS l)) 22 rfl (Nat.le_of_ble_eq_true rfl) rfl rfl (by kernel_rfl) ?_
      refine WL.pure (v := vI (l.length : Int)) 23 rfl (Nat.le_of_ble_eq_true rfl) rfl rfl (x_slen (l) rfl rfl rfl Tryd.underlying9) ?_
      by_cases h10 : (10 : Int) < (l.length : Int)
      ·
        refine WL.pure (v := .bool true) 24 rfl (Nat.le_of_ble_eq_true rfl) rfl rfl (x_gtr rfl rfl rfl (dT (h10))) ?_
        refine WL.pure (v := .bool true) 25 rfl (Nat.le_of_ble_eq_true rfl) rfl rfl (by kernel_rfl) ?_
        refine WL.pure (v := .bool true) 26 rfl (Nat.le_of_ble_eq_true rfl) rfl rfl (by kernel_rfl) ?_
        refine WL.pass 27 rfl (Nat.le_of_ble_eq_true rfl) rfl ?_
        refine WL.pass 28 rfl (Nat.le_of_ble_eq_true rfl) rfl ?_
        refine WL.pass 29 rfl (Nat.le_of_ble_eq_true rfl) rfl ?_
        refine WL.pass 30 rfl (Nat.le_of_ble_eq_true rfl) rfl ?_
        refine WL.pass 31 rfl (Nat.le_of_ble_eq_true rfl) rfl ?_
        refine WL.pass 32 rfl (Nat.le_of_ble_eq_true rfl) rfl ?_
        refine WL.pass 33 rfl (Nat.le_of_ble_eq_true rfl) rfl ?_
        refine WL.pure (v := .bool true) 34 rfl (Nat.le_of_ble_eq_true rfl) rfl rfl (by kernel_rfl) ?_
        refine WL.nil ?_
        refine WQ.then ?_
        refine hK81 _ _ _ ?_
        refine WC.sub (l' := [(0, .string (bS l)), (2, vI 0), (3, .bool false), (4, .string (bS l)), (15, .bool false), (34, .bool true)]) ⟨rfl, rfl, rfl, rfl, rfl, rfl, trivial⟩ ?_
        refine WC.yes rfl ?_
        refine WC.seq fun K83 hK83 => ?_
        refine WC.region ?_
        refine WL.pure (v := vI 0) 2 rfl (Nat.le_of_ble_eq_true rfl) rfl rfl (by kernel_rfl) ?_
        refine WL.pure (v := .bool false) 3 rfl (Nat.le_of_ble_eq_true rfl) rfl rfl (by kernel_rfl) ?_
        refine WL.nil ?_
        refine WQ.then ?_
        refine hK83 _ _ _ ?_
        refine WC.ret ?_
        refine WQ.thenRet ?_
        refine WQ.ret2 2 3 rfl rfl rfl ?_
        refine ⟨.inr ⟨?_, _, rfl⟩, HP.below hH1⟩
        unfold numV
        rw [hst.1, hst.2]
        rw [if_pos (.inr (.inl (by omega)))]
      ·
        refine WL.pure (v := .bool false) 24 rfl (Nat.le_of_ble_eq_true rfl) rfl rfl (x_gtr rfl rfl rfl (dF (h10))) ?_
        refine WL.pure (v := .bool false) 25 rfl (Nat.le_of_ble_eq_true rfl) rfl rfl (by kernel_rfl) ?_
        refine WL.pure (v := .bool false) 26 rfl (Nat.le_of_ble_eq_true rfl) rfl rfl (by kernel_rfl) ?_
        refine WL.pure (v := .string (bS l)) 27 rfl (Nat.le_of_ble_eq_true rfl) rfl rfl (by kernel_rfl) ?_
        obtain ⟨t0, t1, ht01⟩ : ∃ t0 t1, l = t0 :: t1 := by
          cases hq : l with
          | nil => rw [hq] at ht0; simp at ht0
          | cons t0 t1 => exact ⟨t0, t1, rfl⟩
        refine WL.pure (v := .int .u8 (t0.toNat : Int)) 28 rfl (Nat.le_of_ble_eq_true rfl) rfl rfl (x_sidx l 0 t0 rfl rfl rfl Tryd.underlying9 rfl (by rw [ht01]; rfl)) ?_
        by_cases hz48 : (t0.toNat : Int) = 48
        ·
          refine WL.pure (v := .bool true) 29 rfl (Nat.le_of_ble_eq_true rfl) rfl rfl (x_eql rfl rfl rfl (dT (hz48))) ?_
          refine WL.pure (v := .bool true) 30 rfl (Nat.le_of_ble_eq_true rfl) rfl rfl (by kernel_rfl) ?_
          refine WL.pure (v := .string (bS l)) 31 rfl (Nat.le_of_ble_eq_true rfl) rfl rfl (by kernel_rfl) ?_
          by_cases h48 : l = [48]
          ·
            refine WL.pure (v := .bool false) 32 rfl (Nat.le_of_ble_eq_true rfl) rfl rfl (x_neqs rfl rfl rfl (dF (fun h => h (congrArg bS h48)))) ?_
            refine WL.pure (v := .bool false) 33 rfl (Nat.le_of_ble_eq_true rfl) rfl rfl (by kernel_rfl) ?_
            refine WL.pure (v := .bool false) 34 rfl (Nat.le_of_ble_eq_true rfl) rfl rfl (by kernel_rfl) ?_
            refine WL.nil ?_
            refine WQ.then ?_
            refine hK81 _ _ _ ?_
            refine WC.sub (l' := [(0, .string (bS l)), (2, vI 0), (3, .bool false), (4, .string (bS l)), (15, .bool false), (34, .bool false)]) ⟨rfl, rfl, rfl, rfl, rfl, rfl, trivial⟩ ?_
            refine WC.no rfl ?_
            refine WC.skip ?_
            refine WQ.then ?_
            refine hK80 _ _ _ ?_
            refine WC.seq fun K84 hK84 => ?_
            refine WC.region ?_
            refine WL.pure (v := vI 0) 5 rfl (Nat.le_of_ble_eq_true rfl) rfl rfl (by kernel_rfl) ?_
            refine WL.nil ?_
            refine WQ.then ?_
            refine hK84 _ _ _ ?_
            refine WC.seq fun K85 hK85 => ?_
            refine WC.seq fun K86 hK86 => ?_
            refine WC.region ?_
            refine WL.pure (v := vI 0) 6 rfl (Nat.le_of_ble_eq_true rfl) rfl rfl (by kernel_rfl) ?_
            refine WL.nil ?_
            refine WQ.then ?_
            refine hK86 _ _ _ ?_
            refine WC.block ?_
            refine WC.loop (fun kk0 ll0 ww0 => ∃ (i : Nat) (m : Nat), ll0 = [(0, .string (bS l)), (4, .string (bS l)), (5, vI (m : Int)), (6, vI (i : Int))] ∧ kk0 = l.length - i ∧ (i ≤ l.length) ∧ (Lib.decFrom 0 (l.take i) = some m) ∧ HP Tr w ww0 []) (l.length) [(0, .string (bS l)), (4, .string (bS l)), (5, vI 0), (6, vI 0)] ⟨rfl, rfl, rfl, rfl, trivial⟩ ⟨0, 0, rfl, rfl, Nat.zero_le _, rfl, hH1⟩ ?_
            rintro kk l w88 ⟨i, m, rfl, hkk, hi, hm, hH89⟩ K87 hK87
            refine WC.seq fun K90 hK90 => ?_
            refine WC.seq fun K91 hK91 => ?_
            refine WC.region ?_
            refine WL.pure (v := vI (i : Int)) 35 rfl (Nat.le_of_ble_eq_true rfl) rfl rfl (by kernel_rfl) ?_
            refine WL.pure (v := .string (bS l)) 36 rfl (Nat.le_of_ble_eq_true rfl) rfl rfl (by kernel_rfl) ?_
            refine WL.pure (v := vI (l.length : Int)) 37 rfl (Nat.le_of_ble_eq_true rfl) rfl rfl (x_slen (l) rfl rfl rfl Tryd.underlying9) ?_
            by_cases hlt : (i : Int) < (l.length : Int)
            ·
              refine WL.pure (v := .bool true) 38 rfl (Nat.le_of_ble_eq_true rfl) rfl rfl (x_lss rfl rfl rfl (dT (hlt))) ?_
              refine WL.nil ?_
              refine WQ.then ?_
              refine hK91 _ _ _ ?_
              refine WC.yes rfl ?_
              refine WC.skip ?_
              refine WQ.then ?_
              refine hK90 _ _ _ ?_
              refine WC.seq fun K92 hK92 => ?_
              refine WC.block ?_
              refine WC.seq fun K93 hK93 => ?_
              refine WC.seq fun K94 hK94 => ?_
              have hlt' : i < l.length := by omega
              obtain ⟨b, hb⟩ : ∃ b, l[i]? = some b := ⟨l[i], List.getElem?_eq_getElem hlt'⟩
              have hb1 := b.toNat_lt
              refine WC.region ?_
              refine WL.pure (v := .string (bS l)) 41 rfl (Nat.le_of_ble_eq_true rfl) rfl rfl (by kernel_rfl) ?_
              refine WL.pure (v := vI (i : Int)) 42 rfl (Nat.le_of_ble_eq_true rfl) rfl rfl (by kernel_rfl) ?_
              refine WL.pure (v := .int .u8 (b.toNat : Int)) 43 rfl (Nat.le_of_ble_eq_true rfl) rfl rfl (x_sidx l i b rfl rfl rfl Tryd.underlying9 rfl hb) ?_
              by_cases hlo : (b.toNat : Int) < 48
              ·
                refine WL.pure (v := .bool true) 44 rfl (Nat.le_of_ble_eq_true rfl) rfl rfl (x_lss rfl rfl rfl (dT (hlo))) ?_
                refine WL.pure (v := .bool true) 45 rfl (Nat.le_of_ble_eq_true rfl) rfl rfl (by kernel_rfl) ?_
                refine WL.pass 46 rfl (Nat.le_of_ble_eq_true rfl) rfl ?_
                refine WL.pass 47 rfl (Nat.le_of_ble_eq_true rfl) rfl ?_
                refine WL.pass 48 rfl (Nat.le_of_ble_eq_true rfl) rfl ?_
                refine WL.pass 49 rfl (Nat.le_of_ble_eq_true rfl) rfl ?_
                refine WL.pure (v := .bool true) 50 rfl (Nat.le_of_ble_eq_true rfl) rfl rfl (by kernel_rfl) ?_
                refine WL.nil ?_
                refine WQ.then ?_
                refine hK94 _ _ _ ?_
                refine WC.sub (l' := [(0, .string (bS l)), (4, .string (bS l)), (5, vI (m : Int)), (6, vI (i : Int)), (38, .bool true), (50, .bool true)]) ⟨rfl, rfl, rfl, rfl, rfl, rfl, trivial⟩ ?_
                refine WC.yes rfl ?_
                refine WC.seq fun K95 hK95 => ?_
                refine WC.region ?_
                refine WL.pure (v := vI 0) 2 rfl (Nat.le_of_ble_eq_true rfl) rfl rfl (by kernel_rfl) ?_
                refine WL.pure (v := .bool false) 3 rfl (Nat.le_of_ble_eq_true rfl) rfl rfl (by kernel_rfl) ?_
                refine WL.nil ?_
                refine WQ.then ?_
                refine hK95 _ _ _ ?_
                refine WC.ret ?_
                refine WQ.thenRet ?_
                refine WQ.inRet ?_
                refine WQ.thenRet ?_
                refine WQ.thenRet ?_
                refine WQ.inRet ?_
                refine WQ.thenRet ?_
                refine WQ.ret2 2 3 rfl rfl rfl ?_
                refine ⟨.inr ⟨?_, _, rfl⟩, HP.below hH89⟩
                unfold numV
                rw [hst.1, hst.2]
                have hdv : Lib.digitVal b = none := by unfold Lib.digitVal; rw [if_neg (by omega)]
                split
                · rfl
                · rw [dec_bad i 0 hm hb hdv]
              ·
                refine WL.pure (v := .bool false) 44 rfl (Nat.le_of_ble_eq_true rfl) rfl rfl (x_lss rfl rfl rfl (dF (hlo))) ?_
                refine WL.pure (v := .bool false) 45 rfl (Nat.le_of_ble_eq_true rfl) rfl rfl (by kernel_rfl) ?_
                refine WL.pure (v := .string (bS l)) 46 rfl (Nat.le_of_ble_eq_true rfl) rfl rfl (by kernel_rfl) ?_
                refine WL.pure (v := vI (i : Int)) 47 rfl (Nat.le_of_ble_eq_true rfl) rfl rfl (by kernel_rfl) ?_
                refine WL.pure (v := .int .u8 (b.toNat : Int)) 48 rfl (Nat.le_of_ble_eq_true rfl) rfl rfl (x_sidx l i b rfl rfl rfl Tryd.underlying9 rfl hb) ?_
                by_cases hhi : (57 : Int) < (b.toNat : Int)
                ·
                  refine WL.pure (v := .bool true) 49 rfl (Nat.le_of_ble_eq_true rfl) rfl rfl (x_gtr rfl rfl rfl (dT (hhi))) ?_
                  refine WL.pure (v := .bool true) 50 rfl (Nat.le_of_ble_eq_true rfl) rfl rfl (by kernel_rfl) ?_
                  refine WL.nil ?_
                  refine WQ.then ?_
                  refine hK94 _ _ _ ?_
                  refine WC.sub (l' := [(0, .string (bS l)), (4, .string (bS l)), (5, vI (m : Int)), (6, vI (i : Int)), (38, .bool true), (50, .bool true)]) ⟨rfl, rfl, rfl, rfl, rfl, rfl, trivial⟩ ?_
                  refine WC.yes rfl ?_
                  refine WC.seq fun K96 hK96 => ?_
                  refine WC.region ?_
                  refine WL.pure (v := vI 0) 2 rfl (Nat.le_of_ble_eq_true rfl) rfl rfl (by kernel_rfl) ?_
                  refine WL.pure (v := .bool false) 3 rfl (Nat.le_of_ble_eq_true rfl) rfl rfl (by kernel_rfl) ?_
                  refine WL.nil ?_
                  refine WQ.then ?_
                  refine hK96 _ _ _ ?_
                  refine WC.ret ?_
                  refine WQ.thenRet ?_
                  refine WQ.inRet ?_
                  refine WQ.thenRet ?_
                  refine WQ.thenRet ?_
                  refine WQ.inRet ?_
                  refine WQ.thenRet ?_
                  refine WQ.ret2 2 3 rfl rfl rfl ?_
                  refine ⟨.inr ⟨?_, _, rfl⟩, HP.below hH89⟩
                  unfold numV
                  rw [hst.1, hst.2]
                  have hdv : Lib.digitVal b = none := by unfold Lib.digitVal; rw [if_neg (by omega)]
                  split
                  · rfl
                  · rw [dec_bad i 0 hm hb hdv]
                ·
                  refine WL.pure (v := .bool false) 49 rfl (Nat.le_of_ble_eq_true rfl) rfl rfl (x_gtr rfl rfl rfl (dF (hhi))) ?_
                  refine WL.pure (v := .bool false) 50 rfl (Nat.le_of_ble_eq_true rfl) rfl rfl (by kernel_rfl) ?_
                  refine WL.nil ?_
                  refine WQ.then ?_
                  refine hK94 _ _ _ ?_
                  refine WC.sub (l' := [(0, .string (bS l)), (4, .string (bS l)), (5, vI (m : Int)), (6, vI (i : Int)), (38, .bool true), (50, .bool false)]) ⟨rfl, rfl, rfl, rfl, rfl, rfl, trivial⟩ ?_
                  refine WC.no rfl ?_
                  refine WC.skip ?_
                  refine WQ.then ?_
                  refine hK93 _ _ _ ?_
                  have hmb : m < 10000000000 := by
                    have h1 := Lib.decFrom_lt _ _ _ hm
                    have h2 : (10 : Nat) ^ (l.take i).length ≤ 10 ^ 10 := Nat.pow_le_pow_right (by decide) (by simp at h10 ⊢; omega)
                    have h3 : (10 : Nat) ^ 10 = 10000000000 := by decide
                    omega
                  refine WC.region ?_
                  refine WL.pure (v := vI (m : Int)) 51 rfl (Nat.le_of_ble_eq_true rfl) rfl rfl (by kernel_rfl) ?_
                  refine WL.pure (v := vI ((10 * m : Nat) : Int)) 52 rfl (Nat.le_of_ble_eq_true rfl) rfl rfl (x_mul (Z := ((10 * m : Nat) : Int)) rfl rfl rfl (by omega) (by omega) (by omega)) ?_
                  refine WL.pure (v := .string (bS l)) 53 rfl (Nat.le_of_ble_eq_true rfl) rfl rfl (by kernel_rfl) ?_
                  refine WL.pure (v := vI (i : Int)) 54 rfl (Nat.le_of_ble_eq_true rfl) rfl rfl (by kernel_rfl) ?_
                  refine WL.pure (v := .int .u8 (b.toNat : Int)) 55 rfl (Nat.le_of_ble_eq_true rfl) rfl rfl (x_sidx l i b rfl rfl rfl Tryd.underlying9 rfl hb) ?_
                  refine WL.pure (v := .int .u8 ((b.toNat - 48 : Nat) : Int)) 56 rfl (Nat.le_of_ble_eq_true rfl) rfl rfl (x_sub8 (Z := ((b.toNat - 48 : Nat) : Int)) rfl rfl rfl (by omega) (by omega) (by omega)) ?_
                  refine WL.pure (v := vI ((b.toNat - 48 : Nat) : Int)) 57 rfl (Nat.le_of_ble_eq_true rfl) rfl rfl (x_cvi rfl rfl (by kernel_rfl) Tryd.underlying3 (by omega) (by omega)) ?_
                  refine WL.pure (v := vI ((m * 10 + (b.toNat - 48) : Nat) : Int)) 58 rfl (Nat.le_of_ble_eq_true rfl) rfl rfl (x_add (Z := ((m * 10 + (b.toNat - 48) : Nat) : Int)) rfl rfl rfl (by omega) (by omega) (by omega)) ?_
                  refine WL.pure (v := vI ((m * 10 + (b.toNat - 48) : Nat) : Int)) 5 rfl (Nat.le_of_ble_eq_true rfl) rfl rfl (by kernel_rfl) ?_
                  refine WL.nil ?_
                  refine WQ.inNormal ?_
                  refine WQ.then ?_
                  refine hK92 _ _ _ ?_
                  refine WC.sub (l' := [(0, .string (bS l)), (4, .string (bS l)), (5, vI ((m * 10 + (b.toNat - 48) : Nat) : Int)), (6, vI (i : Int)), (38, .bool true), (50, .bool false)]) ⟨rfl, rfl, rfl, rfl, rfl, rfl, trivial⟩ ?_
                  refine WC.region ?_
                  refine WL.pure (v := vI (i : Int)) 39 rfl (Nat.le_of_ble_eq_true rfl) rfl rfl (by kernel_rfl) ?_
                  refine WL.pure (v := vI ((i + 1 : Nat) : Int)) 40 rfl (Nat.le_of_ble_eq_true rfl) rfl rfl (x_add (Z := ((i + 1 : Nat) : Int)) rfl rfl rfl (by omega) (by omega) (by omega)) ?_
                  refine WL.pure (v := vI ((i + 1 : Nat) : Int)) 6 rfl (Nat.le_of_ble_eq_true rfl) rfl rfl (by kernel_rfl) ?_
                  refine WL.nil ?_
                  refine WQ.sub (l' := [(0, .string (bS l)), (4, .string (bS l)), (5, vI ((m * 10 + (b.toNat - 48) : Nat) : Int)), (6, vI ((i + 1 : Nat) : Int))]) ⟨rfl, rfl, rfl, rfl, trivial⟩ ?_
                  refine WQ.then (hK87 _ _ _ (by omega) ⟨i + 1, m * 10 + (b.toNat - 48), rfl, rfl, by omega, Lib.decFrom_take l i 0 m b (b.toNat - 48) hm hb (by unfold Lib.digitVal; rw [if_pos (by omega)]), hH89⟩)
            ·
              refine WL.pure (v := .bool false) 38 rfl (Nat.le_of_ble_eq_true rfl) rfl rfl (x_lss rfl rfl rfl (dF (hlt))) ?_
              refine WL.nil ?_
              refine WQ.then ?_
              refine hK91 _ _ _ ?_
              refine WC.no rfl ?_
              refine WC.exit ?_
              refine WQ.thenExit ?_
              refine WQ.thenExit ?_
              refine WQ.inExit ?_
              refine WQ.then ?_
              refine hK85 _ _ _ ?_
              refine WC.seq fun K97 hK97 => ?_
              refine WC.seq fun K98 hK98 => ?_
              refine WC.region ?_
              refine WL.pure (v := .string (bS l)) 59 rfl (Nat.le_of_ble_eq_true rfl) rfl rfl (by kernel_rfl) ?_
              exfalso; rw [hnil] at ht0; simp at ht0
          ·
            refine WL.pure (v := .bool true) 32 rfl (Nat.le_of_ble_eq_true rfl) rfl rfl (x_neqs rfl rfl rfl (dT (fun h => h48 (bS_inj h)))) ?_
            refine WL.pure (v := .bool true) 33 rfl (Nat.le_of_ble_eq_true rfl) rfl rfl (by kernel_rfl) ?_
            refine WL.pure (v := .bool true) 34 rfl (Nat.le_of_ble_eq_true rfl) rfl rfl (by kernel_rfl) ?_
            refine WL.nil ?_
            refine WQ.then ?_
            refine hK81 _ _ _ ?_
            refine WC.sub (l' := [(0, .string (bS l)), (2, vI 0), (3, .bool false), (4, .string (bS l)), (15, .bool false), (34, .bool true)]) ⟨rfl, rfl, rfl, rfl, rfl, rfl, trivial⟩ ?_
            refine WC.yes rfl ?_
            refine WC.seq fun K99 hK99 => ?_
            refine WC.region ?_
            refine WL.pure (v := vI 0) 2 rfl (Nat.le_of_ble_eq_true rfl) rfl rfl (by kernel_rfl) ?_
            refine WL.pure (v := .bool false) 3 rfl (Nat.le_of_ble_eq_true rfl) rfl rfl (by kernel_rfl) ?_
            refine WL.nil ?_
            refine WQ.then ?_
            refine hK99 _ _ _ ?_
            refine WC.ret ?_
            refine WQ.thenRet ?_
            refine WQ.ret2 2 3 rfl rfl rfl ?_
            refine ⟨.inr ⟨?_, _, rfl⟩, HP.below hH1⟩
            unfold numV
            rw [hst.1, hst.2]
            rw [if_pos (.inr (.inr ⟨by rw [ht01]; simp only [List.head?_cons, Option.some.injEq]; exact UInt8.toNat_inj.1 (by simpa using (by omega : t0.toNat = 48)), h48⟩))]
        ·
          refine WL.pure (v := .bool false) 29 rfl (Nat.le_of_ble_eq_true rfl) rfl rfl (x_eql rfl rfl rfl (dF (hz48))) ?_
          refine WL.pure (v := .bool false) 30 rfl (Nat.le_of_ble_eq_true rfl) rfl rfl (by kernel_rfl) ?_
          refine WL.pass 31 rfl (Nat.le_of_ble_eq_true rfl) rfl ?_
          refine WL.pass 32 rfl (Nat.le_of_ble_eq_true rfl) rfl ?_
          refine WL.pure (v := .bool false) 33 rfl (Nat.le_of_ble_eq_true rfl) rfl rfl (by kernel_rfl) ?_
          refine WL.pure (v := .bool false) 34 rfl (Nat.le_of_ble_eq_true rfl) rfl rfl (by kernel_rfl) ?_
          refine WL.nil ?_
          refine WQ.then ?_
          refine hK81 _ _ _ ?_
          refine WC.sub (l' := [(0, .string (bS l)), (2, vI 0), (3, .bool false), (4, .string (bS l)), (15, .bool false), (34, .bool false)]) ⟨rfl, rfl, rfl, rfl, rfl, rfl, trivial⟩ ?_
          refine WC.no rfl ?_
          refine WC.skip ?_
          refine WQ.then ?_
          refine hK80 _ _ _ ?_
          refine WC.seq fun K100 hK100 => ?_
          refine WC.region ?_
          refine WL.pure (v := vI 0) 5 rfl (Nat.le_of_ble_eq_true rfl) rfl rfl (by kernel_rfl) ?_
          refine WL.nil ?_
          refine WQ.then ?_
          refine hK100 _ _ _ ?_
          refine WC.seq fun K101 hK101 => ?_
          refine WC.seq fun K102 hK102 => ?_
          refine WC.region ?_
          refine WL.pure (v := vI 0) 6 rfl (Nat.le_of_ble_eq_true rfl) rfl rfl (by kernel_rfl) ?_
          refine WL.nil ?_
          refine WQ.then ?_
          refine hK102 _ _ _ ?_
          refine WC.block ?_
          refine WC.loop (fun kk0 ll0 ww0 => ∃ (i : Nat) (m : Nat), ll0 = [(0, .string (bS l)), (4, .string (bS l)), (5, vI (m : Int)), (6, vI (i : Int))] ∧ kk0 = l.length - i ∧ (i ≤ l.length) ∧ (Lib.decFrom 0 (l.take i) = some m) ∧ HP Tr w ww0 []) (l.length) [(0, .string (bS l)), (4, .string (bS l)), (5, vI 0), (6, vI 0)] ⟨rfl, rfl, rfl, rfl, trivial⟩ ⟨0, 0, rfl, rfl, Nat.zero_le _, rfl, hH1⟩ ?_
          rintro kk l w104 ⟨i, m, rfl, hkk, hi, hm, hH105⟩ K103 hK103
          refine WC.seq fun K106 hK106 => ?_
          refine WC.seq fun K107 hK107 => ?_
          refine WC.region ?_
          refine WL.pure (v := vI (i : Int)) 35 rfl (Nat.le_of_ble_eq_true rfl) rfl rfl (by kernel_rfl) ?_
          refine WL.pure (v := .string (bS l)) 36 rfl (Nat.le_of_ble_eq_true rfl) rfl rfl (by kernel_rfl) ?_
          refine WL.pure (v := vI (l.length : Int)) 37 rfl (Nat.le_of_ble_eq_true rfl) rfl rfl (x_slen (l) rfl rfl rfl Tryd.underlying9) ?_
          by_cases hlt : (i : Int) < (l.length : Int)
          ·
            refine WL.pure (v := .bool true) 38 rfl (Nat.le_of_ble_eq_true rfl) rfl rfl (x_lss rfl rfl rfl (dT (hlt))) ?_
            refine WL.nil ?_
            refine WQ.then ?_
            refine hK107 _ _ _ ?_
            refine WC.yes rfl ?_
            refine WC.skip ?_
            refine WQ.then ?_
            refine hK106 _ _ _ ?_
            refine WC.seq fun K108 hK108 => ?_
            refine WC.block ?_
            refine WC.seq fun K109 hK109 => ?_
            refine WC.seq fun K110 hK110 => ?_
            have hlt' : i < l.length := by omega
            obtain ⟨b, hb⟩ : ∃ b, l[i]? = some b := ⟨l[i], List.getElem?_eq_getElem hlt'⟩
            have hb1 := b.toNat_lt
            refine WC.region ?_
            refine WL.pure (v := .string (bS l)) 41 rfl (Nat.le_of_ble_eq_true rfl) rfl rfl (by kernel_rfl) ?_
            refine WL.pure (v := vI (i : Int)) 42 rfl (Nat.le_of_ble_eq_true rfl) rfl rfl (by kernel_rfl) ?_
            refine WL.pure (v := .int .u8 (b.toNat : Int)) 43 rfl (Nat.le_of_ble_eq_true rfl) rfl rfl (x_sidx l i b rfl rfl rfl Tryd.underlying9 rfl hb) ?_
            by_cases hlo : (b.toNat : Int) < 48
            ·
              refine WL.pure (v := .bool true) 44 rfl (Nat.le_of_ble_eq_true rfl) rfl rfl (x_lss rfl rfl rfl (dT (hlo))) ?_
              refine WL.pure (v := .bool true) 45 rfl (Nat.le_of_ble_eq_true rfl) rfl rfl (by kernel_rfl) ?_
              refine WL.pass 46 rfl (Nat.le_of_ble_eq_true rfl) rfl ?_
              refine WL.pass 47 rfl (Nat.le_of_ble_eq_true rfl) rfl ?_
              refine WL.pass 48 rfl (Nat.le_of_ble_eq_true rfl) rfl ?_
              refine WL.pass 49 rfl (Nat.le_of_ble_eq_true rfl) rfl ?_
              refine WL.pure (v := .bool true) 50 rfl (Nat.le_of_ble_eq_true rfl) rfl rfl (by kernel_rfl) ?_
              refine WL.nil ?_
              refine WQ.then ?_
              refine hK110 _ _ _ ?_
              refine WC.sub (l' := [(0, .string (bS l)), (4, .string (bS l)), (5, vI (m : Int)), (6, vI (i : Int)), (38, .bool true), (50, .bool true)]) ⟨rfl, rfl, rfl, rfl, rfl, rfl, trivial⟩ ?_
              refine WC.yes rfl ?_
              refine WC.seq fun K111 hK111 => ?_
              refine WC.region ?_
              refine WL.pure (v := vI 0) 2 rfl (Nat.le_of_ble_eq_true rfl) rfl rfl (by kernel_rfl) ?_
              refine WL.pure (v := .bool false) 3 rfl (Nat.le_of_ble_eq_true rfl) rfl rfl (by kernel_rfl) ?_
              refine WL.nil ?_
              refine WQ.then ?_
              refine hK111 _ _ _ ?_
              refine WC.ret ?_
              refine WQ.thenRet ?_
              refine WQ.inRet ?_
              refine WQ.thenRet ?_
              refine WQ.thenRet ?_
              refine WQ.inRet ?_
              refine WQ.thenRet ?_
              refine WQ.ret2 2 3 rfl rfl rfl ?_
              refine ⟨.inr ⟨?_, _, rfl⟩, HP.below hH105⟩
              unfold numV
              rw [hst.1, hst.2]
              have hdv : Lib.digitVal b = none := by unfold Lib.digitVal; rw [if_neg (by omega)]
              split
              · rfl
              · rw [dec_bad i 0 hm hb hdv]
            ·
              refine WL.pure (v := .bool false) 44 rfl (Nat.le_of_ble_eq_true rfl) rfl rfl (x_lss rfl rfl rfl (dF (hlo))) ?_
              refine WL.pure (v := .bool false) 45 rfl (Nat.le_of_ble_eq_true rfl) rfl rfl (by kernel_rfl) ?_
              refine WL.pure (v := .string (bS l)) 46 rfl (Nat.le_of_ble_eq_true rfl) rfl rfl (by kernel_rfl) ?_
              refine WL.pure (v := vI (i : Int)) 47 rfl (Nat.le_of_ble_eq_true rfl) rfl rfl (by kernel_rfl) ?_
              refine WL.pure (v := .int .u8 (b.toNat : Int)) 48 rfl (Nat.le_of_ble_eq_true rfl) rfl rfl (x_sidx l i b rfl rfl rfl Tryd.underlying9 rfl hb) ?_
              by_cases hhi : (57 : Int) < (b.toNat : Int)
              ·
                refine WL.pure (v := .bool true) 49 rfl (Nat.le_of_ble_eq_true rfl) rfl rfl (x_gtr rfl rfl rfl (dT (hhi))) ?_
                refine WL.pure (v := .bool true) 50 rfl (Nat.le_of_ble_eq_true rfl) rfl rfl (by kernel_rfl) ?_
                refine WL.nil ?_
                refine WQ.then ?_
                refine hK110 _ _ _ ?_
                refine WC.sub (l' := [(0, .string (bS l)), (4, .string (bS l)), (5, vI (m : Int)), (6, vI (i : Int)), (38, .bool true), (50, .bool true)]) ⟨rfl, rfl, rfl, rfl, rfl, rfl, trivial⟩ ?_
                refine WC.yes rfl ?_
                refine WC.seq fun K112 hK112 => ?_
                refine WC.region ?_
                refine WL.pure (v := vI 0) 2 rfl (Nat.le_of_ble_eq_true rfl) rfl rfl (by kernel_rfl) ?_
                refine WL.pure (v := .bool false) 3 rfl (Nat.le_of_ble_eq_true rfl) rfl rfl (by kernel_rfl) ?_
                refine WL.nil ?_
                refine WQ.then ?_
                refine hK112 _ _ _ ?_
                refine WC.ret ?_
                refine WQ.thenRet ?_
                refine WQ.inRet ?_
                refine WQ.thenRet ?_
                refine WQ.thenRet ?_
                refine WQ.inRet ?_
                refine WQ.thenRet ?_
                refine WQ.ret2 2 3 rfl rfl rfl ?_
                refine ⟨.inr ⟨?_, _, rfl⟩, HP.below hH105⟩
                unfold numV
                rw [hst.1, hst.2]
                have hdv : Lib.digitVal b = none := by unfold Lib.digitVal; rw [if_neg (by omega)]
                split
                · rfl
                · rw [dec_bad i 0 hm hb hdv]
              ·
                refine WL.pure (v := .bool false) 49 rfl (Nat.le_of_ble_eq_true rfl) rfl rfl (x_gtr rfl rfl rfl (dF (hhi))) ?_
                refine WL.pure (v := .bool false) 50 rfl (Nat.le_of_ble_eq_true rfl) rfl rfl (by kernel_rfl) ?_
                refine WL.nil ?_
                refine WQ.then ?_
                refine hK110 _ _ _ ?_
                refine WC.sub (l' := [(0, .string (bS l)), (4, .string (bS l)), (5, vI (m : Int)), (6, vI (i : Int)), (38, .bool true), (50, .bool false)]) ⟨rfl, rfl, rfl, rfl, rfl, rfl, trivial⟩ ?_
                refine WC.no rfl ?_
                refine WC.skip ?_
                refine WQ.then ?_
                refine hK109 _ _ _ ?_
                have hmb : m < 10000000000 := by
                  have h1 := Lib.decFrom_lt _ _ _ hm
                  have h2 : (10 : Nat) ^ (l.take i).length ≤ 10 ^ 10 := Nat.pow_le_pow_right (by decide) (by simp at h10 ⊢; omega)
                  have h3 : (10 : Nat) ^ 10 = 10000000000 := by decide
                  omega
                refine WC.region ?_
                refine WL.pure (v := vI (m : Int)) 51 rfl (Nat.le_of_ble_eq_true rfl) rfl rfl (by kernel_rfl) ?_
                refine WL.pure (v := vI ((10 * m : Nat) : Int)) 52 rfl (Nat.le_of_ble_eq_true rfl) rfl rfl (x_mul (Z := ((10 * m : Nat) : Int)) rfl rfl rfl (by omega) (by omega) (by omega)) ?_
                refine WL.pure (v := .string (bS l)) 53 rfl (Nat.le_of_ble_eq_true rfl) rfl rfl (by kernel_rfl) ?_
                refine WL.pure (v := vI (i : Int)) 54 rfl (Nat.le_of_ble_eq_true rfl) rfl rfl (by kernel_rfl) ?_
                refine WL.pure (v := .int .u8 (b.toNat : Int)) 55 rfl (Nat.le_of_ble_eq_true rfl) rfl rfl (x_sidx l i b rfl rfl rfl Tryd.underlying9 rfl hb) ?_
                refine WL.pure (v := .int .u8 ((b.toNat - 48 : Nat) : Int)) 56 rfl (Nat.le_of_ble_eq_true rfl) rfl rfl (x_sub8 (Z := ((b.toNat - 48 : Nat) : Int)) rfl rfl rfl (by omega) (by omega) (by omega)) ?_
                refine WL.pure (v := vI ((b.toNat - 48 : Nat) : Int)) 57 rfl (Nat.le_of_ble_eq_true rfl) rfl rfl (x_cvi rfl rfl (by kernel_rfl) Tryd.underlying3 (by omega) (by omega)) ?_
                refine WL.pure (v := vI ((m * 10 + (b.toNat - 48) : Nat) : Int)) 58 rfl (Nat.le_of_ble_eq_true rfl) rfl rfl (x_add (Z := ((m * 10 + (b.toNat - 48) : Nat) : Int)) rfl rfl rfl (by omega) (by omega) (by omega)) ?_
                refine WL.pure (v := vI ((m * 10 + (b.toNat - 48) : Nat) : Int)) 5 rfl (Nat.le_of_ble_eq_true rfl) rfl rfl (by kernel_rfl) ?_
                refine WL.nil ?_
                refine WQ.inNormal ?_
                refine WQ.then ?_
                refine hK108 _ _ _ ?_
                refine WC.sub (l' := [(0, .string (bS l)), (4, .string (bS l)), (5, vI ((m * 10 + (b.toNat - 48) : Nat) : Int)), (6, vI (i : Int)), (38, .bool true), (50, .bool false)]) ⟨rfl, rfl, rfl, rfl, rfl, rfl, trivial⟩ ?_
                refine WC.region ?_
                refine WL.pure (v := vI (i : Int)) 39 rfl (Nat.le_of_ble_eq_true rfl) rfl rfl (by kernel_rfl) ?_
                refine WL.pure (v := vI ((i + 1 : Nat) : Int)) 40 rfl (Nat.le_of_ble_eq_true rfl) rfl rfl (x_add (Z := ((i + 1 : Nat) : Int)) rfl rfl rfl (by omega) (by omega) (by omega)) ?_
                refine WL.pure (v := vI ((i + 1 : Nat) : Int)) 6 rfl (Nat.le_of_ble_eq_true rfl) rfl rfl (by kernel_rfl) ?_
                refine WL.nil ?_
                refine WQ.sub (l' := [(0, .string (bS l)), (4, .string (bS l)), (5, vI ((m * 10 + (b.toNat - 48) : Nat) : Int)), (6, vI ((i + 1 : Nat) : Int))]) ⟨rfl, rfl, rfl, rfl, trivial⟩ ?_
                refine WQ.then (hK103 _ _ _ (by omega) ⟨i + 1, m * 10 + (b.toNat - 48), rfl, rfl, by omega, Lib.decFrom_take l i 0 m b (b.toNat - 48) hm hb (by unfold Lib.digitVal; rw [if_pos (by omega)]), hH105⟩)
          ·
            refine WL.pure (v := .bool false) 38 rfl (Nat.le_of_ble_eq_true rfl) rfl rfl (x_lss rfl rfl rfl (dF (hlt))) ?_
            refine WL.nil ?_
            refine WQ.then ?_
            refine hK107 _ _ _ ?_
            refine WC.no rfl ?_
            refine WC.exit ?_
            refine WQ.thenExit ?_
            refine WQ.thenExit ?_
            refine WQ.inExit ?_
            refine WQ.then ?_
            refine hK101 _ _ _ ?_
            refine WC.seq fun K113 hK113 => ?_
            refine WC.seq fun K114 hK114 => ?_
            refine WC.region ?_
            refine WL.pure (v := .string (bS l)) 59 rfl (Nat.le_of_ble_eq_true rfl) rfl rfl (by kernel_rfl) ?_
            exfalso; rw [hnil] at ht0; simp at ht0
end Cw
end Go.Proofs.YteeljnlepbnhkaaDoor
