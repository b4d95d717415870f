/- The bus of two slots. -/
import Derived.Test.YthiogahpoebamaaFV
import Derived.Test.YthiogahpoebamaaK
import Derived.Laws.Shifts
set_option linter.unusedVariables false
set_option linter.unusedSimpArgs false
namespace Go.Proofs.Ythiogahpoebamaa
open Go.RowKit Fw Sup
namespace Bu
theorem x_convI {P : Program} {ρ : Operand → Value} {o : Oper} {w : World} {s t : TypeId} {x : Operand} {k k' : IntKind} {X Z : Int} (ho : o.op = .convert s t x) (hx : ρ x = .int k X) (hs : (P.underlying s).isSome = true) (ht : P.underlying t = some (.int (P.intKind t))) (hk : P.intKind t = k') (hz : k'.wrap X = Z) :
    (execOp ρ o).run P w = .ok (.value (.int k' Z)) w := by
  subst hk
  unfold execOp; rw [ho]; simp [hx, run_convert_int w s t k X hs ht, hz]
theorem x_shr1 {P : Program} {ρ : Operand → Value} {o : Oper} {w : World} {t u : TypeId} {x y : Operand} {k yk : IntKind} {X : Int} (ho : o.op = .binOp .shr t x y u) (hx : ρ x = .int k X) (hy : ρ y = .int yk 1) (hk : 1 ≤ k.bits) :
    (execOp ρ o).run P w = .ok (.value (.int k (X / 2))) w := by
  exact x_bin ho hx hy g_int (by simp [binOp, shift_shr_any k yk X 1 (by omega), show min 1 k.bits = 1 by omega])
def oF (i : Nat) : Int := if i = 0 then 0 else 1
def sF (s t : Nat) (i : Nat) : Int := if i = 0 then (s : Int) else t
/-- the two slots in memory -/
def LR (w : World) (bb oo s t : Nat) : Prop := ∀ i, i < 2 → w.rangeAt bb (oo + i * 2) [vI (oF i), vI (sF s t i)]
theorem LR.below {w w' : World} {bb oo s t : Nat} (h : LR w bb oo s t) (hb : Below w.heap.size w w') : LR w' bb oo s t := fun i hi j v hv => by
  rw [hb.cell (World.block_lt_of_cell? w _ (h i hi j v hv))]; exact h i hi j v hv
/-- numbers one behind the other -/
def rng (a n : Nat) : List Value := (List.range n).map fun i => vI ((a + i : Nat) : Int)
theorem rng_push (a n : Nat) : rng a n ++ [vI ((a + n : Nat) : Int)] = rng a (n + 1) := by simp [rng, List.range_succ]
theorem rng_get {a n i : Nat} (h : i < n) : (rng a n)[i]? = some (vI ((a + i : Nat) : Int)) := by simp [rng, h]
theorem infoI : ∃ i, Try.prog.info? 3 = some i ∧ i.zero = some (.int .i64 0) ∧ i.size = 1 ∧ i.bytes = 8 := by
  obtain ⟨i, hi, h⟩ := Option.map_eq_some_iff.1 (show (Try.prog.info? 3).map (fun i => (i.zero, i.size, i.bytes)) = some (some (.int .i64 0), 1, 8) by kernel_rfl)
  simp only [Prod.mk.injEq] at h
  exact ⟨i, hi, h.1, h.2.1, h.2.2⟩
theorem own_form {w : World} {e k : Nat} {v : Value} {xs : List Value} (h : Ent.holds w (.own v k xs e 1)) : ∃ pv cp, v = .slice pv k cp ∧ cp ≤ 9223372036854775807 ∧ k ≤ cp ∧ (0 < k → ∃ g, pv = some ⟨g, 0, none⟩) := by
  have h2 : w.ownsRow 0 e 1 v k xs := h
  obtain ⟨hl, ⟨h0, h1⟩ | ⟨g, cap, cur, hv, hb, hg, hc, hm, hs, hx⟩⟩ := h2
  · subst h1; exact ⟨none, 0, h0, by omega, by omega, fun q => absurd q (by omega)⟩
  · exact ⟨some ⟨g, 0, none⟩, cap, hv, by unfold maxLen at hm; omega, hc, fun _ => ⟨g, rfl⟩⟩
theorem own_len {w : World} {e k : Nat} {v : Value} {xs : List Value} (h : Ent.holds w (.own v k xs e 1)) : xs.length = k := by
  have h2 : w.ownsRow 0 e 1 v k xs := h
  simpa using h2.1
/-- what came of appending one -/
theorem app1 {S : Nat → Prop} {w0 w : World} {H : List Ent} (hH : HP S w0 w H) (i j : Nat) {v : Value} {k nb : Nat} {xs : List Value} {u : Int} (ty : TypeId)
    (hi : H[i]? = some (.own v k xs 3 1)) (hj : H[j]? = some (.cel nb #[vI u] 3)) (hk : k ≤ 1000) :
    ∃ pv cp w2, (Builtin.append_ #[68, 68] ty #[v, vS nb 1 1]).run Try.prog w = .ok (.slice pv (k + 1) cp) w2 ∧ HP S w0 w2 (H.set i (.own (.slice pv (k + 1) cp) (k + 1) (xs ++ [vI u]) 3 1)) := by
  obtain ⟨i0, hi0, hz0, hz1, hz2⟩ := infoI
  obtain ⟨v', w2, hr, g1, g2, g3, g4⟩ := append_ent (P := Try.prog) w 68 ty 3 i0 _ 1 8 Try.underlying68 hi0 hz0 hz1 hz2 rfl (by decide) v k xs (hH.get i hi) ⟨nb, 0, none⟩ 1 1 [vI u] rfl (fun q u2 hu => by
    rw [Addr.add_mid]
    exact hH.range j hj (cs := [vI u]) rfl q u2 (by simpa using hu)) (by simp [Value.oneCell']) (by unfold maxLen; omega) (by omega)
  obtain ⟨pv, cp, rfl, -⟩ := own_form (show Ent.holds w2 (.own v' (k + 1) (xs ++ [vI u]) 3 1) from ⟨g1.1, g1.2⟩)
  exact ⟨pv, cp, w2, hr, hH.change i hi g2.os g2.tape g2.output g2.size (fun q hq hne => g2.block q hq fun e => hne e.symm) ⟨g1.1, g1.2⟩ g4⟩
/-- what turning returns -/
def TurnR (w : World) (s t : Nat) (e : Ending) (w' : World) : Prop := ∃ (po : Option Addr) (co g0 c0 g1 c1 : Nat) (xo : List Value),
  e = .returned (.agg #[.slice po (s + t) co, vS g0 s c0, vS g1 t c1, .slice none 0 0, .slice none 0 0]) ∧ HP Tr w w' [.own (.slice po (s + t) co) (s + t) xo 3 1, .own (vS g0 s c0) s (rng 0 s) 3 1, .own (vS g1 t c1) t (rng s t) 3 1]
theorem sz44 : (Try.prog.info? 44).map (·.size) = some 2 := by kernel_rfl
theorem sz68 : (Try.prog.info? 68).map (·.size) = some 1 := by kernel_rfl
theorem sz71 : (Try.prog.info? 71).map (·.size) = some 5 := by kernel_rfl
set_option maxRecDepth 20000 in
set_option maxHeartbeats 4000000 in
theorem turning_any (bb oo s t : Nat) (w : World) (hr : LR w bb oo s t) (hs : 1 ≤ s ∧ s ≤ 50) (ht : 1 ≤ t ∧ t ≤ 50) :
    Calls Try.prog 66 #[.slice (some ⟨bb, oo, none⟩) 2 2] w (TurnR w s t) := by
  refine calls_of Try.func66 rfl (m := 40) rfl [(0, .slice (some ⟨bb, oo, none⟩) 2 2)] (Fr_enter [.slice (some ⟨bb, oo, none⟩) 2 2] 40 (Nat.le_of_ble_eq_true rfl)) ?_
  have hH1 : HP Tr w w [] := HP.refl w
  refine WC.seq fun K2 hK2 => ?_
  refine WC.region ?_
  refine WL.alloc (c := #[.slice none 0 0, .slice none 0 0, .slice none 0 0, .slice none 0 0, .slice none 0 0]) (T := 71) hH1 2 rfl (by decide) rfl rfl (fun b2 => vP b2 0) (by kernel_rfl) (fun b2 w3 hw3 => ?_)
  have hH4 : HP Tr w w3 [.cel b2 #[.slice none 0 0, .slice none 0 0, .slice none 0 0, .slice none 0 0, .slice none 0 0] 71] := hw3.2
  have nb2 := hw3.1
  clear hw3
  refine WL.nil ?_
  refine WQ.then ?_
  refine hK2 _ _ _ ?_
  refine WC.seq fun K5 hK5 => ?_
  refine WC.region ?_
  refine WL.alloc (c := #[.slice none 0 0, .slice none 0 0, .slice none 0 0, .slice none 0 0, .slice none 0 0]) (T := 71) hH4 3 rfl (by decide) rfl rfl (fun b3 => vP b3 0) (by kernel_rfl) (fun b3 w6 hw6 => ?_)
  have hH7 : HP Tr w w6 [.cel b2 #[.slice none 0 0, .slice none 0 0, .slice none 0 0, .slice none 0 0, .slice none 0 0] 71, .cel b3 #[.slice none 0 0, .slice none 0 0, .slice none 0 0, .slice none 0 0, .slice none 0 0] 71] := hw6.2
  have nb3 := hw6.1
  clear hw6
  refine WL.nil ?_
  refine WQ.then ?_
  refine hK5 _ _ _ ?_
  refine WC.seq fun K8 hK8 => ?_
  refine WC.seq fun K9 hK9 => ?_
  refine WC.region ?_
  refine WL.pure (v := .slice (some ⟨bb, oo, none⟩) 2 2) 6 rfl (Nat.le_of_ble_eq_true rfl) rfl rfl (by kernel_rfl) ?_
  refine WL.pure (v := vI 2) 7 rfl (Nat.le_of_ble_eq_true rfl) rfl rfl (by kernel_rfl) ?_
  refine WL.pure (v := vI 0) 8 rfl (Nat.le_of_ble_eq_true rfl) rfl rfl (by kernel_rfl) ?_
  refine WL.nil ?_
  refine WQ.then ?_
  refine hK9 _ _ _ ?_
  refine WC.block ?_
  have hO0 := HP.ownNil hH7 3 1
  have hO1 := HP.ownNil hO0 3 1
  have hO2 := HP.ownNil hO1 3 1
  refine WC.loop (fun kk0 ll0 ww0 => ∃ (i : Nat) (a : Nat) (b : Nat) (vo : Value) (v0 : Value) (v1 : Value) (xo : List Value), ll0 = [(2, vP b2 0), (3, vP b3 0), (6, .slice (some ⟨bb, oo, none⟩) 2 2), (7, vI 2), (8, vI (i : Int))] ∧ kk0 = 2 - i ∧ ((i = 0 ∧ a = 0 ∧ b = 0) ∨ (i = 1 ∧ s = a ∧ b = 0) ∨ (i = 2 ∧ s = a ∧ t = b)) ∧ HP Tr w ww0 [.cel b2 #[.slice none 0 0, .slice none 0 0, .slice none 0 0, .slice none 0 0, .slice none 0 0] 71, .cel b3 #[vo, v0, v1, .slice none 0 0, .slice none 0 0] 71, .own vo (a + b) xo 3 1, .own v0 (a) (rng 0 a) 3 1, .own v1 (b) (rng s b) 3 1]) (2) [(2, vP b2 0), (3, vP b3 0), (6, .slice (some ⟨bb, oo, none⟩) 2 2), (7, vI 2), (8, vI 0)] ⟨rfl, rfl, rfl, rfl, rfl, trivial⟩ ⟨0, 0, 0, .slice none 0 0, .slice none 0 0, .slice none 0 0, [], rfl, rfl, .inl ⟨rfl, rfl, rfl⟩, hO2⟩ ?_
  rintro kk l w11 ⟨i, a, b, vo, v0, v1, xo, rfl, hkk, hcs, hH12⟩ K10 hK10
  refine WC.seq fun K13 hK13 => ?_
  refine WC.region ?_
  by_cases hlt : (i : Int) < 2
  ·
    refine WL.pure (v := .bool true) 9 rfl (Nat.le_of_ble_eq_true rfl) rfl rfl (x_lss rfl rfl rfl (dT (hlt))) ?_
    refine WL.nil ?_
    refine WQ.then ?_
    refine hK13 _ _ _ ?_
    refine WC.seq fun K14 hK14 => ?_
    refine WC.yes rfl ?_
    refine WC.skip ?_
    refine WQ.then ?_
    refine hK14 _ _ _ ?_
    refine WC.seq fun K15 hK15 => ?_
    refine WC.block ?_
    refine WC.seq fun K16 hK16 => ?_
    rcases hcs with ⟨rfl, rfl, rfl⟩ | ⟨rfl, rfl, rfl⟩ | ⟨rfl, rfl, rfl⟩
    ·
      have hH17 : HP Tr w _ [.cel b2 #[.slice none 0 0, .slice none 0 0, .slice none 0 0, .slice none 0 0, .slice none 0 0] 71, .cel b3 #[vo, v0, v1, .slice none 0 0, .slice none 0 0] 71, .own vo (0) xo 3 1, .own v0 (0) (rng 0 0) 3 1, .own v1 (0) (rng s 0) 3 1] := hH12
      refine WC.region ?_
      refine WL.pure (v := vP bb (oo + 0)) 10 rfl (Nat.le_of_ble_eq_true rfl) rfl rfl (x_idx (0) (oo + 0) rfl rfl rfl Try.underlying45 sz44 (by omega) (by omega) (by omega)) ?_
      refine WL.pure (v := .agg #[vI 0, vI (s : Int)]) 11 rfl (Nat.le_of_ble_eq_true rfl) rfl rfl (x_loadS (cs := [vI 0, vI (s : Int)]) rfl rfl Try.underlying44 rfl sz44 (HP.oldRange hH17 trivial (hr 0 (by omega)))) ?_
      refine WL.alloc (c := #[vI 0, vI 0]) (T := 44) hH17 5 rfl (by decide) rfl rfl (fun b18 => vP b18 0) (by kernel_rfl) (fun b18 w19 hw19 => ?_)
      have hH20 : HP Tr w w19 [.cel b2 #[.slice none 0 0, .slice none 0 0, .slice none 0 0, .slice none 0 0, .slice none 0 0] 71, .cel b3 #[vo, v0, v1, .slice none 0 0, .slice none 0 0] 71, .own vo (0) xo 3 1, .own v0 (0) (rng 0 0) 3 1, .own v1 (0) (rng s 0) 3 1, .cel b18 #[vI 0, vI 0] 44] := hw19.2
      have nb18 := hw19.1
      clear hw19
      refine WL.storeS (H2 := [.cel b2 #[.slice none 0 0, .slice none 0 0, .slice none 0 0, .slice none 0 0, .slice none 0 0] 71, .cel b3 #[vo, v0, v1, .slice none 0 0, .slice none 0 0] 71, .own vo (0) xo 3 1, .own v0 (0) (rng 0 0) 3 1, .own v1 (0) (rng s 0) 3 1, .cel b18 #[vI 0, vI (s : Int)] 44]) 5 hH20 rfl rfl rfl rfl rfl rfl sz44 rfl (Nat.le_of_ble_eq_true rfl) rfl rfl ?_
      intro w21 hH22
      refine WL.nil ?_
      refine WQ.then ?_
      refine hK16 _ _ _ ?_
      refine WC.seq fun K23 hK23 => ?_
      refine WC.region ?_
      refine WL.pure (v := vP b18 1) 12 rfl (Nat.le_of_ble_eq_true rfl) rfl rfl (by kernel_rfl) ?_
      refine WL.pure (v := vI (s : Int)) 13 rfl (Nat.le_of_ble_eq_true rfl) rfl rfl (x_load rfl rfl Try.underlying3 rfl (HP.cell hH22 5 rfl rfl)) ?_
      refine WL.pure (v := vI 0) 14 rfl (Nat.le_of_ble_eq_true rfl) rfl rfl (by kernel_rfl) ?_
      refine WL.nil ?_
      refine WQ.then ?_
      refine hK23 _ _ _ ?_
      refine WC.block ?_
      refine WC.loop (fun kk0 ll0 ww0 => ∃ (k : Nat) (vo : Value) (x : Value) (xo : List Value), ll0 = [(2, vP b2 0), (3, vP b3 0), (5, vP b18 0), (6, .slice (some ⟨bb, oo, none⟩) 2 2), (7, vI 2), (8, vI 0), (13, vI (s : Int)), (14, vI (k : Int))] ∧ kk0 = s - k ∧ (k ≤ s) ∧ HP Tr w ww0 [.cel b2 #[.slice none 0 0, .slice none 0 0, .slice none 0 0, .slice none 0 0, .slice none 0 0] 71, .cel b3 #[vo, x, v1, .slice none 0 0, .slice none 0 0] 71, .own vo (k) xo 3 1, .own x (k) (rng 0 k) 3 1, .own v1 (0) (rng s 0) 3 1, .cel b18 #[vI 0, vI (s : Int)] 44]) (s) [(2, vP b2 0), (3, vP b3 0), (5, vP b18 0), (6, .slice (some ⟨bb, oo, none⟩) 2 2), (7, vI 2), (8, vI 0), (13, vI (s : Int)), (14, vI 0)] ⟨rfl, rfl, rfl, rfl, rfl, rfl, rfl, rfl, trivial⟩ ⟨0, vo, v0, xo, rfl, rfl, Nat.zero_le _, hH22⟩ ?_
      rintro kk l w25 ⟨k, vo, x, xo, rfl, hkk, hk, hH26⟩ K24 hK24
      obtain ⟨po, co, rfl, hco1, hco2, -⟩ := own_form (HP.get hH26 2 rfl)
      obtain ⟨px, cx, rfl, hcx1, hcx2, -⟩ := own_form (HP.get hH26 3 rfl)
      refine WC.seq fun K27 hK27 => ?_
      refine WC.region ?_
      by_cases hkl : (k : Int) < (s : Int)
      ·
        refine WL.pure (v := .bool true) 15 rfl (Nat.le_of_ble_eq_true rfl) rfl rfl (x_lss rfl rfl rfl (dT (hkl))) ?_
        refine WL.nil ?_
        refine WQ.then ?_
        refine hK27 _ _ _ ?_
        refine WC.seq fun K28 hK28 => ?_
        refine WC.yes rfl ?_
        refine WC.skip ?_
        refine WQ.then ?_
        refine hK28 _ _ _ ?_
        refine WC.seq fun K29 hK29 => ?_
        refine WC.block ?_
        refine WC.seq fun K30 hK30 => ?_
        refine WC.confG (γ := Nat × (Option Addr × Nat)) [(2, vP b2 0), (3, vP b3 0), (5, vP b18 0), (6, .slice (some ⟨bb, oo, none⟩) 2 2), (7, vI 2), (8, vI 0), (13, vI (s : Int)), (14, vI (k : Int)), (15, .bool true)] (fun g => [vP b18 0, vI 0, vP b18 0, vI 0, vP b3 1, vP b3 1, (.slice px k cx), vP b3 0, (.slice po (k) co), vI (k : Int), vS g.1 1 1, (.slice g.2.1 (k + 1) g.2.2), vP b3 1, vP b3 1, undef]) (fun g D wz => HP Tr w wz ([.cel b2 #[.slice none 0 0, .slice none 0 0, .slice none 0 0, .slice none 0 0, .slice none 0 0] 71, (bif D 14 then Ent.cel b3 #[(.slice po (k) co), (.slice g.2.1 (k + 1) g.2.2), v1, .slice none 0 0, .slice none 0 0] 71 else Ent.cel b3 #[(.slice po (k) co), (.slice px k cx), v1, .slice none 0 0, .slice none 0 0] 71), .own (.slice po (k) co) (k) xo 3 1, (bif D 11 then Ent.own (.slice g.2.1 (k + 1) g.2.2) (k + 1) (rng 0 (k + 1)) 3 1 else Ent.own (.slice px k cx) (k) (rng 0 k) 3 1), .own v1 (0) (rng s 0) 3 1, .cel b18 #[vI 0, vI (s : Int)] 44] ++ (bif D 10 then [Ent.cel g.1 #[vI (k : Int)] 3] else []))) (0, none, 0) (by kernel_rfl) ⟨rfl, rfl, rfl, rfl, rfl, rfl, rfl, rfl, rfl, trivial⟩ (by kernel_rfl) (by kernel_rfl) (by kernel_rfl) (fun _ => rfl) (by kernel_rfl) (HP.drew hH26) ?_ ?_
        · refine AllOk.cons ?o0 (AllOk.cons ?o1 (AllOk.cons ?o2 (AllOk.cons ?o3 (AllOk.cons ?o4 (AllOk.cons ?o5 (AllOk.cons ?o6 (AllOk.cons ?o7 (AllOk.cons ?o8 (AllOk.cons ?o9 (AllOk.cons ?o10 (AllOk.cons ?o11 (AllOk.cons ?o12 (AllOk.cons ?o13 (AllOk.cons ?o14 (AllOk.nil _)))))))))))))))
          case o0 =>
            intro g D wz hDi hdep hclo hW
            exact .inl ⟨rfl, rfl, .inl ⟨g, wz, fun _ _ => rfl, by kernel_rfl, hW⟩⟩
          case o1 =>
            intro g D wz hDi hdep hclo hW
            exact .inl ⟨rfl, rfl, .inl ⟨g, wz, fun _ _ => rfl, x_load rfl rfl Try.underlying3 rfl (HP.cell hW 5 rfl rfl), hW⟩⟩
          case o2 =>
            intro g D wz hDi hdep hclo hW
            exact .inl ⟨rfl, rfl, .inl ⟨g, wz, fun _ _ => rfl, by kernel_rfl, hW⟩⟩
          case o3 =>
            intro g D wz hDi hdep hclo hW
            exact .inl ⟨rfl, rfl, .inl ⟨g, wz, fun _ _ => rfl, x_load rfl rfl Try.underlying3 rfl (HP.cell hW 5 rfl rfl), hW⟩⟩
          case o4 =>
            intro g D wz hDi hdep hclo hW
            exact .inl ⟨rfl, rfl, .inl ⟨g, wz, fun _ _ => rfl, by kernel_rfl, hW⟩⟩
          case o5 =>
            intro g D wz hDi hdep hclo hW
            exact .inl ⟨rfl, rfl, .inl ⟨g, wz, fun _ _ => rfl, x_idxArr (0) (1) rfl rfl rfl Try.underlying69 sz68 rfl (by omega) (by omega), hW⟩⟩
          case o6 =>
            intro g D wz hDi hdep hclo hW
            have d14 : D 14 = false := by
              cases h : D 14 with
              | false => rfl
              | true => exact absurd (hclo 14 _ rfl h ⟨6, .phase⟩ (by simp) rfl) (by rw [hDi]; exact Bool.false_ne_true)
            have hW2 := hW
            simp only [d14, cond_false] at hW2
            exact .inl ⟨rfl, rfl, .inl ⟨g, wz, fun _ _ => rfl, x_load rfl rfl Try.underlying68 rfl (HP.cell hW2 1 rfl rfl), hW⟩⟩
          case o7 =>
            intro g D wz hDi hdep hclo hW
            exact .inl ⟨rfl, rfl, .inl ⟨g, wz, fun _ _ => rfl, by kernel_rfl, hW⟩⟩
          case o8 =>
            intro g D wz hDi hdep hclo hW
            have d14 : D 14 = false := by
              cases h : D 14 with
              | false => rfl
              | true => exact absurd (hclo 14 _ rfl h ⟨8, .phase⟩ (by simp) rfl) (by rw [hDi]; exact Bool.false_ne_true)
            have hW2 := hW
            simp only [d14, cond_false] at hW2
            exact .inl ⟨rfl, rfl, .inl ⟨g, wz, fun _ _ => rfl, x_load rfl rfl Try.underlying68 rfl (HP.cell hW2 1 rfl rfl), hW⟩⟩
          case o9 =>
            intro g D wz hDi hdep hclo hW
            exact .inl ⟨rfl, rfl, .inl ⟨g, wz, fun _ _ => rfl, by kernel_rfl, hW⟩⟩
          case o10 =>
            intro g D wz hDi hdep hclo hW
            have d11 : D 11 = false := by
              cases h : D 11 with
              | false => rfl
              | true => exact absurd (hclo 11 _ rfl h ⟨10, .data⟩ (by simp) rfl) (by rw [hDi]; exact Bool.false_ne_true)
            have d14 : D 14 = false := by
              cases h : D 14 with
              | false => rfl
              | true => exact absurd (hclo 14 _ rfl h ⟨10, .phase⟩ (by simp) rfl) (by rw [hDi]; exact Bool.false_ne_true)
            simp only [hDi, d11, d14, cond_false] at hW
            refine .inl ⟨rfl, rfl, .inl ⟨(wz.heap.size, g.2), wz.alloc (.cells #[vI (k : Int)] 3), fun j hj => ?_, by kernel_rfl, ?_⟩⟩
            · match j, hj with
              | 0, hj => rfl
              | 1, hj => rfl
              | 2, hj => rfl
              | 3, hj => rfl
              | 4, hj => rfl
              | 5, hj => rfl
              | 6, hj => rfl
              | 7, hj => rfl
              | 8, hj => rfl
              | 9, hj => rfl
              | 10, hj => rw [hDi] at hj; cases hj
              | 11, hj => rfl
              | 12, hj => rfl
              | 13, hj => rfl
              | 14, hj => rfl
              | j + 15, _ => rfl
            · have h4 := HP.alloc hW #[vI (k : Int)] 3
              show HP Tr w _ ([.cel b2 #[.slice none 0 0, .slice none 0 0, .slice none 0 0, .slice none 0 0, .slice none 0 0] 71, (bif D 14 then Ent.cel b3 #[(.slice po (k) co), (.slice g.2.1 (k + 1) g.2.2), v1, .slice none 0 0, .slice none 0 0] 71 else Ent.cel b3 #[(.slice po (k) co), (.slice px k cx), v1, .slice none 0 0, .slice none 0 0] 71), .own (.slice po (k) co) (k) xo 3 1, (bif D 11 then Ent.own (.slice g.2.1 (k + 1) g.2.2) (k + 1) (rng 0 (k + 1)) 3 1 else Ent.own (.slice px k cx) (k) (rng 0 k) 3 1), .own v1 (0) (rng s 0) 3 1, .cel b18 #[vI 0, vI (s : Int)] 44] ++ [Ent.cel wz.heap.size #[vI (k : Int)] 3])
              simp only [d11, d14, cond_false]
              simpa using h4
          case o11 =>
            intro g D wz hDi hdep hclo hW
            have d10 : D 10 = true := hdep ⟨10, .data⟩ (by simp) rfl
            have d14 : D 14 = false := by
              cases h : D 14 with
              | false => rfl
              | true => exact absurd (hclo 14 _ rfl h ⟨11, .data⟩ (by simp) rfl) (by rw [hDi]; exact Bool.false_ne_true)
            simp only [hDi, d10, d14, cond_true, cond_false] at hW
            obtain ⟨pv, cp, w2, hr2, hH2⟩ := app1 hW 3 6 68 rfl rfl (by omega)
            rw [show (rng 0 k ++ [vI (k : Int)]) = rng 0 (k + 1) from by have q := rng_push 0 k; rwa [Nat.zero_add] at q] at hH2
            refine .inl ⟨rfl, rfl, .inl ⟨(g.1, pv, cp), w2, fun j hj => ?_, x_append rfl rfl rfl hr2, ?_⟩⟩
            · match j, hj with
              | 0, hj => rfl
              | 1, hj => rfl
              | 2, hj => rfl
              | 3, hj => rfl
              | 4, hj => rfl
              | 5, hj => rfl
              | 6, hj => rfl
              | 7, hj => rfl
              | 8, hj => rfl
              | 9, hj => rfl
              | 10, hj => rfl
              | 11, hj => rw [hDi] at hj; cases hj
              | 12, hj => rfl
              | 13, hj => rfl
              | 14, hj => rfl
              | j + 15, _ => rfl
            · show HP Tr w _ ([.cel b2 #[.slice none 0 0, .slice none 0 0, .slice none 0 0, .slice none 0 0, .slice none 0 0] 71, (bif D 14 then Ent.cel b3 #[(.slice po (k) co), (.slice pv (k + 1) cp), v1, .slice none 0 0, .slice none 0 0] 71 else Ent.cel b3 #[(.slice po (k) co), (.slice px k cx), v1, .slice none 0 0, .slice none 0 0] 71), .own (.slice po (k) co) (k) xo 3 1, Ent.own (.slice pv (k + 1) cp) (k + 1) (rng 0 (k + 1)) 3 1, .own v1 (0) (rng s 0) 3 1, .cel b18 #[vI 0, vI (s : Int)] 44] ++ (bif D 10 then [Ent.cel g.1 #[vI (k : Int)] 3] else []))
              simp only [d10, d14, cond_true, cond_false]
              exact hH2
          case o12 =>
            intro g D wz hDi hdep hclo hW
            exact .inl ⟨rfl, rfl, .inl ⟨g, wz, fun _ _ => rfl, by kernel_rfl, hW⟩⟩
          case o13 =>
            intro g D wz hDi hdep hclo hW
            exact .inl ⟨rfl, rfl, .inl ⟨g, wz, fun _ _ => rfl, x_idxArr (0) (1) rfl rfl rfl Try.underlying69 sz68 rfl (by omega) (by omega), hW⟩⟩
          case o14 =>
            intro g D wz hDi hdep hclo hW
            have d11 : D 11 = true := hdep ⟨11, .data⟩ (by simp) rfl
            have d10 : D 10 = true := hdep ⟨10, .phase⟩ (by simp) rfl
            simp only [hDi, d10, d11, cond_true, cond_false] at hW
            have h4 := HP.set (off := 1) (v := (.slice g.2.1 (k + 1) g.2.2)) hW 1 rfl
            refine .inl ⟨rfl, rfl, .inr (.inl ⟨_, x_store rfl rfl rfl sz68 rfl (HP.cell hW 1 rfl rfl) (HP.free hW 1 rfl), rfl, ?_⟩)⟩
            show HP Tr w _ ([.cel b2 #[.slice none 0 0, .slice none 0 0, .slice none 0 0, .slice none 0 0, .slice none 0 0] 71, Ent.cel b3 #[(.slice po (k) co), (.slice g.2.1 (k + 1) g.2.2), v1, .slice none 0 0, .slice none 0 0] 71, .own (.slice po (k) co) (k) xo 3 1, (bif D 11 then Ent.own (.slice g.2.1 (k + 1) g.2.2) (k + 1) (rng 0 (k + 1)) 3 1 else Ent.own (.slice px k cx) (k) (rng 0 k) 3 1), .own v1 (0) (rng s 0) 3 1, .cel b18 #[vI 0, vI (s : Int)] 44] ++ (bif D 10 then [Ent.cel g.1 #[vI (k : Int)] 3] else []))
            simp only [d10, d11, cond_true]
            exact h4
        rintro ⟨nb, pv, cp⟩ D w9 hall hW
        simp only [hall 10 (by kernel_rfl), hall 11 (by kernel_rfl), hall 14 (by kernel_rfl), cond_true] at hW
        clear hall
        refine WQ.sub (l' := [(2, vP b2 0), (3, vP b3 0), (5, vP b18 0), (6, .slice (some ⟨bb, oo, none⟩) 2 2), (7, vI 2), (8, vI 0), (13, vI (s : Int)), (14, vI (k : Int)), (15, .bool true)]) ⟨rfl, rfl, rfl, rfl, rfl, rfl, rfl, rfl, rfl, trivial⟩ ?_
        have hH31 : HP Tr w _ [.cel b2 #[.slice none 0 0, .slice none 0 0, .slice none 0 0, .slice none 0 0, .slice none 0 0] 71, .cel b3 #[(.slice po (k) co), (.slice pv (k + 1) cp), v1, .slice none 0 0, .slice none 0 0] 71, .own (.slice po (k) co) (k) xo 3 1, .own (.slice pv (k + 1) cp) (k + 1) (rng 0 (k + 1)) 3 1, .own v1 (0) (rng s 0) 3 1, .cel b18 #[vI 0, vI (s : Int)] 44, .cel nb #[vI (k : Int)] 3] := hW
        refine WQ.then ?_
        refine hK30 _ _ _ ?_
        refine WC.region ?_
        refine WL.pure (v := vP b3 0) 30 rfl (Nat.le_of_ble_eq_true rfl) rfl rfl (by kernel_rfl) ?_
        refine WL.pure (v := (.slice po (k) co)) 31 rfl (Nat.le_of_ble_eq_true rfl) rfl rfl (x_load rfl rfl Try.underlying68 rfl (HP.cell hH31 1 rfl rfl)) ?_
        refine WL.pure (v := vP b18 0) 32 rfl (Nat.le_of_ble_eq_true rfl) rfl rfl (by kernel_rfl) ?_
        refine WL.pure (v := vI 0) 33 rfl (Nat.le_of_ble_eq_true rfl) rfl rfl (x_load rfl rfl Try.underlying3 rfl (HP.cell hH31 5 rfl rfl)) ?_
        refine WL.alloc (c := #[vI 0]) (T := 3) hH31 34 rfl (by decide) rfl rfl (fun b32 => vS b32 1 1) (by kernel_rfl) (fun b32 w33 hw33 => ?_)
        have hH34 : HP Tr w w33 [.cel b2 #[.slice none 0 0, .slice none 0 0, .slice none 0 0, .slice none 0 0, .slice none 0 0] 71, .cel b3 #[(.slice po (k) co), (.slice pv (k + 1) cp), v1, .slice none 0 0, .slice none 0 0] 71, .own (.slice po (k) co) (k) xo 3 1, .own (.slice pv (k + 1) cp) (k + 1) (rng 0 (k + 1)) 3 1, .own v1 (0) (rng s 0) 3 1, .cel b18 #[vI 0, vI (s : Int)] 44, .cel nb #[vI (k : Int)] 3, .cel b32 #[vI 0] 3] := hw33.2
        have nb32 := hw33.1
        clear hw33
        obtain ⟨i0, hi0, hz0, hz1, hz2⟩ := infoI
        refine WL.append (news := [vI 0]) 2 7 hH34 35 rfl (by decide) rfl rfl rfl rfl Try.underlying68 hi0 hz0 hz1 hz2 rfl (by decide) rfl rfl rfl rfl (by simp [Value.oneCell']) (by unfold maxLen; omega) (by omega) ?_
        rintro v2 w7 - hA7
        obtain ⟨po2, co2, rfl, -⟩ := own_form (HP.get hA7 2 rfl)
        have hH35 : HP Tr w _ [.cel b2 #[.slice none 0 0, .slice none 0 0, .slice none 0 0, .slice none 0 0, .slice none 0 0] 71, .cel b3 #[(.slice po (k) co), (.slice pv (k + 1) cp), v1, .slice none 0 0, .slice none 0 0] 71, .own (.slice po2 (k + 1) co2) (k + 1) ((xo ++ [vI 0])) 3 1, .own (.slice pv (k + 1) cp) (k + 1) (rng 0 (k + 1)) 3 1, .own v1 (0) (rng s 0) 3 1, .cel b18 #[vI 0, vI (s : Int)] 44, .cel nb #[vI (k : Int)] 3, .cel b32 #[vI 0] 3] := hA7
        refine WL.pure (v := vP b3 0) 36 rfl (Nat.le_of_ble_eq_true rfl) rfl rfl (by kernel_rfl) ?_
        refine WL.store (H2 := [.cel b2 #[.slice none 0 0, .slice none 0 0, .slice none 0 0, .slice none 0 0, .slice none 0 0] 71, .cel b3 #[.slice po2 (k + 1) co2, (.slice pv (k + 1) cp), v1, .slice none 0 0, .slice none 0 0] 71, .own (.slice po2 (k + 1) co2) (k + 1) ((xo ++ [vI 0])) 3 1, .own (.slice pv (k + 1) cp) (k + 1) (rng 0 (k + 1)) 3 1, .own v1 (0) (rng s 0) 3 1, .cel b18 #[vI 0, vI (s : Int)] 44, .cel nb #[vI (k : Int)] 3, .cel b32 #[vI 0] 3]) 1 hH35 rfl rfl rfl rfl rfl rfl sz68 rfl (Nat.le_of_ble_eq_true rfl) rfl rfl ?_
        intro w36 hH37
        refine WL.nil ?_
        refine WQ.inNormal ?_
        refine WQ.then ?_
        refine hK29 _ _ _ ?_
        refine WC.sub (l' := [(2, vP b2 0), (3, vP b3 0), (5, vP b18 0), (6, .slice (some ⟨bb, oo, none⟩) 2 2), (7, vI 2), (8, vI 0), (13, vI (s : Int)), (14, vI (k : Int)), (15, .bool true)]) ⟨rfl, rfl, rfl, rfl, rfl, rfl, rfl, rfl, rfl, trivial⟩ ?_
        refine WC.region ?_
        refine WL.pure (v := vI ((k + 1 : Nat) : Int)) 37 rfl (Nat.le_of_ble_eq_true rfl) rfl rfl (x_add (Z := ((k + 1 : Nat) : Int)) rfl rfl rfl (by omega) (by omega) (by omega)) ?_
        refine WL.pure (v := vI ((k + 1 : Nat) : Int)) 14 rfl (Nat.le_of_ble_eq_true rfl) rfl rfl (by kernel_rfl) ?_
        refine WL.nil ?_
        refine WQ.sub (l' := [(2, vP b2 0), (3, vP b3 0), (5, vP b18 0), (6, .slice (some ⟨bb, oo, none⟩) 2 2), (7, vI 2), (8, vI 0), (13, vI (s : Int)), (14, vI ((k + 1 : Nat) : Int))]) ⟨rfl, rfl, rfl, rfl, rfl, rfl, rfl, rfl, trivial⟩ ?_
        refine WQ.then (hK24 _ _ _ (by omega) ⟨k + 1, (.slice po2 (k + 1) co2), (.slice pv (k + 1) cp), (xo ++ [vI 0]), rfl, rfl, by omega, (HP.drop (HP.drop hH37 7) 6)⟩)
      ·
        refine WL.pure (v := .bool false) 15 rfl (Nat.le_of_ble_eq_true rfl) rfl rfl (x_lss rfl rfl rfl (dF (hkl))) ?_
        refine WL.nil ?_
        refine WQ.then ?_
        refine hK27 _ _ _ ?_
        refine WC.seq fun K38 hK38 => ?_
        refine WC.no rfl ?_
        refine WC.exit ?_
        refine WQ.thenExit ?_
        refine WQ.thenExit ?_
        refine WQ.inExit ?_
        refine WQ.inNormal ?_
        refine WQ.then ?_
        refine hK15 _ _ _ ?_
        refine WC.region ?_
        refine WL.pure (v := vI 1) 38 rfl (Nat.le_of_ble_eq_true rfl) rfl rfl (x_add (Z := 1) rfl rfl rfl (by omega) (by omega) (by omega)) ?_
        refine WL.pure (v := vI 1) 8 rfl (Nat.le_of_ble_eq_true rfl) rfl rfl (by kernel_rfl) ?_
        refine WL.nil ?_
        obtain rfl : s = k := by omega
        refine WQ.sub (l' := [(2, vP b2 0), (3, vP b3 0), (6, .slice (some ⟨bb, oo, none⟩) 2 2), (7, vI 2), (8, vI 1)]) ⟨rfl, rfl, rfl, rfl, rfl, trivial⟩ ?_
        refine WQ.then (hK10 _ _ _ (by omega) ⟨1, s, 0, (.slice po (s) co), (.slice px s cx), v1, xo, rfl, rfl, .inr (.inl ⟨rfl, rfl, rfl⟩), (HP.drop hH26 5)⟩)
    ·
      have hH39 : HP Tr w _ [.cel b2 #[.slice none 0 0, .slice none 0 0, .slice none 0 0, .slice none 0 0, .slice none 0 0] 71, .cel b3 #[vo, v0, v1, .slice none 0 0, .slice none 0 0] 71, .own vo (s) xo 3 1, .own v0 (s) (rng 0 s) 3 1, .own v1 (0) (rng s 0) 3 1] := hH12
      refine WC.region ?_
      refine WL.pure (v := vP bb (oo + 2)) 10 rfl (Nat.le_of_ble_eq_true rfl) rfl rfl (x_idx (1) (oo + 2) rfl rfl rfl Try.underlying45 sz44 (by omega) (by omega) (by omega)) ?_
      refine WL.pure (v := .agg #[vI 1, vI (t : Int)]) 11 rfl (Nat.le_of_ble_eq_true rfl) rfl rfl (x_loadS (cs := [vI 1, vI (t : Int)]) rfl rfl Try.underlying44 rfl sz44 (HP.oldRange hH39 trivial (hr 1 (by omega)))) ?_
      refine WL.alloc (c := #[vI 0, vI 0]) (T := 44) hH39 5 rfl (by decide) rfl rfl (fun b40 => vP b40 0) (by kernel_rfl) (fun b40 w41 hw41 => ?_)
      have hH42 : HP Tr w w41 [.cel b2 #[.slice none 0 0, .slice none 0 0, .slice none 0 0, .slice none 0 0, .slice none 0 0] 71, .cel b3 #[vo, v0, v1, .slice none 0 0, .slice none 0 0] 71, .own vo (s) xo 3 1, .own v0 (s) (rng 0 s) 3 1, .own v1 (0) (rng s 0) 3 1, .cel b40 #[vI 0, vI 0] 44] := hw41.2
      have nb40 := hw41.1
      clear hw41
      refine WL.storeS (H2 := [.cel b2 #[.slice none 0 0, .slice none 0 0, .slice none 0 0, .slice none 0 0, .slice none 0 0] 71, .cel b3 #[vo, v0, v1, .slice none 0 0, .slice none 0 0] 71, .own vo (s) xo 3 1, .own v0 (s) (rng 0 s) 3 1, .own v1 (0) (rng s 0) 3 1, .cel b40 #[vI 1, vI (t : Int)] 44]) 5 hH42 rfl rfl rfl rfl rfl rfl sz44 rfl (Nat.le_of_ble_eq_true rfl) rfl rfl ?_
      intro w43 hH44
      refine WL.nil ?_
      refine WQ.then ?_
      refine hK16 _ _ _ ?_
      refine WC.seq fun K45 hK45 => ?_
      refine WC.region ?_
      refine WL.pure (v := vP b40 1) 12 rfl (Nat.le_of_ble_eq_true rfl) rfl rfl (by kernel_rfl) ?_
      refine WL.pure (v := vI (t : Int)) 13 rfl (Nat.le_of_ble_eq_true rfl) rfl rfl (x_load rfl rfl Try.underlying3 rfl (HP.cell hH44 5 rfl rfl)) ?_
      refine WL.pure (v := vI 0) 14 rfl (Nat.le_of_ble_eq_true rfl) rfl rfl (by kernel_rfl) ?_
      refine WL.nil ?_
      refine WQ.then ?_
      refine hK45 _ _ _ ?_
      refine WC.block ?_
      refine WC.loop (fun kk0 ll0 ww0 => ∃ (k : Nat) (vo : Value) (x : Value) (xo : List Value), ll0 = [(2, vP b2 0), (3, vP b3 0), (5, vP b40 0), (6, .slice (some ⟨bb, oo, none⟩) 2 2), (7, vI 2), (8, vI 1), (13, vI (t : Int)), (14, vI (k : Int))] ∧ kk0 = t - k ∧ (k ≤ t) ∧ HP Tr w ww0 [.cel b2 #[.slice none 0 0, .slice none 0 0, .slice none 0 0, .slice none 0 0, .slice none 0 0] 71, .cel b3 #[vo, v0, x, .slice none 0 0, .slice none 0 0] 71, .own vo (s + k) xo 3 1, .own v0 (s) (rng 0 s) 3 1, .own x (k) (rng s k) 3 1, .cel b40 #[vI 1, vI (t : Int)] 44]) (t) [(2, vP b2 0), (3, vP b3 0), (5, vP b40 0), (6, .slice (some ⟨bb, oo, none⟩) 2 2), (7, vI 2), (8, vI 1), (13, vI (t : Int)), (14, vI 0)] ⟨rfl, rfl, rfl, rfl, rfl, rfl, rfl, rfl, trivial⟩ ⟨0, vo, v1, xo, rfl, rfl, Nat.zero_le _, hH44⟩ ?_
      rintro kk l w47 ⟨k, vo, x, xo, rfl, hkk, hk, hH48⟩ K46 hK46
      obtain ⟨po, co, rfl, hco1, hco2, -⟩ := own_form (HP.get hH48 2 rfl)
      obtain ⟨px, cx, rfl, hcx1, hcx2, -⟩ := own_form (HP.get hH48 4 rfl)
      refine WC.seq fun K49 hK49 => ?_
      refine WC.region ?_
      by_cases hkl : (k : Int) < (t : Int)
      ·
        refine WL.pure (v := .bool true) 15 rfl (Nat.le_of_ble_eq_true rfl) rfl rfl (x_lss rfl rfl rfl (dT (hkl))) ?_
        refine WL.nil ?_
        refine WQ.then ?_
        refine hK49 _ _ _ ?_
        refine WC.seq fun K50 hK50 => ?_
        refine WC.yes rfl ?_
        refine WC.skip ?_
        refine WQ.then ?_
        refine hK50 _ _ _ ?_
        refine WC.seq fun K51 hK51 => ?_
        refine WC.block ?_
        refine WC.seq fun K52 hK52 => ?_
        refine WC.confG (γ := Nat × (Option Addr × Nat)) [(2, vP b2 0), (3, vP b3 0), (5, vP b40 0), (6, .slice (some ⟨bb, oo, none⟩) 2 2), (7, vI 2), (8, vI 1), (13, vI (t : Int)), (14, vI (k : Int)), (15, .bool true)] (fun g => [vP b40 0, vI 1, vP b40 0, vI 1, vP b3 1, vP b3 2, (.slice px k cx), vP b3 0, (.slice po (s + k) co), vI ((s + k : Nat) : Int), vS g.1 1 1, (.slice g.2.1 (k + 1) g.2.2), vP b3 1, vP b3 2, undef]) (fun g D wz => HP Tr w wz ([.cel b2 #[.slice none 0 0, .slice none 0 0, .slice none 0 0, .slice none 0 0, .slice none 0 0] 71, (bif D 14 then Ent.cel b3 #[(.slice po (s + k) co), v0, (.slice g.2.1 (k + 1) g.2.2), .slice none 0 0, .slice none 0 0] 71 else Ent.cel b3 #[(.slice po (s + k) co), v0, (.slice px k cx), .slice none 0 0, .slice none 0 0] 71), .own (.slice po (s + k) co) (s + k) xo 3 1, .own v0 (s) (rng 0 s) 3 1, (bif D 11 then Ent.own (.slice g.2.1 (k + 1) g.2.2) (k + 1) (rng s (k + 1)) 3 1 else Ent.own (.slice px k cx) (k) (rng s k) 3 1), .cel b40 #[vI 1, vI (t : Int)] 44] ++ (bif D 10 then [Ent.cel g.1 #[vI ((s + k : Nat) : Int)] 3] else []))) (0, none, 0) (by kernel_rfl) ⟨rfl, rfl, rfl, rfl, rfl, rfl, rfl, rfl, rfl, trivial⟩ (by kernel_rfl) (by kernel_rfl) (by kernel_rfl) (fun _ => rfl) (by kernel_rfl) (HP.drew hH48) ?_ ?_
        · refine AllOk.cons ?o0 (AllOk.cons ?o1 (AllOk.cons ?o2 (AllOk.cons ?o3 (AllOk.cons ?o4 (AllOk.cons ?o5 (AllOk.cons ?o6 (AllOk.cons ?o7 (AllOk.cons ?o8 (AllOk.cons ?o9 (AllOk.cons ?o10 (AllOk.cons ?o11 (AllOk.cons ?o12 (AllOk.cons ?o13 (AllOk.cons ?o14 (AllOk.nil _)))))))))))))))
          case o0 =>
            intro g D wz hDi hdep hclo hW
            exact .inl ⟨rfl, rfl, .inl ⟨g, wz, fun _ _ => rfl, by kernel_rfl, hW⟩⟩
          case o1 =>
            intro g D wz hDi hdep hclo hW
            exact .inl ⟨rfl, rfl, .inl ⟨g, wz, fun _ _ => rfl, x_load rfl rfl Try.underlying3 rfl (HP.cell hW 5 rfl rfl), hW⟩⟩
          case o2 =>
            intro g D wz hDi hdep hclo hW
            exact .inl ⟨rfl, rfl, .inl ⟨g, wz, fun _ _ => rfl, by kernel_rfl, hW⟩⟩
          case o3 =>
            intro g D wz hDi hdep hclo hW
            exact .inl ⟨rfl, rfl, .inl ⟨g, wz, fun _ _ => rfl, x_load rfl rfl Try.underlying3 rfl (HP.cell hW 5 rfl rfl), hW⟩⟩
          case o4 =>
            intro g D wz hDi hdep hclo hW
            exact .inl ⟨rfl, rfl, .inl ⟨g, wz, fun _ _ => rfl, by kernel_rfl, hW⟩⟩
          case o5 =>
            intro g D wz hDi hdep hclo hW
            exact .inl ⟨rfl, rfl, .inl ⟨g, wz, fun _ _ => rfl, x_idxArr (1) (2) rfl rfl rfl Try.underlying69 sz68 rfl (by omega) (by omega), hW⟩⟩
          case o6 =>
            intro g D wz hDi hdep hclo hW
            have d14 : D 14 = false := by
              cases h : D 14 with
              | false => rfl
              | true => exact absurd (hclo 14 _ rfl h ⟨6, .phase⟩ (by simp) rfl) (by rw [hDi]; exact Bool.false_ne_true)
            have hW2 := hW
            simp only [d14, cond_false] at hW2
            exact .inl ⟨rfl, rfl, .inl ⟨g, wz, fun _ _ => rfl, x_load rfl rfl Try.underlying68 rfl (HP.cell hW2 1 rfl rfl), hW⟩⟩
          case o7 =>
            intro g D wz hDi hdep hclo hW
            exact .inl ⟨rfl, rfl, .inl ⟨g, wz, fun _ _ => rfl, by kernel_rfl, hW⟩⟩
          case o8 =>
            intro g D wz hDi hdep hclo hW
            have d14 : D 14 = false := by
              cases h : D 14 with
              | false => rfl
              | true => exact absurd (hclo 14 _ rfl h ⟨8, .phase⟩ (by simp) rfl) (by rw [hDi]; exact Bool.false_ne_true)
            have hW2 := hW
            simp only [d14, cond_false] at hW2
            exact .inl ⟨rfl, rfl, .inl ⟨g, wz, fun _ _ => rfl, x_load rfl rfl Try.underlying68 rfl (HP.cell hW2 1 rfl rfl), hW⟩⟩
          case o9 =>
            intro g D wz hDi hdep hclo hW
            exact .inl ⟨rfl, rfl, .inl ⟨g, wz, fun _ _ => rfl, by kernel_rfl, hW⟩⟩
          case o10 =>
            intro g D wz hDi hdep hclo hW
            have d11 : D 11 = false := by
              cases h : D 11 with
              | false => rfl
              | true => exact absurd (hclo 11 _ rfl h ⟨10, .data⟩ (by simp) rfl) (by rw [hDi]; exact Bool.false_ne_true)
            have d14 : D 14 = false := by
              cases h : D 14 with
              | false => rfl
              | true => exact absurd (hclo 14 _ rfl h ⟨10, .phase⟩ (by simp) rfl) (by rw [hDi]; exact Bool.false_ne_true)
            simp only [hDi, d11, d14, cond_false] at hW
            refine .inl ⟨rfl, rfl, .inl ⟨(wz.heap.size, g.2), wz.alloc (.cells #[vI ((s + k : Nat) : Int)] 3), fun j hj => ?_, by kernel_rfl, ?_⟩⟩
            · match j, hj with
              | 0, hj => rfl
              | 1, hj => rfl
              | 2, hj => rfl
              | 3, hj => rfl
              | 4, hj => rfl
              | 5, hj => rfl
              | 6, hj => rfl
              | 7, hj => rfl
              | 8, hj => rfl
              | 9, hj => rfl
              | 10, hj => rw [hDi] at hj; cases hj
              | 11, hj => rfl
              | 12, hj => rfl
              | 13, hj => rfl
              | 14, hj => rfl
              | j + 15, _ => rfl
            · have h4 := HP.alloc hW #[vI ((s + k : Nat) : Int)] 3
              show HP Tr w _ ([.cel b2 #[.slice none 0 0, .slice none 0 0, .slice none 0 0, .slice none 0 0, .slice none 0 0] 71, (bif D 14 then Ent.cel b3 #[(.slice po (s + k) co), v0, (.slice g.2.1 (k + 1) g.2.2), .slice none 0 0, .slice none 0 0] 71 else Ent.cel b3 #[(.slice po (s + k) co), v0, (.slice px k cx), .slice none 0 0, .slice none 0 0] 71), .own (.slice po (s + k) co) (s + k) xo 3 1, .own v0 (s) (rng 0 s) 3 1, (bif D 11 then Ent.own (.slice g.2.1 (k + 1) g.2.2) (k + 1) (rng s (k + 1)) 3 1 else Ent.own (.slice px k cx) (k) (rng s k) 3 1), .cel b40 #[vI 1, vI (t : Int)] 44] ++ [Ent.cel wz.heap.size #[vI ((s + k : Nat) : Int)] 3])
              simp only [d11, d14, cond_false]
              simpa using h4
          case o11 =>
            intro g D wz hDi hdep hclo hW
            have d10 : D 10 = true := hdep ⟨10, .data⟩ (by simp) rfl
            have d14 : D 14 = false := by
              cases h : D 14 with
              | false => rfl
              | true => exact absurd (hclo 14 _ rfl h ⟨11, .data⟩ (by simp) rfl) (by rw [hDi]; exact Bool.false_ne_true)
            simp only [hDi, d10, d14, cond_true, cond_false] at hW
            obtain ⟨pv, cp, w2, hr2, hH2⟩ := app1 hW 4 6 68 rfl rfl (by omega)
            rw [show (rng s k ++ [vI ((s + k : Nat) : Int)]) = rng s (k + 1) from rng_push s k] at hH2
            refine .inl ⟨rfl, rfl, .inl ⟨(g.1, pv, cp), w2, fun j hj => ?_, x_append rfl rfl rfl hr2, ?_⟩⟩
            · match j, hj with
              | 0, hj => rfl
              | 1, hj => rfl
              | 2, hj => rfl
              | 3, hj => rfl
              | 4, hj => rfl
              | 5, hj => rfl
              | 6, hj => rfl
              | 7, hj => rfl
              | 8, hj => rfl
              | 9, hj => rfl
              | 10, hj => rfl
              | 11, hj => rw [hDi] at hj; cases hj
              | 12, hj => rfl
              | 13, hj => rfl
              | 14, hj => rfl
              | j + 15, _ => rfl
            · show HP Tr w _ ([.cel b2 #[.slice none 0 0, .slice none 0 0, .slice none 0 0, .slice none 0 0, .slice none 0 0] 71, (bif D 14 then Ent.cel b3 #[(.slice po (s + k) co), v0, (.slice pv (k + 1) cp), .slice none 0 0, .slice none 0 0] 71 else Ent.cel b3 #[(.slice po (s + k) co), v0, (.slice px k cx), .slice none 0 0, .slice none 0 0] 71), .own (.slice po (s + k) co) (s + k) xo 3 1, .own v0 (s) (rng 0 s) 3 1, Ent.own (.slice pv (k + 1) cp) (k + 1) (rng s (k + 1)) 3 1, .cel b40 #[vI 1, vI (t : Int)] 44] ++ (bif D 10 then [Ent.cel g.1 #[vI ((s + k : Nat) : Int)] 3] else []))
              simp only [d10, d14, cond_true, cond_false]
              exact hH2
          case o12 =>
            intro g D wz hDi hdep hclo hW
            exact .inl ⟨rfl, rfl, .inl ⟨g, wz, fun _ _ => rfl, by kernel_rfl, hW⟩⟩
          case o13 =>
            intro g D wz hDi hdep hclo hW
            exact .inl ⟨rfl, rfl, .inl ⟨g, wz, fun _ _ => rfl, x_idxArr (1) (2) rfl rfl rfl Try.underlying69 sz68 rfl (by omega) (by omega), hW⟩⟩
          case o14 =>
            intro g D wz hDi hdep hclo hW
            have d11 : D 11 = true := hdep ⟨11, .data⟩ (by simp) rfl
            have d10 : D 10 = true := hdep ⟨10, .phase⟩ (by simp) rfl
            simp only [hDi, d10, d11, cond_true, cond_false] at hW
            have h4 := HP.set (off := 2) (v := (.slice g.2.1 (k + 1) g.2.2)) hW 1 rfl
            refine .inl ⟨rfl, rfl, .inr (.inl ⟨_, x_store rfl rfl rfl sz68 rfl (HP.cell hW 1 rfl rfl) (HP.free hW 1 rfl), rfl, ?_⟩)⟩
            show HP Tr w _ ([.cel b2 #[.slice none 0 0, .slice none 0 0, .slice none 0 0, .slice none 0 0, .slice none 0 0] 71, Ent.cel b3 #[(.slice po (s + k) co), v0, (.slice g.2.1 (k + 1) g.2.2), .slice none 0 0, .slice none 0 0] 71, .own (.slice po (s + k) co) (s + k) xo 3 1, .own v0 (s) (rng 0 s) 3 1, (bif D 11 then Ent.own (.slice g.2.1 (k + 1) g.2.2) (k + 1) (rng s (k + 1)) 3 1 else Ent.own (.slice px k cx) (k) (rng s k) 3 1), .cel b40 #[vI 1, vI (t : Int)] 44] ++ (bif D 10 then [Ent.cel g.1 #[vI ((s + k : Nat) : Int)] 3] else []))
            simp only [d10, d11, cond_true]
            exact h4
        rintro ⟨nb, pv, cp⟩ D w9 hall hW
        simp only [hall 10 (by kernel_rfl), hall 11 (by kernel_rfl), hall 14 (by kernel_rfl), cond_true] at hW
        clear hall
        refine WQ.sub (l' := [(2, vP b2 0), (3, vP b3 0), (5, vP b40 0), (6, .slice (some ⟨bb, oo, none⟩) 2 2), (7, vI 2), (8, vI 1), (13, vI (t : Int)), (14, vI (k : Int)), (15, .bool true)]) ⟨rfl, rfl, rfl, rfl, rfl, rfl, rfl, rfl, rfl, trivial⟩ ?_
        have hH53 : HP Tr w _ [.cel b2 #[.slice none 0 0, .slice none 0 0, .slice none 0 0, .slice none 0 0, .slice none 0 0] 71, .cel b3 #[(.slice po (s + k) co), v0, (.slice pv (k + 1) cp), .slice none 0 0, .slice none 0 0] 71, .own (.slice po (s + k) co) (s + k) xo 3 1, .own v0 (s) (rng 0 s) 3 1, .own (.slice pv (k + 1) cp) (k + 1) (rng s (k + 1)) 3 1, .cel b40 #[vI 1, vI (t : Int)] 44, .cel nb #[vI ((s + k : Nat) : Int)] 3] := hW
        refine WQ.then ?_
        refine hK52 _ _ _ ?_
        refine WC.region ?_
        refine WL.pure (v := vP b3 0) 30 rfl (Nat.le_of_ble_eq_true rfl) rfl rfl (by kernel_rfl) ?_
        refine WL.pure (v := (.slice po (s + k) co)) 31 rfl (Nat.le_of_ble_eq_true rfl) rfl rfl (x_load rfl rfl Try.underlying68 rfl (HP.cell hH53 1 rfl rfl)) ?_
        refine WL.pure (v := vP b40 0) 32 rfl (Nat.le_of_ble_eq_true rfl) rfl rfl (by kernel_rfl) ?_
        refine WL.pure (v := vI 1) 33 rfl (Nat.le_of_ble_eq_true rfl) rfl rfl (x_load rfl rfl Try.underlying3 rfl (HP.cell hH53 5 rfl rfl)) ?_
        refine WL.alloc (c := #[vI 1]) (T := 3) hH53 34 rfl (by decide) rfl rfl (fun b54 => vS b54 1 1) (by kernel_rfl) (fun b54 w55 hw55 => ?_)
        have hH56 : HP Tr w w55 [.cel b2 #[.slice none 0 0, .slice none 0 0, .slice none 0 0, .slice none 0 0, .slice none 0 0] 71, .cel b3 #[(.slice po (s + k) co), v0, (.slice pv (k + 1) cp), .slice none 0 0, .slice none 0 0] 71, .own (.slice po (s + k) co) (s + k) xo 3 1, .own v0 (s) (rng 0 s) 3 1, .own (.slice pv (k + 1) cp) (k + 1) (rng s (k + 1)) 3 1, .cel b40 #[vI 1, vI (t : Int)] 44, .cel nb #[vI ((s + k : Nat) : Int)] 3, .cel b54 #[vI 1] 3] := hw55.2
        have nb54 := hw55.1
        clear hw55
        obtain ⟨i0, hi0, hz0, hz1, hz2⟩ := infoI
        refine WL.append (news := [vI 1]) 2 7 hH56 35 rfl (by decide) rfl rfl rfl rfl Try.underlying68 hi0 hz0 hz1 hz2 rfl (by decide) rfl rfl rfl rfl (by simp [Value.oneCell']) (by unfold maxLen; omega) (by omega) ?_
        rintro v2 w7 - hA7
        obtain ⟨po2, co2, rfl, -⟩ := own_form (HP.get hA7 2 rfl)
        have hH57 : HP Tr w _ [.cel b2 #[.slice none 0 0, .slice none 0 0, .slice none 0 0, .slice none 0 0, .slice none 0 0] 71, .cel b3 #[(.slice po (s + k) co), v0, (.slice pv (k + 1) cp), .slice none 0 0, .slice none 0 0] 71, .own (.slice po2 (s + k + 1) co2) (s + k + 1) ((xo ++ [vI 1])) 3 1, .own v0 (s) (rng 0 s) 3 1, .own (.slice pv (k + 1) cp) (k + 1) (rng s (k + 1)) 3 1, .cel b40 #[vI 1, vI (t : Int)] 44, .cel nb #[vI ((s + k : Nat) : Int)] 3, .cel b54 #[vI 1] 3] := hA7
        refine WL.pure (v := vP b3 0) 36 rfl (Nat.le_of_ble_eq_true rfl) rfl rfl (by kernel_rfl) ?_
        refine WL.store (H2 := [.cel b2 #[.slice none 0 0, .slice none 0 0, .slice none 0 0, .slice none 0 0, .slice none 0 0] 71, .cel b3 #[.slice po2 (s + k + 1) co2, v0, (.slice pv (k + 1) cp), .slice none 0 0, .slice none 0 0] 71, .own (.slice po2 (s + k + 1) co2) (s + k + 1) ((xo ++ [vI 1])) 3 1, .own v0 (s) (rng 0 s) 3 1, .own (.slice pv (k + 1) cp) (k + 1) (rng s (k + 1)) 3 1, .cel b40 #[vI 1, vI (t : Int)] 44, .cel nb #[vI ((s + k : Nat) : Int)] 3, .cel b54 #[vI 1] 3]) 1 hH57 rfl rfl rfl rfl rfl rfl sz68 rfl (Nat.le_of_ble_eq_true rfl) rfl rfl ?_
        intro w58 hH59
        refine WL.nil ?_
        refine WQ.inNormal ?_
        refine WQ.then ?_
        refine hK51 _ _ _ ?_
        refine WC.sub (l' := [(2, vP b2 0), (3, vP b3 0), (5, vP b40 0), (6, .slice (some ⟨bb, oo, none⟩) 2 2), (7, vI 2), (8, vI 1), (13, vI (t : Int)), (14, vI (k : Int)), (15, .bool true)]) ⟨rfl, rfl, rfl, rfl, rfl, rfl, rfl, rfl, rfl, trivial⟩ ?_
        refine WC.region ?_
        refine WL.pure (v := vI ((k + 1 : Nat) : Int)) 37 rfl (Nat.le_of_ble_eq_true rfl) rfl rfl (x_add (Z := ((k + 1 : Nat) : Int)) rfl rfl rfl (by omega) (by omega) (by omega)) ?_
        refine WL.pure (v := vI ((k + 1 : Nat) : Int)) 14 rfl (Nat.le_of_ble_eq_true rfl) rfl rfl (by kernel_rfl) ?_
        refine WL.nil ?_
        refine WQ.sub (l' := [(2, vP b2 0), (3, vP b3 0), (5, vP b40 0), (6, .slice (some ⟨bb, oo, none⟩) 2 2), (7, vI 2), (8, vI 1), (13, vI (t : Int)), (14, vI ((k + 1 : Nat) : Int))]) ⟨rfl, rfl, rfl, rfl, rfl, rfl, rfl, rfl, trivial⟩ ?_
        refine WQ.then (hK46 _ _ _ (by omega) ⟨k + 1, (.slice po2 (s + k + 1) co2), (.slice pv (k + 1) cp), (xo ++ [vI 1]), rfl, rfl, by omega, (HP.drop (HP.drop hH59 7) 6)⟩)
      ·
        refine WL.pure (v := .bool false) 15 rfl (Nat.le_of_ble_eq_true rfl) rfl rfl (x_lss rfl rfl rfl (dF (hkl))) ?_
        refine WL.nil ?_
        refine WQ.then ?_
        refine hK49 _ _ _ ?_
        refine WC.seq fun K60 hK60 => ?_
        refine WC.no rfl ?_
        refine WC.exit ?_
        refine WQ.thenExit ?_
        refine WQ.thenExit ?_
        refine WQ.inExit ?_
        refine WQ.inNormal ?_
        refine WQ.then ?_
        refine hK15 _ _ _ ?_
        refine WC.region ?_
        refine WL.pure (v := vI 2) 38 rfl (Nat.le_of_ble_eq_true rfl) rfl rfl (x_add (Z := 2) rfl rfl rfl (by omega) (by omega) (by omega)) ?_
        refine WL.pure (v := vI 2) 8 rfl (Nat.le_of_ble_eq_true rfl) rfl rfl (by kernel_rfl) ?_
        refine WL.nil ?_
        obtain rfl : t = k := by omega
        refine WQ.sub (l' := [(2, vP b2 0), (3, vP b3 0), (6, .slice (some ⟨bb, oo, none⟩) 2 2), (7, vI 2), (8, vI 2)]) ⟨rfl, rfl, rfl, rfl, rfl, trivial⟩ ?_
        refine WQ.then (hK10 _ _ _ (by omega) ⟨2, s, t, (.slice po (s + t) co), v0, (.slice px t cx), xo, rfl, rfl, .inr (.inr ⟨rfl, rfl, rfl⟩), (HP.drop hH48 5)⟩)
    · exact absurd hlt (by omega)
  ·
    refine WL.pure (v := .bool false) 9 rfl (Nat.le_of_ble_eq_true rfl) rfl rfl (x_lss rfl rfl rfl (dF (hlt))) ?_
    refine WL.nil ?_
    refine WQ.then ?_
    refine hK13 _ _ _ ?_
    refine WC.seq fun K61 hK61 => ?_
    refine WC.no rfl ?_
    refine WC.exit ?_
    refine WQ.thenExit ?_
    refine WQ.thenExit ?_
    refine WQ.inExit ?_
    refine WQ.then ?_
    refine hK8 _ _ _ ?_
    refine WC.seq fun K62 hK62 => ?_
    obtain ⟨rfl, rfl, rfl⟩ : i = 2 ∧ s = a ∧ t = b := by omega
    obtain ⟨po, co, rfl, -⟩ := own_form (HP.get hH12 2 rfl)
    obtain ⟨p0, c0, rfl, -, -, h0⟩ := own_form (HP.get hH12 3 rfl)
    obtain ⟨p1, c1, rfl, -, -, h1⟩ := own_form (HP.get hH12 4 rfl)
    obtain ⟨g0, rfl⟩ := h0 (by omega)
    obtain ⟨g1, rfl⟩ := h1 (by omega)
    have hH63 : HP Tr w _ [.cel b2 #[.slice none 0 0, .slice none 0 0, .slice none 0 0, .slice none 0 0, .slice none 0 0] 71, .cel b3 #[(.slice po (s + t) co), (vS g0 s c0), (vS g1 t c1), .slice none 0 0, .slice none 0 0] 71, .own (.slice po (s + t) co) (s + t) xo 3 1, .own (vS g0 s c0) (s) (rng 0 s) 3 1, .own (vS g1 t c1) (t) (rng s t) 3 1] := hH12
    refine WC.region ?_
    refine WL.pure (v := .agg #[(.slice po (s + t) co), (vS g0 s c0), (vS g1 t c1), .slice none 0 0, .slice none 0 0]) 39 rfl (Nat.le_of_ble_eq_true rfl) rfl rfl (x_loadS (cs := [(.slice po (s + t) co), (vS g0 s c0), (vS g1 t c1), .slice none 0 0, .slice none 0 0]) rfl rfl Try.underlying71 rfl sz71 (HP.range hH63 1 rfl rfl)) ?_
    refine WL.storeS (H2 := [.cel b2 #[(.slice po (s + t) co), (vS g0 s c0), (vS g1 t c1), .slice none 0 0, .slice none 0 0] 71, .cel b3 #[(.slice po (s + t) co), (vS g0 s c0), (vS g1 t c1), .slice none 0 0, .slice none 0 0] 71, .own (.slice po (s + t) co) (s + t) xo 3 1, .own (vS g0 s c0) (s) (rng 0 s) 3 1, .own (vS g1 t c1) (t) (rng s t) 3 1]) 0 hH63 rfl rfl rfl rfl rfl rfl sz71 rfl (Nat.le_of_ble_eq_true rfl) rfl rfl ?_
    intro w64 hH65
    refine WL.nil ?_
    refine WQ.then ?_
    refine hK62 _ _ _ ?_
    refine WC.ret ?_
    refine WQ.retC 2 71 rfl rfl (HP.loadRow hH65 0 rfl Try.underlying71 rfl sz71) ?_
    exact ⟨po, co, g0, c0, g1, c1, xo, rfl, HP.drop (HP.drop hH65 1) 0⟩
end Bu
end Go.Proofs.Ythiogahpoebamaa
