/- The program's sort: comparing by moments, insertion, exchanging and rotating parts of a row. -/
import Derived.Test.YteckbfebemofmaaBH
set_option linter.unusedVariables false
set_option linter.unusedSimpArgs false
namespace Go.Proofs.Yteckbfebemofmaa
open Go.RowKit Fw
namespace Bs
abbrev Ng (g : Nat) : Nat → Prop := fun b => b ≠ g
theorem ng_out {g k : Nat} {A : Array Value} {T : TypeId} (h : k ≠ g) : Out [.cel g A T] k := fun e he q => by
  rw [List.mem_singleton.1 he] at q
  exact h (Option.some.inj q).symm
theorem out_ng {g k : Nat} {A : Array Value} {T : TypeId} (h : Out [.cel g A T] k) : k ≠ g := fun q => h _ (List.mem_singleton.2 rfl) (congrArg some q.symm)
theorem ngB {g : Nat} {A : Array Value} {T : TypeId} {w : World} (h : OwnB w [.cel g A T]) : HP (Ng g) w w [.cel g A T] := (HP.startB h).weaken fun k hk => ng_out hk
theorem seqN {g : Nat} {A A' : Array Value} {T : TypeId} {w0 w w' : World} (h : HP (Ng g) w0 w [.cel g A T]) (h2 : HP (Ng g) w w' [.cel g A' T]) : HP (Ng g) w0 w' [.cel g A' T] := HP.exch (A := []) h (h2.weaken fun k hk => out_ng hk)
theorem transN {S : Nat → Prop} {w0 w w' : World} (h : HP S w0 w []) (h2 : HP S w w' []) : HP S w0 w' [] :=
  ⟨h2.os.trans h.os, h2.tape.trans h.tape, h2.output.trans h.output, Nat.le_trans h.size h2.size, fun k hk hs => (h2.keep k (Nat.lt_of_lt_of_le hk h.size) hs).trans (h.keep k hk hs), fun e he => absurd he List.not_mem_nil, fun e he => absurd he List.not_mem_nil, List.Pairwise.nil⟩
/-- what the comparison does, wherever the row alone was changed -/
def KC (g b3 nq : Nat) (κ : Int → Int) (w : World) : Prop := ∀ w', HP (Ng g) w w' [] → ∀ i j : Int, 0 ≤ i ∧ i < (nq : Int) → 0 ≤ j ∧ j < (nq : Int) → Calls Try.prog 33 #[vI i, vI j, vP b3 0] w' fun e w2 => e = .returned (.int .i64 (cmpI (κ i) (κ j))) ∧ Below w'.heap.size w' w2
theorem KC.step {g b3 nq : Nat} {κ : Int → Int} {w w' : World} {H : List Ent} (h : KC g b3 nq κ w) (hp : HP (Ng g) w w' H) : KC g b3 nq κ w' := fun w2 h2 => h w2 (transN (hp.sub (List.nil_sublist _)) h2)
theorem Compare_at (a b : Int) (w : World) : Calls Try.prog 34 #[vI a, vI b] w fun e w' => e = .returned (.int .i64 (cmpI a b)) ∧ Below w.heap.size w w' := (Compare_any a b w).mono fun e w' h => ⟨h.1, h.2 ▸ (HP.refl w).below⟩
set_option maxRecDepth 20000 in
set_option maxHeartbeats 4000000 in
theorem key_any (b3 cq : Nat) (pq : Option Addr) (q : List Rq) (i j : Nat) (w : World) (hbx : ∀ i9, i9 < 1 → World.rangeAt w b3 0 [.slice pq q.length cq]) (hI : InQ w pq q) (hi : i < q.length) (hj : j < q.length) (hq : q.length ≤ 1000) :
    Calls Try.prog 33 #[vI (i : Int), vI (j : Int), vP b3 0] w fun e w' => e = .returned (.int .i64 (cmpI (qT q i) (qT q j))) ∧ Below w.heap.size w w' := by
  refine calls_of Try.func33 rfl (m := 17) rfl [(0, vI (i : Int)), (1, vI (j : Int)), (2, vP b3 0)] (Fr_enter [vI (i : Int), vI (j : Int), vP b3 0] 17 (Nat.le_of_ble_eq_true rfl)) ?_
  have hH1 : HP Tr w w [] := HP.refl w
  refine WC.seq fun K2 hK2 => ?_
  refine WC.region ?_
  refine WL.pure (v := vI 0) 5 rfl (Nat.le_of_ble_eq_true rfl) rfl rfl (by kernel_rfl) ?_
  refine WL.nil ?_
  refine WQ.then ?_
  refine hK2 _ _ _ ?_
  refine WC.seq fun K3 hK3 => ?_
  obtain ⟨gq, oq, rfl, hrow⟩ := hI (by omega)
  refine WC.confG (γ := Unit) [(0, vI (i : Int)), (1, vI (j : Int)), (2, vP b3 0)] (fun gy => [.slice (some ⟨gq, oq, none⟩) q.length cq, vI (i : Int), vP gq (oq + i * 3), vP gq (oq + i * 3 + 1), vI (qT q i), .slice (some ⟨gq, oq, none⟩) q.length cq, vI (j : Int), vP gq (oq + j * 3), vP gq (oq + j * 3 + 1), vI (qT q j), vI (cmpI (qT q i) (qT q j)), vI (cmpI (qT q i) (qT q j))]) (fun gy D wz => HP Tr w wz []) () (by kernel_rfl) ⟨rfl, rfl, rfl, trivial⟩ (by kernel_rfl) (by kernel_rfl) (by kernel_rfl) (fun _ => rfl) (by kernel_rfl) (HP.drew hH1) ?_ ?_
  · refine AllOk.cons ?o0 (AllOk.cons ?o1 (AllOk.cons ?o2 (AllOk.cons ?o3 (AllOk.cons ?o4 (AllOk.cons ?o5 (AllOk.cons ?o6 (AllOk.cons ?o7 (AllOk.cons ?o8 (AllOk.cons ?o9 (AllOk.cons ?o10 (AllOk.cons ?o11 (AllOk.nil _))))))))))))
    case o0 =>
      intro gy D wz hDi hdep hclo hW
      exact .inl ⟨rfl, rfl, .inl ⟨gy, wz, fun _ _ => rfl, x_load rfl rfl Try.underlying24 rfl ((HP.oldRange hW trivial (hbx 0 (by omega))) 0 _ rfl), hW⟩⟩
    case o1 =>
      intro gy D wz hDi hdep hclo hW
      exact .inl ⟨rfl, rfl, .inl ⟨gy, wz, fun _ _ => rfl, by kernel_rfl, hW⟩⟩
    case o2 =>
      intro gy D wz hDi hdep hclo hW
      exact .inl ⟨rfl, rfl, .inl ⟨gy, wz, fun _ _ => rfl, x_idx (i) (oq + i * 3) rfl rfl rfl Try.underlying24 sz30 (by omega) (by omega) (by omega), hW⟩⟩
    case o3 =>
      intro gy D wz hDi hdep hclo hW
      exact .inl ⟨rfl, rfl, .inl ⟨gy, wz, fun _ _ => rfl, by kernel_rfl, hW⟩⟩
    case o4 =>
      intro gy D wz hDi hdep hclo hW
      exact .inl ⟨rfl, rfl, .inl ⟨gy, wz, fun _ _ => rfl, x_load rfl rfl Try.underlying3 rfl ((HP.oldRange hW trivial (hrow i (by omega))) 1 _ rfl), hW⟩⟩
    case o5 =>
      intro gy D wz hDi hdep hclo hW
      exact .inl ⟨rfl, rfl, .inl ⟨gy, wz, fun _ _ => rfl, x_load rfl rfl Try.underlying24 rfl ((HP.oldRange hW trivial (hbx 0 (by omega))) 0 _ rfl), hW⟩⟩
    case o6 =>
      intro gy D wz hDi hdep hclo hW
      exact .inl ⟨rfl, rfl, .inl ⟨gy, wz, fun _ _ => rfl, by kernel_rfl, hW⟩⟩
    case o7 =>
      intro gy D wz hDi hdep hclo hW
      exact .inl ⟨rfl, rfl, .inl ⟨gy, wz, fun _ _ => rfl, x_idx (j) (oq + j * 3) rfl rfl rfl Try.underlying24 sz30 (by omega) (by omega) (by omega), hW⟩⟩
    case o8 =>
      intro gy D wz hDi hdep hclo hW
      exact .inl ⟨rfl, rfl, .inl ⟨gy, wz, fun _ _ => rfl, by kernel_rfl, hW⟩⟩
    case o9 =>
      intro gy D wz hDi hdep hclo hW
      exact .inl ⟨rfl, rfl, .inl ⟨gy, wz, fun _ _ => rfl, x_load rfl rfl Try.underlying3 rfl ((HP.oldRange hW trivial (hrow j (by omega))) 1 _ rfl), hW⟩⟩
    case o10 =>
      intro gy D wz hDi hdep hclo hW
      have hW2 := hW
      exact .inl ⟨rfl, rfl, .inr (.inr ⟨34, #[vI (qT q i), vI (qT q j)], by kernel_rfl, (Compare_at _ _ _).mono fun e w2 h => ⟨gy, fun _ _ => rfl, h.1, HP.call hW h.2⟩⟩)⟩
    case o11 =>
      intro gy D wz hDi hdep hclo hW
      exact .inl ⟨rfl, rfl, .inl ⟨gy, wz, fun _ _ => rfl, by kernel_rfl, hW⟩⟩
  rintro gy D w4 hall hH5
  clear hall
  refine WQ.sub (l' := [(0, vI (i : Int)), (1, vI (j : Int)), (5, vI (cmpI (qT q i) (qT q j)))]) ⟨rfl, rfl, rfl, trivial⟩ ?_
  refine WQ.then ?_
  refine hK3 _ _ _ ?_
  refine WC.ret ?_
  refine WQ.ret1 5 rfl rfl ?_
  exact ⟨rfl, HP.below hH5⟩
set_option maxRecDepth 20000 in
set_option maxHeartbeats 4000000 in
theorem insert_any (g b3 nq N : Nat) (κ : Int → Int) (x : Nat → Int) (a c : Nat) (w : World) (hB : OwnB w [.cel g (irow N x) 3]) (hK : KC g b3 nq κ w) (hN4 : N ≤ 1000) (hx : ∀ i, i < N → 0 ≤ x i ∧ x i < (nq : Int)) (hac : a ≤ c) (hcN : c ≤ N) :
    Calls Try.prog 48 #[vS g N N, vI (a : Int), vI (c : Int), .func (.func 33) #[] #[vP b3 0]] w fun e w' => ∃ y, e = .returned (.tuple #[]) ∧ (Pm a c x y ∧ Sd κ a c y) ∧ HP (Ng g) w w' [.cel g (irow N y) 3] := by
  refine calls_of Try.func48 rfl (m := 53) rfl [(0, vS g N N), (1, vI (a : Int)), (2, vI (c : Int)), (3, .func (.func 33) #[] #[vP b3 0])] (Fr_enter [vS g N N, vI (a : Int), vI (c : Int), .func (.func 33) #[] #[vP b3 0]] 53 (Nat.le_of_ble_eq_true rfl)) ?_
  refine WC.seq fun K1 hK1 => ?_
  refine WC.region ?_
  refine WL.pure (v := vI (a : Int)) 10 rfl (Nat.le_of_ble_eq_true rfl) rfl rfl (by kernel_rfl) ?_
  refine WL.pure (v := vI ((a + 1 : Nat) : Int)) 11 rfl (Nat.le_of_ble_eq_true rfl) rfl rfl (x_add (Z := ((a + 1 : Nat) : Int)) rfl rfl rfl (by omega) (by omega) (by omega)) ?_
  refine WL.pure (v := vI ((a + 1 : Nat) : Int)) 8 rfl (Nat.le_of_ble_eq_true rfl) rfl rfl (by kernel_rfl) ?_
  refine WL.nil ?_
  refine WQ.then ?_
  refine hK1 _ _ _ ?_
  refine WC.block ?_
  refine WC.loop (fun kk0 ll0 ww0 => ∃ (i : Nat) (y : Nat → Int), ll0 = [(0, vS g N N), (1, vI (a : Int)), (2, vI (c : Int)), (3, .func (.func 33) #[] #[vP b3 0]), (8, vI (i : Int))] ∧ kk0 = c - i ∧ (a < i) ∧ (i ≤ c ∨ i = a + 1) ∧ (Pm a c x y) ∧ (Sd κ a i y) ∧ HP (Ng g) w ww0 [.cel g (irow N y) 3]) (c - (a + 1)) [(0, vS g N N), (1, vI (a : Int)), (2, vI (c : Int)), (3, .func (.func 33) #[] #[vP b3 0]), (8, vI ((a + 1 : Nat) : Int))] ⟨rfl, rfl, rfl, rfl, rfl, trivial⟩ ⟨a + 1, x, rfl, rfl, by omega, .inr rfl, Pm.refl _ _ _, Sd.one (by omega), (ngB hB)⟩ ?_
  rintro kk l w3 ⟨i, y, rfl, hkk, hi, hic, hP, hS, hH4⟩ K2 hK2
  refine WC.seq fun K5 hK5 => ?_
  refine WC.seq fun K6 hK6 => ?_
  refine WC.region ?_
  refine WL.pure (v := vI (i : Int)) 12 rfl (Nat.le_of_ble_eq_true rfl) rfl rfl (by kernel_rfl) ?_
  refine WL.pure (v := vI (c : Int)) 13 rfl (Nat.le_of_ble_eq_true rfl) rfl rfl (by kernel_rfl) ?_
  by_cases hlt : (i : Int) < (c : Int)
  ·
    refine WL.pure (v := .bool true) 14 rfl (Nat.le_of_ble_eq_true rfl) rfl rfl (x_lss rfl rfl rfl (dT (hlt))) ?_
    refine WL.nil ?_
    refine WQ.then ?_
    refine hK6 _ _ _ ?_
    refine WC.yes rfl ?_
    refine WC.skip ?_
    refine WQ.then ?_
    refine hK5 _ _ _ ?_
    refine WC.seq fun K7 hK7 => ?_
    refine WC.block ?_
    refine WC.seq fun K8 hK8 => ?_
    refine WC.region ?_
    refine WL.pure (v := vI (i : Int)) 17 rfl (Nat.le_of_ble_eq_true rfl) rfl rfl (by kernel_rfl) ?_
    refine WL.pure (v := vI (i : Int)) 9 rfl (Nat.le_of_ble_eq_true rfl) rfl rfl (by kernel_rfl) ?_
    refine WL.nil ?_
    refine WQ.then ?_
    refine hK8 _ _ _ ?_
    refine WC.block ?_
    refine WC.loop (fun kk0 ll0 ww0 => ∃ (j : Nat) (z : Nat → Int), ll0 = [(0, vS g N N), (1, vI (a : Int)), (2, vI (c : Int)), (3, .func (.func 33) #[] #[vP b3 0]), (8, vI (i : Int)), (9, vI (j : Int))] ∧ kk0 = j ∧ (a ≤ j) ∧ (j ≤ i) ∧ (Pm a c x z) ∧ (Sx κ a i j z) ∧ HP (Ng g) w ww0 [.cel g (irow N z) 3]) (i) [(0, vS g N N), (1, vI (a : Int)), (2, vI (c : Int)), (3, .func (.func 33) #[] #[vP b3 0]), (8, vI (i : Int)), (9, vI (i : Int))] ⟨rfl, rfl, rfl, rfl, rfl, rfl, trivial⟩ ⟨i, y, rfl, rfl, by omega, Nat.le_refl _, hP, Sx.start hS, hH4⟩ ?_
    rintro kk l w10 ⟨j, z, rfl, hkk, haj, hji, hP2, hX, hH11⟩ K9 hK9
    have hz := hP2.bd hcN hx
    refine WC.seq fun K12 hK12 => ?_
    refine WC.seq fun K13 hK13 => ?_
    by_cases hja : a < j
    ·
      by_cases hcm : κ (z j) < κ (z (j - 1))
      ·
        refine WC.confG (γ := Unit) [(0, vS g N N), (1, vI (a : Int)), (2, vI (c : Int)), (3, .func (.func 33) #[] #[vP b3 0]), (8, vI (i : Int)), (9, vI (j : Int))] (fun gy => [vI (j : Int), vI (a : Int), .bool true, .bool true, .func (.func 33) #[] #[vP b3 0], vS g N N, vI (j : Int), vP g j, vI (z j), vS g N N, vI (j : Int), vI ((j - 1 : Nat) : Int), vP g (j - 1), vI (z (j - 1)), vI (cmpI (κ (z j)) (κ (z (j - 1)))), .bool true, .bool true]) (fun gy D wz => HP (Ng g) w wz [.cel g (irow N z) 3]) () (by kernel_rfl) ⟨rfl, rfl, rfl, rfl, rfl, rfl, trivial⟩ (by kernel_rfl) (by kernel_rfl) (by kernel_rfl) (fun _ => rfl) (by kernel_rfl) (HP.drew hH11) ?_ ?_
        · refine AllOk.cons ?o0 (AllOk.cons ?o1 (AllOk.cons ?o2 (AllOk.cons ?o3 (AllOk.cons ?o4 (AllOk.cons ?o5 (AllOk.cons ?o6 (AllOk.cons ?o7 (AllOk.cons ?o8 (AllOk.cons ?o9 (AllOk.cons ?o10 (AllOk.cons ?o11 (AllOk.cons ?o12 (AllOk.cons ?o13 (AllOk.cons ?o14 (AllOk.cons ?o15 (AllOk.cons ?o16 (AllOk.nil _)))))))))))))))))
          case o0 =>
            intro gy D wz hDi hdep hclo hW
            exact .inl ⟨rfl, rfl, .inl ⟨gy, wz, fun _ _ => rfl, by kernel_rfl, hW⟩⟩
          case o1 =>
            intro gy D wz hDi hdep hclo hW
            exact .inl ⟨rfl, rfl, .inl ⟨gy, wz, fun _ _ => rfl, by kernel_rfl, hW⟩⟩
          case o2 =>
            intro gy D wz hDi hdep hclo hW
            exact .inl ⟨rfl, rfl, .inl ⟨gy, wz, fun _ _ => rfl, x_gtr rfl rfl rfl (dT (by omega)), hW⟩⟩
          case o3 =>
            intro gy D wz hDi hdep hclo hW
            exact .inl ⟨rfl, rfl, .inl ⟨gy, wz, fun _ _ => rfl, by kernel_rfl, hW⟩⟩
          case o4 =>
            intro gy D wz hDi hdep hclo hW
            exact .inl ⟨rfl, rfl, .inl ⟨gy, wz, fun _ _ => rfl, by kernel_rfl, hW⟩⟩
          case o5 =>
            intro gy D wz hDi hdep hclo hW
            exact .inl ⟨rfl, rfl, .inl ⟨gy, wz, fun _ _ => rfl, by kernel_rfl, hW⟩⟩
          case o6 =>
            intro gy D wz hDi hdep hclo hW
            exact .inl ⟨rfl, rfl, .inl ⟨gy, wz, fun _ _ => rfl, by kernel_rfl, hW⟩⟩
          case o7 =>
            intro gy D wz hDi hdep hclo hW
            exact .inl ⟨rfl, rfl, .inl ⟨gy, wz, fun _ _ => rfl, x_idx (j) (j) rfl rfl rfl Try.underlying23 sz3 (by omega) (by omega) (by omega), hW⟩⟩
          case o8 =>
            intro gy D wz hDi hdep hclo hW
            exact .inl ⟨rfl, rfl, .inl ⟨gy, wz, fun _ _ => rfl, x_load rfl rfl Try.underlying3 rfl (HP.cell hW 0 rfl (irow_get (by omega) rfl)), hW⟩⟩
          case o9 =>
            intro gy D wz hDi hdep hclo hW
            exact .inl ⟨rfl, rfl, .inl ⟨gy, wz, fun _ _ => rfl, by kernel_rfl, hW⟩⟩
          case o10 =>
            intro gy D wz hDi hdep hclo hW
            exact .inl ⟨rfl, rfl, .inl ⟨gy, wz, fun _ _ => rfl, by kernel_rfl, hW⟩⟩
          case o11 =>
            intro gy D wz hDi hdep hclo hW
            exact .inl ⟨rfl, rfl, .inl ⟨gy, wz, fun _ _ => rfl, x_sub (Z := ((j - 1 : Nat) : Int)) rfl rfl rfl (by omega) (by omega) (by omega), hW⟩⟩
          case o12 =>
            intro gy D wz hDi hdep hclo hW
            exact .inl ⟨rfl, rfl, .inl ⟨gy, wz, fun _ _ => rfl, x_idx (j - 1) (j - 1) rfl rfl rfl Try.underlying23 sz3 (by omega) (by omega) (by omega), hW⟩⟩
          case o13 =>
            intro gy D wz hDi hdep hclo hW
            exact .inl ⟨rfl, rfl, .inl ⟨gy, wz, fun _ _ => rfl, x_load rfl rfl Try.underlying3 rfl (HP.cell hW 0 rfl (irow_get (by omega) rfl)), hW⟩⟩
          case o14 =>
            intro gy D wz hDi hdep hclo hW
            have hW2 := hW
            exact .inl ⟨rfl, rfl, .inr (.inr ⟨33, #[vI (z j), vI (z (j - 1)), vP b3 0], by kernel_rfl, (hK _ (hW.sub (List.nil_sublist _)) _ _ (hz (j) (by omega)) (hz (j - 1) (by omega))).mono fun e w2 h => ⟨gy, fun _ _ => rfl, h.1, HP.call hW h.2⟩⟩)⟩
          case o15 =>
            intro gy D wz hDi hdep hclo hW
            exact .inl ⟨rfl, rfl, .inl ⟨gy, wz, fun _ _ => rfl, x_lss rfl rfl rfl (dT (cmp_neg.2 hcm)), hW⟩⟩
          case o16 =>
            intro gy D wz hDi hdep hclo hW
            exact .inl ⟨rfl, rfl, .inl ⟨gy, wz, fun _ _ => rfl, by kernel_rfl, hW⟩⟩
        rintro gy D w14 hall hH15
        clear hall
        refine WQ.sub (l' := [(0, vS g N N), (1, vI (a : Int)), (2, vI (c : Int)), (3, .func (.func 33) #[] #[vP b3 0]), (8, vI (i : Int)), (9, vI (j : Int)), (34, .bool true)]) ⟨rfl, rfl, rfl, rfl, rfl, rfl, rfl, trivial⟩ ?_
        refine WQ.then ?_
        refine hK13 _ _ _ ?_
        refine WC.yes rfl ?_
        refine WC.skip ?_
        refine WQ.then ?_
        refine hK12 _ _ _ ?_
        refine WC.seq fun K16 hK16 => ?_
        refine WC.block ?_
        refine WC.confG (γ := Unit) [(0, vS g N N), (1, vI (a : Int)), (2, vI (c : Int)), (3, .func (.func 33) #[] #[vP b3 0]), (8, vI (i : Int)), (9, vI (j : Int)), (34, .bool true)] (fun gy => [vS g N N, vI (j : Int), vS g N N, vI (j : Int), vI ((j - 1 : Nat) : Int), vS g N N, vI (j : Int), vI ((j - 1 : Nat) : Int), vP g (j - 1), vI (z (j - 1)), vS g N N, vI (j : Int), vP g j, vI (z j), vP g j, undef, vP g (j - 1), undef]) (fun gy D wz => HP (Ng g) w wz [(bif D 17 then Ent.cel g (irow N (upI (upI z j (z (j - 1))) (j - 1) (z j))) 3 else (bif D 15 then Ent.cel g (irow N (upI z j (z (j - 1)))) 3 else Ent.cel g (irow N z) 3))]) () (by kernel_rfl) ⟨rfl, rfl, rfl, rfl, rfl, rfl, rfl, trivial⟩ (by kernel_rfl) (by kernel_rfl) (by kernel_rfl) (fun _ => rfl) (by kernel_rfl) (HP.drew hH15) ?_ ?_
        · refine AllOk.cons ?o0 (AllOk.cons ?o1 (AllOk.cons ?o2 (AllOk.cons ?o3 (AllOk.cons ?o4 (AllOk.cons ?o5 (AllOk.cons ?o6 (AllOk.cons ?o7 (AllOk.cons ?o8 (AllOk.cons ?o9 (AllOk.cons ?o10 (AllOk.cons ?o11 (AllOk.cons ?o12 (AllOk.cons ?o13 (AllOk.cons ?o14 (AllOk.cons ?o15 (AllOk.cons ?o16 (AllOk.cons ?o17 (AllOk.nil _))))))))))))))))))
          case o0 =>
            intro gy D wz hDi hdep hclo hW
            exact .inl ⟨rfl, rfl, .inl ⟨gy, wz, fun _ _ => rfl, by kernel_rfl, hW⟩⟩
          case o1 =>
            intro gy D wz hDi hdep hclo hW
            exact .inl ⟨rfl, rfl, .inl ⟨gy, wz, fun _ _ => rfl, by kernel_rfl, hW⟩⟩
          case o2 =>
            intro gy D wz hDi hdep hclo hW
            exact .inl ⟨rfl, rfl, .inl ⟨gy, wz, fun _ _ => rfl, by kernel_rfl, hW⟩⟩
          case o3 =>
            intro gy D wz hDi hdep hclo hW
            exact .inl ⟨rfl, rfl, .inl ⟨gy, wz, fun _ _ => rfl, by kernel_rfl, hW⟩⟩
          case o4 =>
            intro gy D wz hDi hdep hclo hW
            exact .inl ⟨rfl, rfl, .inl ⟨gy, wz, fun _ _ => rfl, x_sub (Z := ((j - 1 : Nat) : Int)) rfl rfl rfl (by omega) (by omega) (by omega), hW⟩⟩
          case o5 =>
            intro gy D wz hDi hdep hclo hW
            exact .inl ⟨rfl, rfl, .inl ⟨gy, wz, fun _ _ => rfl, by kernel_rfl, hW⟩⟩
          case o6 =>
            intro gy D wz hDi hdep hclo hW
            exact .inl ⟨rfl, rfl, .inl ⟨gy, wz, fun _ _ => rfl, by kernel_rfl, hW⟩⟩
          case o7 =>
            intro gy D wz hDi hdep hclo hW
            exact .inl ⟨rfl, rfl, .inl ⟨gy, wz, fun _ _ => rfl, x_sub (Z := ((j - 1 : Nat) : Int)) rfl rfl rfl (by omega) (by omega) (by omega), hW⟩⟩
          case o8 =>
            intro gy D wz hDi hdep hclo hW
            exact .inl ⟨rfl, rfl, .inl ⟨gy, wz, fun _ _ => rfl, x_idx (j - 1) (j - 1) rfl rfl rfl Try.underlying23 sz3 (by omega) (by omega) (by omega), hW⟩⟩
          case o9 =>
            intro gy D wz hDi hdep hclo hW
            have hW8 := hW
            have d15 : D 15 = false := by
              cases h : D 15 with
              | false => rfl
              | true => exact absurd (hclo 15 _ rfl h ⟨9, .data⟩ (by simp) rfl) (by rw [hDi]; exact Bool.false_ne_true)
            have d17 : D 17 = false := by
              cases h : D 17 with
              | false => rfl
              | true => exact absurd (hclo 17 _ rfl h ⟨9, .phase⟩ (by simp) rfl) (by rw [hDi]; exact Bool.false_ne_true)
            simp only [d15, d17, cond_true, cond_false] at hW8
            exact .inl ⟨rfl, rfl, .inl ⟨gy, wz, fun _ _ => rfl, x_load rfl rfl Try.underlying3 rfl (HP.cell hW8 0 rfl (irow_get (by omega) rfl)), hW⟩⟩
          case o10 =>
            intro gy D wz hDi hdep hclo hW
            exact .inl ⟨rfl, rfl, .inl ⟨gy, wz, fun _ _ => rfl, by kernel_rfl, hW⟩⟩
          case o11 =>
            intro gy D wz hDi hdep hclo hW
            exact .inl ⟨rfl, rfl, .inl ⟨gy, wz, fun _ _ => rfl, by kernel_rfl, hW⟩⟩
          case o12 =>
            intro gy D wz hDi hdep hclo hW
            exact .inl ⟨rfl, rfl, .inl ⟨gy, wz, fun _ _ => rfl, x_idx (j) (j) rfl rfl rfl Try.underlying23 sz3 (by omega) (by omega) (by omega), hW⟩⟩
          case o13 =>
            intro gy D wz hDi hdep hclo hW
            have hW8 := hW
            have d15 : D 15 = false := by
              cases h : D 15 with
              | false => rfl
              | true => exact absurd (hclo 15 _ rfl h ⟨13, .phase⟩ (by simp) rfl) (by rw [hDi]; exact Bool.false_ne_true)
            have d17 : D 17 = false := by
              cases h : D 17 with
              | false => rfl
              | true => exact absurd (hclo 17 _ rfl h ⟨13, .data⟩ (by simp) rfl) (by rw [hDi]; exact Bool.false_ne_true)
            simp only [d15, d17, cond_true, cond_false] at hW8
            exact .inl ⟨rfl, rfl, .inl ⟨gy, wz, fun _ _ => rfl, x_load rfl rfl Try.underlying3 rfl (HP.cell hW8 0 rfl (irow_get (by omega) rfl)), hW⟩⟩
          case o14 =>
            intro gy D wz hDi hdep hclo hW
            exact .inl ⟨rfl, rfl, .inl ⟨gy, wz, fun _ _ => rfl, x_idx (j) (j) rfl rfl rfl Try.underlying23 sz3 (by omega) (by omega) (by omega), hW⟩⟩
          case o15 =>
            intro gy D wz hDi hdep hclo hW
            have hW9 := hW
            have d17 : D 17 = false := by
              cases h : D 17 with
              | false => rfl
              | true => exact absurd (hclo 17 _ rfl h ⟨15, .chain⟩ (by simp) rfl) (by rw [hDi]; exact Bool.false_ne_true)
            simp only [hDi, d17, cond_true, cond_false] at hW9
            have h4 := HP.set (off := j) (v := vI (z (j - 1))) hW9 0 rfl
            rw [irow_set] at h4
            refine .inl ⟨rfl, rfl, .inr (.inl ⟨_, x_store rfl rfl rfl sz3 rfl (HP.cell hW9 0 rfl (irow_get (by omega) rfl)) (HP.free hW9 0 rfl), rfl, ?_⟩)⟩
            show HP (Ng g) w _ [(bif D 17 then Ent.cel g (irow N (upI (upI z j (z (j - 1))) (j - 1) (z j))) 3 else Ent.cel g (irow N (upI z j (z (j - 1)))) 3)]
            try simp only [d17, cond_true, cond_false]
            exact h4
          case o16 =>
            intro gy D wz hDi hdep hclo hW
            exact .inl ⟨rfl, rfl, .inl ⟨gy, wz, fun _ _ => rfl, x_idx (j - 1) (j - 1) rfl rfl rfl Try.underlying23 sz3 (by omega) (by omega) (by omega), hW⟩⟩
          case o17 =>
            intro gy D wz hDi hdep hclo hW
            have hW9 := hW
            have d15 : D 15 = true := hdep ⟨15, .chain⟩ (by simp) rfl
            simp only [hDi, d15, cond_true, cond_false] at hW9
            have h4 := HP.set (off := j - 1) (v := vI (z j)) hW9 0 rfl
            rw [irow_set] at h4
            refine .inl ⟨rfl, rfl, .inr (.inl ⟨_, x_store rfl rfl rfl sz3 rfl (HP.cell hW9 0 rfl (irow_get (by omega) rfl)) (HP.free hW9 0 rfl), rfl, ?_⟩)⟩
            show HP (Ng g) w _ [Ent.cel g (irow N (upI (upI z j (z (j - 1))) (j - 1) (z j))) 3]
            try simp only [d15, cond_true, cond_false]
            exact h4
        rintro gy D w17 hall hH18
        simp only [hall 15 (by kernel_rfl), hall 17 (by kernel_rfl), cond_true, List.append_nil, List.nil_append, List.cons_append] at hH18
        clear hall
        refine WQ.sub (l' := [(0, vS g N N), (1, vI (a : Int)), (2, vI (c : Int)), (3, .func (.func 33) #[] #[vP b3 0]), (8, vI (i : Int)), (9, vI (j : Int)), (34, .bool true)]) ⟨rfl, rfl, rfl, rfl, rfl, rfl, rfl, trivial⟩ ?_
        refine WQ.inNormal ?_
        refine WQ.then ?_
        refine hK16 _ _ _ ?_
        refine WC.region ?_
        refine WL.pure (v := vI (j : Int)) 35 rfl (Nat.le_of_ble_eq_true rfl) rfl rfl (by kernel_rfl) ?_
        refine WL.pure (v := vI ((j - 1 : Nat) : Int)) 36 rfl (Nat.le_of_ble_eq_true rfl) rfl rfl (x_sub (Z := ((j - 1 : Nat) : Int)) rfl rfl rfl (by omega) (by omega) (by omega)) ?_
        refine WL.pure (v := vI ((j - 1 : Nat) : Int)) 9 rfl (Nat.le_of_ble_eq_true rfl) rfl rfl (by kernel_rfl) ?_
        refine WL.nil ?_
        refine WQ.sub (l' := [(0, vS g N N), (1, vI (a : Int)), (2, vI (c : Int)), (3, .func (.func 33) #[] #[vP b3 0]), (8, vI (i : Int)), (9, vI ((j - 1 : Nat) : Int))]) ⟨rfl, rfl, rfl, rfl, rfl, rfl, trivial⟩ ?_
        refine WQ.then (hK9 _ _ _ (by omega) ⟨j - 1, upI (upI z j (z (j - 1))) (j - 1) (z j), rfl, rfl, by omega, by omega, hP2.trans (Pm.swap ⟨by omega, by omega⟩ ⟨by omega, by omega⟩), hX.step hja (by omega) hcm, hH18⟩)
      ·
        refine WC.confG (γ := Unit) [(0, vS g N N), (1, vI (a : Int)), (2, vI (c : Int)), (3, .func (.func 33) #[] #[vP b3 0]), (8, vI (i : Int)), (9, vI (j : Int))] (fun gy => [vI (j : Int), vI (a : Int), .bool true, .bool true, .func (.func 33) #[] #[vP b3 0], vS g N N, vI (j : Int), vP g j, vI (z j), vS g N N, vI (j : Int), vI ((j - 1 : Nat) : Int), vP g (j - 1), vI (z (j - 1)), vI (cmpI (κ (z j)) (κ (z (j - 1)))), .bool false, .bool false]) (fun gy D wz => HP (Ng g) w wz [.cel g (irow N z) 3]) () (by kernel_rfl) ⟨rfl, rfl, rfl, rfl, rfl, rfl, trivial⟩ (by kernel_rfl) (by kernel_rfl) (by kernel_rfl) (fun _ => rfl) (by kernel_rfl) (HP.drew hH11) ?_ ?_
        · refine AllOk.cons ?o0 (AllOk.cons ?o1 (AllOk.cons ?o2 (AllOk.cons ?o3 (AllOk.cons ?o4 (AllOk.cons ?o5 (AllOk.cons ?o6 (AllOk.cons ?o7 (AllOk.cons ?o8 (AllOk.cons ?o9 (AllOk.cons ?o10 (AllOk.cons ?o11 (AllOk.cons ?o12 (AllOk.cons ?o13 (AllOk.cons ?o14 (AllOk.cons ?o15 (AllOk.cons ?o16 (AllOk.nil _)))))))))))))))))
          case o0 =>
            intro gy D wz hDi hdep hclo hW
            exact .inl ⟨rfl, rfl, .inl ⟨gy, wz, fun _ _ => rfl, by kernel_rfl, hW⟩⟩
          case o1 =>
            intro gy D wz hDi hdep hclo hW
            exact .inl ⟨rfl, rfl, .inl ⟨gy, wz, fun _ _ => rfl, by kernel_rfl, hW⟩⟩
          case o2 =>
            intro gy D wz hDi hdep hclo hW
            exact .inl ⟨rfl, rfl, .inl ⟨gy, wz, fun _ _ => rfl, x_gtr rfl rfl rfl (dT (by omega)), hW⟩⟩
          case o3 =>
            intro gy D wz hDi hdep hclo hW
            exact .inl ⟨rfl, rfl, .inl ⟨gy, wz, fun _ _ => rfl, by kernel_rfl, hW⟩⟩
          case o4 =>
            intro gy D wz hDi hdep hclo hW
            exact .inl ⟨rfl, rfl, .inl ⟨gy, wz, fun _ _ => rfl, by kernel_rfl, hW⟩⟩
          case o5 =>
            intro gy D wz hDi hdep hclo hW
            exact .inl ⟨rfl, rfl, .inl ⟨gy, wz, fun _ _ => rfl, by kernel_rfl, hW⟩⟩
          case o6 =>
            intro gy D wz hDi hdep hclo hW
            exact .inl ⟨rfl, rfl, .inl ⟨gy, wz, fun _ _ => rfl, by kernel_rfl, hW⟩⟩
          case o7 =>
            intro gy D wz hDi hdep hclo hW
            exact .inl ⟨rfl, rfl, .inl ⟨gy, wz, fun _ _ => rfl, x_idx (j) (j) rfl rfl rfl Try.underlying23 sz3 (by omega) (by omega) (by omega), hW⟩⟩
          case o8 =>
            intro gy D wz hDi hdep hclo hW
            exact .inl ⟨rfl, rfl, .inl ⟨gy, wz, fun _ _ => rfl, x_load rfl rfl Try.underlying3 rfl (HP.cell hW 0 rfl (irow_get (by omega) rfl)), hW⟩⟩
          case o9 =>
            intro gy D wz hDi hdep hclo hW
            exact .inl ⟨rfl, rfl, .inl ⟨gy, wz, fun _ _ => rfl, by kernel_rfl, hW⟩⟩
          case o10 =>
            intro gy D wz hDi hdep hclo hW
            exact .inl ⟨rfl, rfl, .inl ⟨gy, wz, fun _ _ => rfl, by kernel_rfl, hW⟩⟩
          case o11 =>
            intro gy D wz hDi hdep hclo hW
            exact .inl ⟨rfl, rfl, .inl ⟨gy, wz, fun _ _ => rfl, x_sub (Z := ((j - 1 : Nat) : Int)) rfl rfl rfl (by omega) (by omega) (by omega), hW⟩⟩
          case o12 =>
            intro gy D wz hDi hdep hclo hW
            exact .inl ⟨rfl, rfl, .inl ⟨gy, wz, fun _ _ => rfl, x_idx (j - 1) (j - 1) rfl rfl rfl Try.underlying23 sz3 (by omega) (by omega) (by omega), hW⟩⟩
          case o13 =>
            intro gy D wz hDi hdep hclo hW
            exact .inl ⟨rfl, rfl, .inl ⟨gy, wz, fun _ _ => rfl, x_load rfl rfl Try.underlying3 rfl (HP.cell hW 0 rfl (irow_get (by omega) rfl)), hW⟩⟩
          case o14 =>
            intro gy D wz hDi hdep hclo hW
            have hW2 := hW
            exact .inl ⟨rfl, rfl, .inr (.inr ⟨33, #[vI (z j), vI (z (j - 1)), vP b3 0], by kernel_rfl, (hK _ (hW.sub (List.nil_sublist _)) _ _ (hz (j) (by omega)) (hz (j - 1) (by omega))).mono fun e w2 h => ⟨gy, fun _ _ => rfl, h.1, HP.call hW h.2⟩⟩)⟩
          case o15 =>
            intro gy D wz hDi hdep hclo hW
            exact .inl ⟨rfl, rfl, .inl ⟨gy, wz, fun _ _ => rfl, x_lss rfl rfl rfl (dF (fun h => hcm (cmp_neg.1 h))), hW⟩⟩
          case o16 =>
            intro gy D wz hDi hdep hclo hW
            exact .inl ⟨rfl, rfl, .inl ⟨gy, wz, fun _ _ => rfl, by kernel_rfl, hW⟩⟩
        rintro gy D w19 hall hH20
        clear hall
        refine WQ.sub (l' := [(0, vS g N N), (1, vI (a : Int)), (2, vI (c : Int)), (3, .func (.func 33) #[] #[vP b3 0]), (8, vI (i : Int)), (9, vI (j : Int)), (34, .bool false)]) ⟨rfl, rfl, rfl, rfl, rfl, rfl, rfl, trivial⟩ ?_
        refine WQ.then ?_
        refine hK13 _ _ _ ?_
        refine WC.no rfl ?_
        refine WC.exit ?_
        refine WQ.thenExit ?_
        refine WQ.thenExit ?_
        refine WQ.inExit ?_
        refine WQ.inNormal ?_
        refine WQ.then ?_
        refine hK7 _ _ _ ?_
        refine WC.region ?_
        refine WL.pure (v := vI (i : Int)) 15 rfl (Nat.le_of_ble_eq_true rfl) rfl rfl (by kernel_rfl) ?_
        refine WL.pure (v := vI ((i + 1 : Nat) : Int)) 16 rfl (Nat.le_of_ble_eq_true rfl) rfl rfl (x_add (Z := ((i + 1 : Nat) : Int)) rfl rfl rfl (by omega) (by omega) (by omega)) ?_
        refine WL.pure (v := vI ((i + 1 : Nat) : Int)) 8 rfl (Nat.le_of_ble_eq_true rfl) rfl rfl (by kernel_rfl) ?_
        refine WL.nil ?_
        refine WQ.sub (l' := [(0, vS g N N), (1, vI (a : Int)), (2, vI (c : Int)), (3, .func (.func 33) #[] #[vP b3 0]), (8, vI ((i + 1 : Nat) : Int))]) ⟨rfl, rfl, rfl, rfl, rfl, trivial⟩ ?_
        refine WQ.then (hK2 _ _ _ (by omega) ⟨i + 1, z, rfl, rfl, by omega, by omega, hP2, hX.done hja (by omega) hcm, hH20⟩)
    ·
      refine WC.confG (γ := Unit) [(0, vS g N N), (1, vI (a : Int)), (2, vI (c : Int)), (3, .func (.func 33) #[] #[vP b3 0]), (8, vI (i : Int)), (9, vI (j : Int))] (fun gy => [vI (j : Int), vI (a : Int), .bool false, .bool false, undef, undef, undef, undef, undef, undef, undef, undef, undef, undef, undef, undef, .bool false]) (fun gy D wz => HP (Ng g) w wz [.cel g (irow N z) 3]) () (by kernel_rfl) ⟨rfl, rfl, rfl, rfl, rfl, rfl, trivial⟩ (by kernel_rfl) (by kernel_rfl) (by kernel_rfl) (fun _ => rfl) (by kernel_rfl) (HP.drew hH11) ?_ ?_
      · refine AllOk.cons ?o0 (AllOk.cons ?o1 (AllOk.cons ?o2 (AllOk.cons ?o3 (AllOk.cons ?o4 (AllOk.cons ?o5 (AllOk.cons ?o6 (AllOk.cons ?o7 (AllOk.cons ?o8 (AllOk.cons ?o9 (AllOk.cons ?o10 (AllOk.cons ?o11 (AllOk.cons ?o12 (AllOk.cons ?o13 (AllOk.cons ?o14 (AllOk.cons ?o15 (AllOk.cons ?o16 (AllOk.nil _)))))))))))))))))
        case o0 =>
          intro gy D wz hDi hdep hclo hW
          exact .inl ⟨rfl, rfl, .inl ⟨gy, wz, fun _ _ => rfl, by kernel_rfl, hW⟩⟩
        case o1 =>
          intro gy D wz hDi hdep hclo hW
          exact .inl ⟨rfl, rfl, .inl ⟨gy, wz, fun _ _ => rfl, by kernel_rfl, hW⟩⟩
        case o2 =>
          intro gy D wz hDi hdep hclo hW
          exact .inl ⟨rfl, rfl, .inl ⟨gy, wz, fun _ _ => rfl, x_gtr rfl rfl rfl (dF (by omega)), hW⟩⟩
        case o3 =>
          intro gy D wz hDi hdep hclo hW
          exact .inl ⟨rfl, rfl, .inl ⟨gy, wz, fun _ _ => rfl, by kernel_rfl, hW⟩⟩
        case o4 =>
          intro gy D wz hDi hdep hclo hW
          exact .inr ⟨rfl, rfl, hW⟩
        case o5 =>
          intro gy D wz hDi hdep hclo hW
          exact .inr ⟨rfl, rfl, hW⟩
        case o6 =>
          intro gy D wz hDi hdep hclo hW
          exact .inr ⟨rfl, rfl, hW⟩
        case o7 =>
          intro gy D wz hDi hdep hclo hW
          exact .inr ⟨rfl, rfl, hW⟩
        case o8 =>
          intro gy D wz hDi hdep hclo hW
          exact .inr ⟨rfl, rfl, hW⟩
        case o9 =>
          intro gy D wz hDi hdep hclo hW
          exact .inr ⟨rfl, rfl, hW⟩
        case o10 =>
          intro gy D wz hDi hdep hclo hW
          exact .inr ⟨rfl, rfl, hW⟩
        case o11 =>
          intro gy D wz hDi hdep hclo hW
          exact .inr ⟨rfl, rfl, hW⟩
        case o12 =>
          intro gy D wz hDi hdep hclo hW
          exact .inr ⟨rfl, rfl, hW⟩
        case o13 =>
          intro gy D wz hDi hdep hclo hW
          exact .inr ⟨rfl, rfl, hW⟩
        case o14 =>
          intro gy D wz hDi hdep hclo hW
          exact .inr ⟨rfl, rfl, hW⟩
        case o15 =>
          intro gy D wz hDi hdep hclo hW
          exact .inr ⟨rfl, rfl, hW⟩
        case o16 =>
          intro gy D wz hDi hdep hclo hW
          exact .inl ⟨rfl, rfl, .inl ⟨gy, wz, fun _ _ => rfl, by kernel_rfl, hW⟩⟩
      rintro gy D w21 hall hH22
      clear hall
      refine WQ.sub (l' := [(0, vS g N N), (1, vI (a : Int)), (2, vI (c : Int)), (3, .func (.func 33) #[] #[vP b3 0]), (8, vI (i : Int)), (9, vI (j : Int)), (34, .bool false)]) ⟨rfl, rfl, rfl, rfl, rfl, rfl, rfl, trivial⟩ ?_
      refine WQ.then ?_
      refine hK13 _ _ _ ?_
      refine WC.no rfl ?_
      refine WC.exit ?_
      refine WQ.thenExit ?_
      refine WQ.thenExit ?_
      refine WQ.inExit ?_
      refine WQ.inNormal ?_
      refine WQ.then ?_
      refine hK7 _ _ _ ?_
      refine WC.region ?_
      refine WL.pure (v := vI (i : Int)) 15 rfl (Nat.le_of_ble_eq_true rfl) rfl rfl (by kernel_rfl) ?_
      refine WL.pure (v := vI ((i + 1 : Nat) : Int)) 16 rfl (Nat.le_of_ble_eq_true rfl) rfl rfl (x_add (Z := ((i + 1 : Nat) : Int)) rfl rfl rfl (by omega) (by omega) (by omega)) ?_
      refine WL.pure (v := vI ((i + 1 : Nat) : Int)) 8 rfl (Nat.le_of_ble_eq_true rfl) rfl rfl (by kernel_rfl) ?_
      refine WL.nil ?_
      refine WQ.sub (l' := [(0, vS g N N), (1, vI (a : Int)), (2, vI (c : Int)), (3, .func (.func 33) #[] #[vP b3 0]), (8, vI ((i + 1 : Nat) : Int))]) ⟨rfl, rfl, rfl, rfl, rfl, trivial⟩ ?_
      refine WQ.then (hK2 _ _ _ (by omega) ⟨i + 1, z, rfl, rfl, by omega, by omega, hP2, hX.last hja, hH22⟩)
  ·
    refine WL.pure (v := .bool false) 14 rfl (Nat.le_of_ble_eq_true rfl) rfl rfl (x_lss rfl rfl rfl (dF (hlt))) ?_
    refine WL.nil ?_
    refine WQ.then ?_
    refine hK6 _ _ _ ?_
    refine WC.no rfl ?_
    refine WC.exit ?_
    refine WQ.thenExit ?_
    refine WQ.thenExit ?_
    refine WQ.inExit ?_
    refine WQ.end0 rfl ?_
    exact ⟨y, rfl, ⟨hP, fun p q h1 h2 h3 => hS p q h1 h2 (by omega)⟩, hH4⟩
set_option maxRecDepth 20000 in
set_option maxHeartbeats 4000000 in
theorem swapR_any (g b3 nq N : Nat) (x : Nat → Int) (a b n : Nat) (w : World) (hB : OwnB w [.cel g (irow N x) 3]) (hN4 : N ≤ 1000) (hab : a + n ≤ b) (hbN : b + n ≤ N) :
    Calls Try.prog 53 #[vS g N N, vI (a : Int), vI (b : Int), vI (n : Int), .func (.func 33) #[] #[vP b3 0]] w fun e w' => ∃ y, e = .returned (.tuple #[]) ∧ (Pm a (b + n) x y ∧ (∀ p, y p = swr a b n x p)) ∧ HP (Ng g) w w' [.cel g (irow N y) 3] := by
  refine calls_of Try.func53 rfl (m := 38) rfl [(0, vS g N N), (1, vI (a : Int)), (2, vI (b : Int)), (3, vI (n : Int)), (4, .func (.func 33) #[] #[vP b3 0])] (Fr_enter [vS g N N, vI (a : Int), vI (b : Int), vI (n : Int), .func (.func 33) #[] #[vP b3 0]] 38 (Nat.le_of_ble_eq_true rfl)) ?_
  refine WC.seq fun K1 hK1 => ?_
  refine WC.region ?_
  refine WL.pure (v := vI 0) 10 rfl (Nat.le_of_ble_eq_true rfl) rfl rfl (by kernel_rfl) ?_
  refine WL.nil ?_
  refine WQ.then ?_
  refine hK1 _ _ _ ?_
  refine WC.block ?_
  refine WC.loop (fun kk0 ll0 ww0 => ∃ (i : Nat) (y : Nat → Int), ll0 = [(0, vS g N N), (1, vI (a : Int)), (2, vI (b : Int)), (3, vI (n : Int)), (10, vI (i : Int))] ∧ kk0 = n - i ∧ (i ≤ n) ∧ (Pm a (b + n) x y) ∧ (∀ p, y p = swr a b i x p) ∧ HP (Ng g) w ww0 [.cel g (irow N y) 3]) (n) [(0, vS g N N), (1, vI (a : Int)), (2, vI (b : Int)), (3, vI (n : Int)), (10, vI 0)] ⟨rfl, rfl, rfl, rfl, rfl, trivial⟩ ⟨0, x, rfl, rfl, Nat.zero_le _, Pm.refl _ _ _, fun p => (swr_zero a b x p).symm, (ngB hB)⟩ ?_
  rintro kk l w3 ⟨i, y, rfl, hkk, hi, hP, hR, hH4⟩ K2 hK2
  refine WC.seq fun K5 hK5 => ?_
  refine WC.seq fun K6 hK6 => ?_
  refine WC.region ?_
  refine WL.pure (v := vI (i : Int)) 11 rfl (Nat.le_of_ble_eq_true rfl) rfl rfl (by kernel_rfl) ?_
  refine WL.pure (v := vI (n : Int)) 12 rfl (Nat.le_of_ble_eq_true rfl) rfl rfl (by kernel_rfl) ?_
  by_cases hlt : (i : Int) < (n : Int)
  ·
    refine WL.pure (v := .bool true) 13 rfl (Nat.le_of_ble_eq_true rfl) rfl rfl (x_lss rfl rfl rfl (dT (hlt))) ?_
    refine WL.nil ?_
    refine WQ.then ?_
    refine hK6 _ _ _ ?_
    refine WC.yes rfl ?_
    refine WC.skip ?_
    refine WQ.then ?_
    refine hK5 _ _ _ ?_
    refine WC.seq fun K7 hK7 => ?_
    refine WC.block ?_
    refine WC.confG (γ := Unit) [(13, .bool true), (12, vI (n : Int)), (11, vI (i : Int)), (0, vS g N N), (1, vI (a : Int)), (2, vI (b : Int)), (3, vI (n : Int)), (10, vI (i : Int))] (fun gy => [vS g N N, vI (a : Int), vI (i : Int), vI ((a + i : Nat) : Int), vS g N N, vI (b : Int), vI (i : Int), vI ((b + i : Nat) : Int), vS g N N, vI (b : Int), vI (i : Int), vI ((b + i : Nat) : Int), vP g (b + i), vI (y (b + i)), vS g N N, vI (a : Int), vI (i : Int), vI ((a + i : Nat) : Int), vP g (a + i), vI (y (a + i)), vP g (a + i), undef, vP g (b + i), undef]) (fun gy D wz => HP (Ng g) w wz [(bif D 23 then Ent.cel g (irow N (upI (upI y (a + i) (y (b + i))) (b + i) (y (a + i)))) 3 else (bif D 21 then Ent.cel g (irow N (upI y (a + i) (y (b + i)))) 3 else Ent.cel g (irow N y) 3))]) () (by kernel_rfl) ⟨rfl, rfl, rfl, rfl, rfl, rfl, rfl, rfl, trivial⟩ (by kernel_rfl) (by kernel_rfl) (by kernel_rfl) (fun _ => rfl) (by kernel_rfl) (HP.drew hH4) ?_ ?_
    · refine AllOk.cons ?o0 (AllOk.cons ?o1 (AllOk.cons ?o2 (AllOk.cons ?o3 (AllOk.cons ?o4 (AllOk.cons ?o5 (AllOk.cons ?o6 (AllOk.cons ?o7 (AllOk.cons ?o8 (AllOk.cons ?o9 (AllOk.cons ?o10 (AllOk.cons ?o11 (AllOk.cons ?o12 (AllOk.cons ?o13 (AllOk.cons ?o14 (AllOk.cons ?o15 (AllOk.cons ?o16 (AllOk.cons ?o17 (AllOk.cons ?o18 (AllOk.cons ?o19 (AllOk.cons ?o20 (AllOk.cons ?o21 (AllOk.cons ?o22 (AllOk.cons ?o23 (AllOk.nil _))))))))))))))))))))))))
      case o0 =>
        intro gy D wz hDi hdep hclo hW
        exact .inl ⟨rfl, rfl, .inl ⟨gy, wz, fun _ _ => rfl, by kernel_rfl, hW⟩⟩
      case o1 =>
        intro gy D wz hDi hdep hclo hW
        exact .inl ⟨rfl, rfl, .inl ⟨gy, wz, fun _ _ => rfl, by kernel_rfl, hW⟩⟩
      case o2 =>
        intro gy D wz hDi hdep hclo hW
        exact .inl ⟨rfl, rfl, .inl ⟨gy, wz, fun _ _ => rfl, by kernel_rfl, hW⟩⟩
      case o3 =>
        intro gy D wz hDi hdep hclo hW
        exact .inl ⟨rfl, rfl, .inl ⟨gy, wz, fun _ _ => rfl, x_add (Z := ((a + i : Nat) : Int)) rfl rfl rfl (by omega) (by omega) (by omega), hW⟩⟩
      case o4 =>
        intro gy D wz hDi hdep hclo hW
        exact .inl ⟨rfl, rfl, .inl ⟨gy, wz, fun _ _ => rfl, by kernel_rfl, hW⟩⟩
      case o5 =>
        intro gy D wz hDi hdep hclo hW
        exact .inl ⟨rfl, rfl, .inl ⟨gy, wz, fun _ _ => rfl, by kernel_rfl, hW⟩⟩
      case o6 =>
        intro gy D wz hDi hdep hclo hW
        exact .inl ⟨rfl, rfl, .inl ⟨gy, wz, fun _ _ => rfl, by kernel_rfl, hW⟩⟩
      case o7 =>
        intro gy D wz hDi hdep hclo hW
        exact .inl ⟨rfl, rfl, .inl ⟨gy, wz, fun _ _ => rfl, x_add (Z := ((b + i : Nat) : Int)) rfl rfl rfl (by omega) (by omega) (by omega), hW⟩⟩
      case o8 =>
        intro gy D wz hDi hdep hclo hW
        exact .inl ⟨rfl, rfl, .inl ⟨gy, wz, fun _ _ => rfl, by kernel_rfl, hW⟩⟩
      case o9 =>
        intro gy D wz hDi hdep hclo hW
        exact .inl ⟨rfl, rfl, .inl ⟨gy, wz, fun _ _ => rfl, by kernel_rfl, hW⟩⟩
      case o10 =>
        intro gy D wz hDi hdep hclo hW
        exact .inl ⟨rfl, rfl, .inl ⟨gy, wz, fun _ _ => rfl, by kernel_rfl, hW⟩⟩
      case o11 =>
        intro gy D wz hDi hdep hclo hW
        exact .inl ⟨rfl, rfl, .inl ⟨gy, wz, fun _ _ => rfl, x_add (Z := ((b + i : Nat) : Int)) rfl rfl rfl (by omega) (by omega) (by omega), hW⟩⟩
      case o12 =>
        intro gy D wz hDi hdep hclo hW
        exact .inl ⟨rfl, rfl, .inl ⟨gy, wz, fun _ _ => rfl, x_idx (b + i) (b + i) rfl rfl rfl Try.underlying23 sz3 (by omega) (by omega) (by omega), hW⟩⟩
      case o13 =>
        intro gy D wz hDi hdep hclo hW
        have hW8 := hW
        have d21 : D 21 = false := by
          cases h : D 21 with
          | false => rfl
          | true => exact absurd (hclo 21 _ rfl h ⟨13, .data⟩ (by simp) rfl) (by rw [hDi]; exact Bool.false_ne_true)
        have d23 : D 23 = false := by
          cases h : D 23 with
          | false => rfl
          | true => exact absurd (hclo 23 _ rfl h ⟨13, .phase⟩ (by simp) rfl) (by rw [hDi]; exact Bool.false_ne_true)
        simp only [d21, d23, cond_true, cond_false] at hW8
        exact .inl ⟨rfl, rfl, .inl ⟨gy, wz, fun _ _ => rfl, x_load rfl rfl Try.underlying3 rfl (HP.cell hW8 0 rfl (irow_get (by omega) rfl)), hW⟩⟩
      case o14 =>
        intro gy D wz hDi hdep hclo hW
        exact .inl ⟨rfl, rfl, .inl ⟨gy, wz, fun _ _ => rfl, by kernel_rfl, hW⟩⟩
      case o15 =>
        intro gy D wz hDi hdep hclo hW
        exact .inl ⟨rfl, rfl, .inl ⟨gy, wz, fun _ _ => rfl, by kernel_rfl, hW⟩⟩
      case o16 =>
        intro gy D wz hDi hdep hclo hW
        exact .inl ⟨rfl, rfl, .inl ⟨gy, wz, fun _ _ => rfl, by kernel_rfl, hW⟩⟩
      case o17 =>
        intro gy D wz hDi hdep hclo hW
        exact .inl ⟨rfl, rfl, .inl ⟨gy, wz, fun _ _ => rfl, x_add (Z := ((a + i : Nat) : Int)) rfl rfl rfl (by omega) (by omega) (by omega), hW⟩⟩
      case o18 =>
        intro gy D wz hDi hdep hclo hW
        exact .inl ⟨rfl, rfl, .inl ⟨gy, wz, fun _ _ => rfl, x_idx (a + i) (a + i) rfl rfl rfl Try.underlying23 sz3 (by omega) (by omega) (by omega), hW⟩⟩
      case o19 =>
        intro gy D wz hDi hdep hclo hW
        have hW8 := hW
        have d21 : D 21 = false := by
          cases h : D 21 with
          | false => rfl
          | true => exact absurd (hclo 21 _ rfl h ⟨19, .phase⟩ (by simp) rfl) (by rw [hDi]; exact Bool.false_ne_true)
        have d23 : D 23 = false := by
          cases h : D 23 with
          | false => rfl
          | true => exact absurd (hclo 23 _ rfl h ⟨19, .data⟩ (by simp) rfl) (by rw [hDi]; exact Bool.false_ne_true)
        simp only [d21, d23, cond_true, cond_false] at hW8
        exact .inl ⟨rfl, rfl, .inl ⟨gy, wz, fun _ _ => rfl, x_load rfl rfl Try.underlying3 rfl (HP.cell hW8 0 rfl (irow_get (by omega) rfl)), hW⟩⟩
      case o20 =>
        intro gy D wz hDi hdep hclo hW
        exact .inl ⟨rfl, rfl, .inl ⟨gy, wz, fun _ _ => rfl, x_idx (a + i) (a + i) rfl rfl rfl Try.underlying23 sz3 (by omega) (by omega) (by omega), hW⟩⟩
      case o21 =>
        intro gy D wz hDi hdep hclo hW
        have hW9 := hW
        have d23 : D 23 = false := by
          cases h : D 23 with
          | false => rfl
          | true => exact absurd (hclo 23 _ rfl h ⟨21, .chain⟩ (by simp) rfl) (by rw [hDi]; exact Bool.false_ne_true)
        simp only [hDi, d23, cond_true, cond_false] at hW9
        have h4 := HP.set (off := a + i) (v := vI (y (b + i))) hW9 0 rfl
        rw [irow_set] at h4
        refine .inl ⟨rfl, rfl, .inr (.inl ⟨_, x_store rfl rfl rfl sz3 rfl (HP.cell hW9 0 rfl (irow_get (by omega) rfl)) (HP.free hW9 0 rfl), rfl, ?_⟩)⟩
        show HP (Ng g) w _ [(bif D 23 then Ent.cel g (irow N (upI (upI y (a + i) (y (b + i))) (b + i) (y (a + i)))) 3 else Ent.cel g (irow N (upI y (a + i) (y (b + i)))) 3)]
        try simp only [d23, cond_true, cond_false]
        exact h4
      case o22 =>
        intro gy D wz hDi hdep hclo hW
        exact .inl ⟨rfl, rfl, .inl ⟨gy, wz, fun _ _ => rfl, x_idx (b + i) (b + i) rfl rfl rfl Try.underlying23 sz3 (by omega) (by omega) (by omega), hW⟩⟩
      case o23 =>
        intro gy D wz hDi hdep hclo hW
        have hW9 := hW
        have d21 : D 21 = true := hdep ⟨21, .chain⟩ (by simp) rfl
        simp only [hDi, d21, cond_true, cond_false] at hW9
        have h4 := HP.set (off := b + i) (v := vI (y (a + i))) hW9 0 rfl
        rw [irow_set] at h4
        refine .inl ⟨rfl, rfl, .inr (.inl ⟨_, x_store rfl rfl rfl sz3 rfl (HP.cell hW9 0 rfl (irow_get (by omega) rfl)) (HP.free hW9 0 rfl), rfl, ?_⟩)⟩
        show HP (Ng g) w _ [Ent.cel g (irow N (upI (upI y (a + i) (y (b + i))) (b + i) (y (a + i)))) 3]
        try simp only [d21, cond_true, cond_false]
        exact h4
    rintro gy D w8 hall hH9
    simp only [hall 21 (by kernel_rfl), hall 23 (by kernel_rfl), cond_true, List.append_nil, List.nil_append, List.cons_append] at hH9
    clear hall
    refine WQ.sub (l' := [(0, vS g N N), (1, vI (a : Int)), (2, vI (b : Int)), (3, vI (n : Int)), (10, vI (i : Int)), (13, .bool true)]) ⟨rfl, rfl, rfl, rfl, rfl, rfl, trivial⟩ ?_
    refine WQ.inNormal ?_
    refine WQ.then ?_
    refine hK7 _ _ _ ?_
    refine WC.region ?_
    refine WL.pure (v := vI (i : Int)) 14 rfl (Nat.le_of_ble_eq_true rfl) rfl rfl (by kernel_rfl) ?_
    refine WL.pure (v := vI ((i + 1 : Nat) : Int)) 15 rfl (Nat.le_of_ble_eq_true rfl) rfl rfl (x_add (Z := ((i + 1 : Nat) : Int)) rfl rfl rfl (by omega) (by omega) (by omega)) ?_
    refine WL.pure (v := vI ((i + 1 : Nat) : Int)) 10 rfl (Nat.le_of_ble_eq_true rfl) rfl rfl (by kernel_rfl) ?_
    refine WL.nil ?_
    refine WQ.sub (l' := [(0, vS g N N), (1, vI (a : Int)), (2, vI (b : Int)), (3, vI (n : Int)), (10, vI ((i + 1 : Nat) : Int))]) ⟨rfl, rfl, rfl, rfl, rfl, trivial⟩ ?_
    refine WQ.then (hK2 _ _ _ (by omega) ⟨i + 1, upI (upI y (a + i) (y (b + i))) (b + i) (y (a + i)), rfl, rfl, by omega, hP.trans (Pm.swap ⟨by omega, by omega⟩ ⟨by omega, by omega⟩), swr_step (by omega) hR, hH9⟩)
  ·
    refine WL.pure (v := .bool false) 13 rfl (Nat.le_of_ble_eq_true rfl) rfl rfl (x_lss rfl rfl rfl (dF (hlt))) ?_
    refine WL.nil ?_
    refine WQ.then ?_
    refine hK6 _ _ _ ?_
    refine WC.no rfl ?_
    refine WC.exit ?_
    refine WQ.thenExit ?_
    refine WQ.thenExit ?_
    refine WQ.inExit ?_
    refine WQ.end0 rfl ?_
    obtain rfl : i = n := by omega
    exact ⟨y, rfl, ⟨hP, hR⟩, hH4⟩
set_option maxRecDepth 20000 in
set_option maxHeartbeats 4000000 in
theorem rotate_any (g b3 nq N : Nat) (x : Nat → Int) (a m c : Nat) (w : World) (hB : OwnB w [.cel g (irow N x) 3]) (hN4 : N ≤ 1000) (ham : a < m) (hmc : m < c) (hcN : c ≤ N) :
    Calls Try.prog 52 #[vS g N N, vI (a : Int), vI (m : Int), vI (c : Int), .func (.func 33) #[] #[vP b3 0]] w fun e w' => ∃ y, e = .returned (.tuple #[]) ∧ (Pm a c x y ∧ (∀ p, y p = rot a m c x p)) ∧ HP (Ng g) w w' [.cel g (irow N y) 3] := by
  refine calls_of Try.func52 rfl (m := 58) rfl [(0, vS g N N), (1, vI (a : Int)), (2, vI (m : Int)), (3, vI (c : Int)), (4, .func (.func 33) #[] #[vP b3 0])] (Fr_enter [vS g N N, vI (a : Int), vI (m : Int), vI (c : Int), .func (.func 33) #[] #[vP b3 0]] 58 (Nat.le_of_ble_eq_true rfl)) ?_
  refine WC.seq fun K1 hK1 => ?_
  refine WC.region ?_
  refine WL.pure (v := vI (m : Int)) 12 rfl (Nat.le_of_ble_eq_true rfl) rfl rfl (by kernel_rfl) ?_
  refine WL.pure (v := vI (a : Int)) 13 rfl (Nat.le_of_ble_eq_true rfl) rfl rfl (by kernel_rfl) ?_
  refine WL.pure (v := vI ((m - a : Nat) : Int)) 14 rfl (Nat.le_of_ble_eq_true rfl) rfl rfl (x_sub (Z := ((m - a : Nat) : Int)) rfl rfl rfl (by omega) (by omega) (by omega)) ?_
  refine WL.pure (v := vI ((m - a : Nat) : Int)) 10 rfl (Nat.le_of_ble_eq_true rfl) rfl rfl (by kernel_rfl) ?_
  refine WL.nil ?_
  refine WQ.then ?_
  refine hK1 _ _ _ ?_
  refine WC.seq fun K2 hK2 => ?_
  refine WC.region ?_
  refine WL.pure (v := vI (c : Int)) 15 rfl (Nat.le_of_ble_eq_true rfl) rfl rfl (by kernel_rfl) ?_
  refine WL.pure (v := vI (m : Int)) 16 rfl (Nat.le_of_ble_eq_true rfl) rfl rfl (by kernel_rfl) ?_
  refine WL.pure (v := vI ((c - m : Nat) : Int)) 17 rfl (Nat.le_of_ble_eq_true rfl) rfl rfl (x_sub (Z := ((c - m : Nat) : Int)) rfl rfl rfl (by omega) (by omega) (by omega)) ?_
  refine WL.pure (v := vI ((c - m : Nat) : Int)) 11 rfl (Nat.le_of_ble_eq_true rfl) rfl rfl (by kernel_rfl) ?_
  refine WL.nil ?_
  refine WQ.then ?_
  refine hK2 _ _ _ ?_
  refine WC.sub (l' := [(0, vS g N N), (1, vI (a : Int)), (2, vI (m : Int)), (3, vI (c : Int)), (4, .func (.func 33) #[] #[vP b3 0]), (10, vI ((m - a : Nat) : Int)), (11, vI ((c - m : Nat) : Int))]) ⟨rfl, rfl, rfl, rfl, rfl, rfl, rfl, trivial⟩ ?_
  refine WC.seq fun K3 hK3 => ?_
  refine WC.block ?_
  refine WC.loop (fun kk0 ll0 ww0 => ∃ (i : Nat) (j : Nat) (y : Nat → Int), ll0 = [(0, vS g N N), (1, vI (a : Int)), (2, vI (m : Int)), (3, vI (c : Int)), (4, .func (.func 33) #[] #[vP b3 0]), (10, vI (i : Int)), (11, vI (j : Int))] ∧ kk0 = i + j ∧ (1 ≤ i) ∧ (1 ≤ j) ∧ (i ≤ m - a) ∧ (j ≤ c - m) ∧ (Pm a c x y) ∧ (∀ p, rot (m - i) m (m + j) y p = rot a m c x p) ∧ HP (Ng g) w ww0 [.cel g (irow N y) 3]) (m - a + (c - m)) [(0, vS g N N), (1, vI (a : Int)), (2, vI (m : Int)), (3, vI (c : Int)), (4, .func (.func 33) #[] #[vP b3 0]), (10, vI ((m - a : Nat) : Int)), (11, vI ((c - m : Nat) : Int))] ⟨rfl, rfl, rfl, rfl, rfl, rfl, rfl, trivial⟩ ⟨m - a, c - m, x, rfl, rfl, by omega, by omega, Nat.le_refl _, Nat.le_refl _, Pm.refl _ _ _, fun p => by rw [show m - (m - a) = a by omega, show m + (c - m) = c by omega], (ngB hB)⟩ ?_
  rintro kk l w5 ⟨i, j, y, rfl, hkk, hi, hj, hia, hjb, hP, hR, hH6⟩ K4 hK4
  refine WC.seq fun K7 hK7 => ?_
  refine WC.seq fun K8 hK8 => ?_
  refine WC.region ?_
  refine WL.pure (v := vI (i : Int)) 18 rfl (Nat.le_of_ble_eq_true rfl) rfl rfl (by kernel_rfl) ?_
  refine WL.pure (v := vI (j : Int)) 19 rfl (Nat.le_of_ble_eq_true rfl) rfl rfl (by kernel_rfl) ?_
  by_cases hne : (i : Int) ≠ (j : Int)
  ·
    refine WL.pure (v := .bool true) 20 rfl (Nat.le_of_ble_eq_true rfl) rfl rfl (x_neq rfl rfl rfl (dT (hne))) ?_
    refine WL.nil ?_
    refine WQ.then ?_
    refine hK8 _ _ _ ?_
    refine WC.yes rfl ?_
    refine WC.skip ?_
    refine WQ.then ?_
    refine hK7 _ _ _ ?_
    refine WC.block ?_
    refine WC.seq fun K9 hK9 => ?_
    refine WC.region ?_
    refine WL.pure (v := vI (i : Int)) 21 rfl (Nat.le_of_ble_eq_true rfl) rfl rfl (by kernel_rfl) ?_
    refine WL.pure (v := vI (j : Int)) 22 rfl (Nat.le_of_ble_eq_true rfl) rfl rfl (by kernel_rfl) ?_
    by_cases hgt : (j : Int) < (i : Int)
    ·
      refine WL.pure (v := .bool true) 23 rfl (Nat.le_of_ble_eq_true rfl) rfl rfl (x_gtr rfl rfl rfl (dT (hgt))) ?_
      refine WL.nil ?_
      refine WQ.then ?_
      refine hK9 _ _ _ ?_
      refine WC.yes rfl ?_
      refine WC.seq fun K10 hK10 => ?_
      refine WC.region ?_
      refine WL.pure (v := vS g N N) 24 rfl (Nat.le_of_ble_eq_true rfl) rfl rfl (by kernel_rfl) ?_
      refine WL.pure (v := vI (m : Int)) 25 rfl (Nat.le_of_ble_eq_true rfl) rfl rfl (by kernel_rfl) ?_
      refine WL.pure (v := vI (i : Int)) 26 rfl (Nat.le_of_ble_eq_true rfl) rfl rfl (by kernel_rfl) ?_
      refine WL.pure (v := vI ((m - i : Nat) : Int)) 27 rfl (Nat.le_of_ble_eq_true rfl) rfl rfl (x_sub (Z := ((m - i : Nat) : Int)) rfl rfl rfl (by omega) (by omega) (by omega)) ?_
      refine WL.pure (v := vI (m : Int)) 28 rfl (Nat.le_of_ble_eq_true rfl) rfl rfl (by kernel_rfl) ?_
      refine WL.pure (v := vI (j : Int)) 29 rfl (Nat.le_of_ble_eq_true rfl) rfl rfl (by kernel_rfl) ?_
      refine WL.pure (v := .func (.func 33) #[] #[vP b3 0]) 30 rfl (Nat.le_of_ble_eq_true rfl) rfl rfl (by kernel_rfl) ?_
      refine WL.call (f := 53) (args := #[vS g N N, vI ((m - i : Nat) : Int), vI (m : Int), vI (j : Int), .func (.func 33) #[] #[vP b3 0]]) 31 rfl (Nat.le_of_ble_eq_true rfl) rfl rfl (by kernel_rfl) ?_
      refine (swapR_any g b3 nq N y (m - i) (m) (j) _ (HP.ownB (A := []) hH6) hN4 (by omega) (by omega)).mono ?_
      rintro e w11 ⟨y2, rfl, ⟨hP3, hS3⟩, hb4⟩
      refine ⟨_, rfl, ?_⟩
      have hH12 : HP (Ng g) w _ [.cel g (irow N y2) 3] := (seqN hH6 hb4)
      refine WL.nil ?_
      refine WQ.then ?_
      refine hK10 _ _ _ ?_
      refine WC.sub (l' := [(0, vS g N N), (1, vI (a : Int)), (2, vI (m : Int)), (3, vI (c : Int)), (4, .func (.func 33) #[] #[vP b3 0]), (10, vI (i : Int)), (11, vI (j : Int)), (20, .bool true), (23, .bool true)]) ⟨rfl, rfl, rfl, rfl, rfl, rfl, rfl, rfl, rfl, trivial⟩ ?_
      refine WC.region ?_
      refine WL.pure (v := vI (i : Int)) 32 rfl (Nat.le_of_ble_eq_true rfl) rfl rfl (by kernel_rfl) ?_
      refine WL.pure (v := vI (j : Int)) 33 rfl (Nat.le_of_ble_eq_true rfl) rfl rfl (by kernel_rfl) ?_
      refine WL.pure (v := vI ((i - j : Nat) : Int)) 34 rfl (Nat.le_of_ble_eq_true rfl) rfl rfl (x_sub (Z := ((i - j : Nat) : Int)) rfl rfl rfl (by omega) (by omega) (by omega)) ?_
      refine WL.pure (v := vI ((i - j : Nat) : Int)) 10 rfl (Nat.le_of_ble_eq_true rfl) rfl rfl (by kernel_rfl) ?_
      refine WL.nil ?_
      refine WQ.inNormal ?_
      refine WQ.sub (l' := [(0, vS g N N), (1, vI (a : Int)), (2, vI (m : Int)), (3, vI (c : Int)), (4, .func (.func 33) #[] #[vP b3 0]), (10, vI ((i - j : Nat) : Int)), (11, vI (j : Int))]) ⟨rfl, rfl, rfl, rfl, rfl, rfl, rfl, trivial⟩ ?_
      refine WQ.then (hK4 _ _ _ (by omega) ⟨i - j, j, y2, rfl, rfl, by omega, hj, by omega, hjb, hP.trans (hP3.mono (by omega) (by omega)), fun p => (rot_gt (by omega) (by omega) hS3 p).trans (hR p), hH12⟩)
    ·
      refine WL.pure (v := .bool false) 23 rfl (Nat.le_of_ble_eq_true rfl) rfl rfl (x_gtr rfl rfl rfl (dF (hgt))) ?_
      refine WL.nil ?_
      refine WQ.then ?_
      refine hK9 _ _ _ ?_
      refine WC.no rfl ?_
      refine WC.seq fun K13 hK13 => ?_
      refine WC.region ?_
      refine WL.pure (v := vS g N N) 35 rfl (Nat.le_of_ble_eq_true rfl) rfl rfl (by kernel_rfl) ?_
      refine WL.pure (v := vI (m : Int)) 36 rfl (Nat.le_of_ble_eq_true rfl) rfl rfl (by kernel_rfl) ?_
      refine WL.pure (v := vI (i : Int)) 37 rfl (Nat.le_of_ble_eq_true rfl) rfl rfl (by kernel_rfl) ?_
      refine WL.pure (v := vI ((m - i : Nat) : Int)) 38 rfl (Nat.le_of_ble_eq_true rfl) rfl rfl (x_sub (Z := ((m - i : Nat) : Int)) rfl rfl rfl (by omega) (by omega) (by omega)) ?_
      refine WL.pure (v := vI (m : Int)) 39 rfl (Nat.le_of_ble_eq_true rfl) rfl rfl (by kernel_rfl) ?_
      refine WL.pure (v := vI (j : Int)) 40 rfl (Nat.le_of_ble_eq_true rfl) rfl rfl (by kernel_rfl) ?_
      refine WL.pure (v := vI ((m + j : Nat) : Int)) 41 rfl (Nat.le_of_ble_eq_true rfl) rfl rfl (x_add (Z := ((m + j : Nat) : Int)) rfl rfl rfl (by omega) (by omega) (by omega)) ?_
      refine WL.pure (v := vI (i : Int)) 42 rfl (Nat.le_of_ble_eq_true rfl) rfl rfl (by kernel_rfl) ?_
      refine WL.pure (v := vI ((m + j - i : Nat) : Int)) 43 rfl (Nat.le_of_ble_eq_true rfl) rfl rfl (x_sub (Z := ((m + j - i : Nat) : Int)) rfl rfl rfl (by omega) (by omega) (by omega)) ?_
      refine WL.pure (v := vI (i : Int)) 44 rfl (Nat.le_of_ble_eq_true rfl) rfl rfl (by kernel_rfl) ?_
      refine WL.pure (v := .func (.func 33) #[] #[vP b3 0]) 45 rfl (Nat.le_of_ble_eq_true rfl) rfl rfl (by kernel_rfl) ?_
      refine WL.call (f := 53) (args := #[vS g N N, vI ((m - i : Nat) : Int), vI ((m + j - i : Nat) : Int), vI (i : Int), .func (.func 33) #[] #[vP b3 0]]) 46 rfl (Nat.le_of_ble_eq_true rfl) rfl rfl (by kernel_rfl) ?_
      refine (swapR_any g b3 nq N y (m - i) (m + j - i) (i) _ (HP.ownB (A := []) hH6) hN4 (by omega) (by omega)).mono ?_
      rintro e w14 ⟨y2, rfl, ⟨hP3, hS3⟩, hb4⟩
      refine ⟨_, rfl, ?_⟩
      have hH15 : HP (Ng g) w _ [.cel g (irow N y2) 3] := (seqN hH6 hb4)
      refine WL.nil ?_
      refine WQ.then ?_
      refine hK13 _ _ _ ?_
      refine WC.sub (l' := [(0, vS g N N), (1, vI (a : Int)), (2, vI (m : Int)), (3, vI (c : Int)), (4, .func (.func 33) #[] #[vP b3 0]), (10, vI (i : Int)), (11, vI (j : Int)), (20, .bool true), (23, .bool false)]) ⟨rfl, rfl, rfl, rfl, rfl, rfl, rfl, rfl, rfl, trivial⟩ ?_
      refine WC.region ?_
      refine WL.pure (v := vI (j : Int)) 47 rfl (Nat.le_of_ble_eq_true rfl) rfl rfl (by kernel_rfl) ?_
      refine WL.pure (v := vI (i : Int)) 48 rfl (Nat.le_of_ble_eq_true rfl) rfl rfl (by kernel_rfl) ?_
      refine WL.pure (v := vI ((j - i : Nat) : Int)) 49 rfl (Nat.le_of_ble_eq_true rfl) rfl rfl (x_sub (Z := ((j - i : Nat) : Int)) rfl rfl rfl (by omega) (by omega) (by omega)) ?_
      refine WL.pure (v := vI ((j - i : Nat) : Int)) 11 rfl (Nat.le_of_ble_eq_true rfl) rfl rfl (by kernel_rfl) ?_
      refine WL.nil ?_
      refine WQ.inNormal ?_
      refine WQ.sub (l' := [(0, vS g N N), (1, vI (a : Int)), (2, vI (m : Int)), (3, vI (c : Int)), (4, .func (.func 33) #[] #[vP b3 0]), (10, vI (i : Int)), (11, vI ((j - i : Nat) : Int))]) ⟨rfl, rfl, rfl, rfl, rfl, rfl, rfl, trivial⟩ ?_
      refine WQ.then (hK4 _ _ _ (by omega) ⟨i, j - i, y2, rfl, rfl, hi, by omega, hia, by omega, hP.trans (hP3.mono (by omega) (by omega)), fun p => (rot_lt (by omega) (by omega) hS3 p).trans (hR p), hH15⟩)
  ·
    refine WL.pure (v := .bool false) 20 rfl (Nat.le_of_ble_eq_true rfl) rfl rfl (x_neq rfl rfl rfl (dF (hne))) ?_
    refine WL.nil ?_
    refine WQ.then ?_
    refine hK8 _ _ _ ?_
    refine WC.no rfl ?_
    refine WC.exit ?_
    refine WQ.thenExit ?_
    refine WQ.thenExit ?_
    refine WQ.inExit ?_
    refine WQ.then ?_
    refine hK3 _ _ _ ?_
    refine WC.region ?_
    refine WL.pure (v := vS g N N) 50 rfl (Nat.le_of_ble_eq_true rfl) rfl rfl (by kernel_rfl) ?_
    refine WL.pure (v := vI (m : Int)) 51 rfl (Nat.le_of_ble_eq_true rfl) rfl rfl (by kernel_rfl) ?_
    refine WL.pure (v := vI (i : Int)) 52 rfl (Nat.le_of_ble_eq_true rfl) rfl rfl (by kernel_rfl) ?_
    refine WL.pure (v := vI ((m - i : Nat) : Int)) 53 rfl (Nat.le_of_ble_eq_true rfl) rfl rfl (x_sub (Z := ((m - i : Nat) : Int)) rfl rfl rfl (by omega) (by omega) (by omega)) ?_
    refine WL.pure (v := vI (m : Int)) 54 rfl (Nat.le_of_ble_eq_true rfl) rfl rfl (by kernel_rfl) ?_
    refine WL.pure (v := vI (i : Int)) 55 rfl (Nat.le_of_ble_eq_true rfl) rfl rfl (by kernel_rfl) ?_
    refine WL.pure (v := .func (.func 33) #[] #[vP b3 0]) 56 rfl (Nat.le_of_ble_eq_true rfl) rfl rfl (by kernel_rfl) ?_
    refine WL.call (f := 53) (args := #[vS g N N, vI ((m - i : Nat) : Int), vI (m : Int), vI (i : Int), .func (.func 33) #[] #[vP b3 0]]) 57 rfl (Nat.le_of_ble_eq_true rfl) rfl rfl (by kernel_rfl) ?_
    refine (swapR_any g b3 nq N y (m - i) (m) (i) _ (HP.ownB (A := []) hH6) hN4 (by omega) (by omega)).mono ?_
    rintro e w16 ⟨y2, rfl, ⟨hP3, hS3⟩, hb4⟩
    refine ⟨_, rfl, ?_⟩
    have hH17 : HP (Ng g) w _ [.cel g (irow N y2) 3] := (seqN hH6 hb4)
    refine WL.nil ?_
    refine WQ.end0 rfl ?_
    have hij : i = j := by omega
    exact ⟨y2, rfl, ⟨hP.trans (hP3.mono (by omega) (by omega)), fun p => by rw [hS3 p, rot_eq (by omega) p, ← hR p, hij]⟩, hH17⟩
end Bs
end Go.Proofs.Yteckbfebemofmaa
