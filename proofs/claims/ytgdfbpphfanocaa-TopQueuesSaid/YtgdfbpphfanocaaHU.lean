/- The queue whole, and the log. -/
import Derived.Test.YtgdfbpphfanocaaHQ
set_option linter.unusedVariables false
set_option linter.unusedSimpArgs false
namespace Go.Proofs.Ytgdfbpphfanocaa
open Go.RowKit Fw
namespace Qu
open Lc (wd isWord_wd)
open Lb (infoI row_len row_cases row_src row_cap own_row lit1)
section
variable {P : Program} {ops : Array Oper} {Q : Exit → Act → World → Prop} {rest : List Oper} {n : Nat} {l : List (Nat × Value)} {w w0 : World} {S : Nat → Prop} {H : List Ent}
end
end Qu
namespace Fw
open Qu
open Lc (wd isWord_wd)
open Lb (infoI row_len row_cases row_src row_cap own_row lit1)
section
variable {P : Program} {ops : Array Oper} {Q : Exit → Act → World → Prop} {rest : List Oper} {n : Nat} {l : List (Nat × Value)} {w w0 : World} {S : Nat → Prop} {H : List Ent}
theorem WL.makeI {o : Oper} {t : TypeId} {inf : TypeInfo} {k : Nat} {x y : Operand} {N : Int} (hH : HP S w0 w H) (d : Nat) (hd : o.dst = some d) (hn : d < n) (hw : wants ops l o = some true)
    (ho : o.op = .makeSlice t x y) (hx : ev l x = some (.int .i64 N)) (hy : ev l y = some (.int .i64 N)) (hN : N = (k : Int))
    (ht : P.underlying t = some (.slice 3)) (hi' : P.info? 3 = some inf) (hz : inf.zero = some (.int .i64 0)) (hsz : inf.size = 1) (hby : inf.bytes = 8) (hk : k ≤ 100000)
    (h : ∀ g w2, w0.heap.size ≤ g → HP S w0 w2 (H ++ [.cel g (irow k fun _ => 0) 3]) → WL P ops Q rest n ((d, .slice (some ⟨g, 0, none⟩) k k) :: l) w2) : WL P ops Q (o :: rest) n l w := by
  intro a ha
  refine wpList_step fun K hK => ?_
  rw [if_pos (wants_spec ha hw)]
  unfold Oper.wp
  subst hN
  have hr := run_make (P := P) w t 3 inf (.int .i64 0) ht hi' hz .i64 .i64 (k : Int) (k : Int) (by omega) (Int.le_refl _) (by rw [hby]; omega) (by omega)
  rw [x_makeR (P := P) ho (ha.ev hx) (ha.ev hy) hr, Oper.upon_value, hd]
  simp only [Int.toNat_natCast]
  refine hK _ _ (h _ _ hH.size ?_ _ (ha.put hn _))
  have e : madeCells (Value.int .i64 0).cells (k * inf.size) = irow k (fun _ => 0) := by rw [hsz]; exact irow_made k
  have q := HP.alloc hH (irow k fun _ => 0) 3
  rw [e]
  exact q
end
end Fw
namespace Qu
open Lc (wd isWord_wd)
open Lb (infoI row_len row_cases row_src row_cap own_row lit1)
section
variable {P : Program} {ops : Array Oper} {Q : Exit → Act → World → Prop} {rest : List Oper} {n : Nat} {l : List (Nat × Value)} {w w0 : World} {S : Nat → Prop} {H : List Ent}
end
set_option maxRecDepth 20000 in
set_option maxHeartbeats 4000000 in
theorem New_any (m : Int) (w : World) :
    Calls Try.prog 70 #[vI m] w fun e w' => (¬ (1 ≤ m ∧ m ≤ 8) ∧ e = .returned (.tuple #[.pointer none, vI 1]) ∧ Below w.heap.size w w') ∨ ((1 ≤ m ∧ m ≤ 8) ∧ ∃ q c, e = .returned (.tuple #[vP q 0, vI 0]) ∧ HP Tr w w' (QB q c (m.toNat + 1) (fun _ => 0) 0 0 0 0 0 0)) := by
  refine calls_of Try.func70 rfl (m := 15) rfl [(0, vI m)] (Fr_enter [vI m] 15 (Nat.le_of_ble_eq_true rfl)) ?_
  have hH1 : HP Tr w w [] := HP.refl w
  refine WC.seq fun K2 hK2 => ?_
  refine WC.region ?_
  refine WL.pure (v := .pointer none) 2 rfl (Nat.le_of_ble_eq_true rfl) rfl rfl (by kernel_rfl) ?_
  refine WL.pure (v := vI 0) 3 rfl (Nat.le_of_ble_eq_true rfl) rfl rfl (by kernel_rfl) ?_
  refine WL.nil ?_
  refine WQ.then ?_
  refine hK2 _ _ _ ?_
  refine WC.seq fun K3 hK3 => ?_
  refine WC.seq fun K4 hK4 => ?_
  refine WC.region ?_
  refine WL.pure (v := vI m) 4 rfl (Nat.le_of_ble_eq_true rfl) rfl rfl (by kernel_rfl) ?_
  by_cases h1 : m < 1
  ·
    refine WL.pure (v := .bool true) 5 rfl (Nat.le_of_ble_eq_true rfl) rfl rfl (x_lss rfl rfl rfl (dT (h1))) ?_
    refine WL.pure (v := .bool true) 6 rfl (Nat.le_of_ble_eq_true rfl) rfl rfl (by kernel_rfl) ?_
    refine WL.pass 7 rfl (Nat.le_of_ble_eq_true rfl) rfl ?_
    refine WL.pass 8 rfl (Nat.le_of_ble_eq_true rfl) rfl ?_
    refine WL.pure (v := .bool true) 9 rfl (Nat.le_of_ble_eq_true rfl) rfl rfl (by kernel_rfl) ?_
    refine WL.nil ?_
    refine WQ.then ?_
    refine hK4 _ _ _ ?_
    refine WC.yes rfl ?_
    refine WC.seq fun K5 hK5 => ?_
    refine WC.region ?_
    refine WL.pure (v := .pointer none) 2 rfl (Nat.le_of_ble_eq_true rfl) rfl rfl (by kernel_rfl) ?_
    refine WL.pure (v := vI 1) 3 rfl (Nat.le_of_ble_eq_true rfl) rfl rfl (by kernel_rfl) ?_
    refine WL.nil ?_
    refine WQ.then ?_
    refine hK5 _ _ _ ?_
    refine WC.sub (l' := [(0, vI m), (2, .pointer none), (3, vI 1), (9, .bool true)]) ⟨rfl, rfl, rfl, rfl, trivial⟩ ?_
    refine WC.ret ?_
    refine WQ.thenRet ?_
    refine WQ.ret2 2 3 rfl rfl rfl ?_
    exact .inl ⟨by omega, rfl, HP.below hH1⟩
  ·
    refine WL.pure (v := .bool false) 5 rfl (Nat.le_of_ble_eq_true rfl) rfl rfl (x_lss rfl rfl rfl (dF (h1))) ?_
    refine WL.pure (v := .bool false) 6 rfl (Nat.le_of_ble_eq_true rfl) rfl rfl (by kernel_rfl) ?_
    refine WL.pure (v := vI m) 7 rfl (Nat.le_of_ble_eq_true rfl) rfl rfl (by kernel_rfl) ?_
    by_cases h2 : (8 : Int) < m
    ·
      refine WL.pure (v := .bool true) 8 rfl (Nat.le_of_ble_eq_true rfl) rfl rfl (x_gtr rfl rfl rfl (dT (h2))) ?_
      refine WL.pure (v := .bool true) 9 rfl (Nat.le_of_ble_eq_true rfl) rfl rfl (by kernel_rfl) ?_
      refine WL.nil ?_
      refine WQ.then ?_
      refine hK4 _ _ _ ?_
      refine WC.yes rfl ?_
      refine WC.seq fun K6 hK6 => ?_
      refine WC.region ?_
      refine WL.pure (v := .pointer none) 2 rfl (Nat.le_of_ble_eq_true rfl) rfl rfl (by kernel_rfl) ?_
      refine WL.pure (v := vI 1) 3 rfl (Nat.le_of_ble_eq_true rfl) rfl rfl (by kernel_rfl) ?_
      refine WL.nil ?_
      refine WQ.then ?_
      refine hK6 _ _ _ ?_
      refine WC.sub (l' := [(0, vI m), (2, .pointer none), (3, vI 1), (9, .bool true)]) ⟨rfl, rfl, rfl, rfl, trivial⟩ ?_
      refine WC.ret ?_
      refine WQ.thenRet ?_
      refine WQ.ret2 2 3 rfl rfl rfl ?_
      exact .inl ⟨by omega, rfl, HP.below hH1⟩
    ·
      refine WL.pure (v := .bool false) 8 rfl (Nat.le_of_ble_eq_true rfl) rfl rfl (x_gtr rfl rfl rfl (dF (h2))) ?_
      refine WL.pure (v := .bool false) 9 rfl (Nat.le_of_ble_eq_true rfl) rfl rfl (by kernel_rfl) ?_
      refine WL.nil ?_
      refine WQ.then ?_
      refine hK4 _ _ _ ?_
      refine WC.no rfl ?_
      refine WC.skip ?_
      refine WQ.then ?_
      refine hK3 _ _ _ ?_
      refine WC.seq fun K7 hK7 => ?_
      refine WC.region ?_
      refine WL.pure (v := vI m) 10 rfl (Nat.le_of_ble_eq_true rfl) rfl rfl (by kernel_rfl) ?_
      refine WL.pure (v := vI ((m.toNat + 1 : Nat) : Int)) 11 rfl (Nat.le_of_ble_eq_true rfl) rfl rfl (x_add (Z := ((m.toNat + 1 : Nat) : Int)) rfl rfl rfl (by omega) (by omega) (by omega)) ?_
      obtain ⟨i0, hi0, hz0, hz1, hz2⟩ := infoI
      refine WL.makeI (k := m.toNat + 1) hH1 12 rfl (by decide) rfl rfl rfl rfl (by omega) Try.underlying58 hi0 hz0 hz1 hz2 (by omega) ?_
      rintro c w9 - hH8
      have hH10 : HP Tr w _ [.cel c (irow (m.toNat + 1) (fun _ => 0)) 3] := hH8
      refine WL.pure (v := .agg #[vS c (m.toNat + 1) (m.toNat + 1), vI 0, vI 0, vI 0, vI 0, vI 0, vI 0]) 13 rfl (Nat.le_of_ble_eq_true rfl) rfl rfl (by kernel_rfl) ?_
      refine WL.alloc (c := #[vS c (m.toNat + 1) (m.toNat + 1), vI 0, vI 0, vI 0, vI 0, vI 0, vI 0]) (T := 129) hH10 14 rfl (by decide) rfl rfl (fun bq => vP bq 0) (by kernel_rfl) (fun bq w11 hw11 => ?_)
      have hH12 : HP Tr w w11 [.cel c (irow (m.toNat + 1) (fun _ => 0)) 3, .cel bq #[vS c (m.toNat + 1) (m.toNat + 1), vI 0, vI 0, vI 0, vI 0, vI 0, vI 0] 129] := hw11.2
      have nbq := hw11.1
      clear hw11
      refine WL.pure (v := vP bq 0) 2 rfl (Nat.le_of_ble_eq_true rfl) rfl rfl (by kernel_rfl) ?_
      refine WL.pure (v := vI 0) 3 rfl (Nat.le_of_ble_eq_true rfl) rfl rfl (by kernel_rfl) ?_
      refine WL.nil ?_
      refine WQ.then ?_
      refine hK7 _ _ _ ?_
      refine WC.sub (l' := [(0, vI m), (2, vP bq 0), (3, vI 0), (9, .bool false)]) ⟨rfl, rfl, rfl, rfl, trivial⟩ ?_
      refine WC.ret ?_
      refine WQ.ret2 2 3 rfl rfl rfl ?_
      exact .inr ⟨by omega, bq, c, rfl, HP.flip (A := [.cel c (irow (m.toNat + 1) (fun _ => 0)) 3]) (B := [.cel bq #[vS c (m.toNat + 1) (m.toNat + 1), vI 0, vI 0, vI 0, vI 0, vI 0, vI 0] 129]) hH12⟩
set_option maxRecDepth 20000 in
set_option maxHeartbeats 4000000 in
theorem Put_ok (q c n : Nat) (C : Nat → Int) (h t k : Nat) (wo tk : Int) (t2 : Nat) (y : Int) (w : World) (hB : OwnB w (QB q c n C h t 0 k wo tk)) (hn : 2 ≤ n ∧ n ≤ 9) (hh : h < n) (ht : t < n) (hy : wd y = true) (hf : (t + 1) % n = t2) (hr : t2 ≠ h) :
    Calls Try.prog 71 #[vP q 0, vI y] w fun e w' => e = .returned (.tuple #[.bool true, vI 0]) ∧ HP (Out (QB q c n C h t 0 k wo tk)) w w' (QB q c n (upI C t y) h t2 0 k y tk) := by
  refine calls_of Try.func71 rfl (m := 24) rfl [(0, vP q 0), (1, vI y)] (Fr_enter [vP q 0, vI y] 24 (Nat.le_of_ble_eq_true rfl)) ?_
  refine WC.seq fun K1 hK1 => ?_
  refine WC.region ?_
  refine WL.pure (v := .bool false) 4 rfl (Nat.le_of_ble_eq_true rfl) rfl rfl (by kernel_rfl) ?_
  refine WL.pure (v := vI 0) 5 rfl (Nat.le_of_ble_eq_true rfl) rfl rfl (by kernel_rfl) ?_
  refine WL.nil ?_
  refine WQ.then ?_
  refine hK1 _ _ _ ?_
  refine WC.seq fun K2 hK2 => ?_
  refine WC.seq fun K3 hK3 => ?_
  refine WC.region ?_
  refine WL.pure (v := vP q 0) 10 rfl (Nat.le_of_ble_eq_true rfl) rfl rfl (by kernel_rfl) ?_
  refine WL.pure (v := vI y) 11 rfl (Nat.le_of_ble_eq_true rfl) rfl rfl (by kernel_rfl) ?_
  refine WL.call (f := 78) (args := #[vP q 0, vI y]) 12 rfl (Nat.le_of_ble_eq_true rfl) rfl rfl (by kernel_rfl) ?_
  refine (BeginPut_any q c n C h t k wo tk y _ (HP.ownB (A := []) (HP.startB hB)) hn hh ht hy).mono ?_
  rintro e w4 ⟨rfl, hb4⟩
  refine ⟨_, rfl, ?_⟩
  have hF := HP.exch (A := []) (HP.startB hB) hb4
  have hH4 : HP (Out (QB q c n C h t 0 k wo tk)) w _ [.cel q #[.slice (some ⟨c, 0, none⟩) n n, vI (h : Int), vI (t : Int), vI 1, vI (k : Int), vI y, vI tk] 129, .cel c (irow n C) 3] := hF
  refine WL.pure (v := vI 0) 6 rfl (Nat.le_of_ble_eq_true rfl) rfl rfl (by kernel_rfl) ?_
  refine WL.nil ?_
  refine WQ.then ?_
  refine hK3 _ _ _ ?_
  refine WC.seq fun K5 hK5 => ?_
  refine WC.region ?_
  refine WL.pure (v := vI 0) 13 rfl (Nat.le_of_ble_eq_true rfl) rfl rfl (by kernel_rfl) ?_
  refine WL.pure (v := .bool false) 14 rfl (Nat.le_of_ble_eq_true rfl) rfl rfl (x_neq rfl rfl rfl (by decide)) ?_
  refine WL.nil ?_
  refine WQ.then ?_
  refine hK5 _ _ _ ?_
  refine WC.no rfl ?_
  refine WC.skip ?_
  refine WQ.then ?_
  refine hK2 _ _ _ ?_
  refine WC.block ?_
  refine WC.loop (fun kk0 ll0 ww0 => (kk0 = 3 ∧ ll0 = [(0, vP q 0), (4, .bool false), (5, vI 0)] ∧ HP (Out (QB q c n C h t 0 k wo tk)) w ww0 [.cel q #[.slice (some ⟨c, 0, none⟩) n n, vI (h : Int), vI (t : Int), vI 1, vI (k : Int), vI y, vI tk] 129, .cel c (irow n C) 3]) ∨ (kk0 = 2 ∧ ll0 = [(0, vP q 0), (4, .bool false), (5, vI 0)] ∧ HP (Out (QB q c n C h t 0 k wo tk)) w ww0 [.cel q #[.slice (some ⟨c, 0, none⟩) n n, vI (h : Int), vI (t : Int), vI 2, vI (k : Int), vI y, vI tk] 129, .cel c (irow n C) 3]) ∨ (kk0 = 1 ∧ ll0 = [(0, vP q 0), (4, .bool false), (5, vI 0)] ∧ HP (Out (QB q c n C h t 0 k wo tk)) w ww0 [.cel q #[.slice (some ⟨c, 0, none⟩) n n, vI (h : Int), vI (t : Int), vI 3, vI (k : Int), vI y, vI tk] 129, .cel c (irow n (upI C t y)) 3])) 3 [(0, vP q 0), (4, .bool false), (5, vI 0)] ⟨rfl, rfl, rfl, trivial⟩ (.inl (⟨rfl, rfl, hH4⟩)) ?_
  rintro kk ll w3 (⟨hkk, rfl, hH3⟩ | ⟨hkk, rfl, hH3⟩ | ⟨hkk, rfl, hH3⟩) K3 hK3
  ·
    refine WC.block ?_
    refine WC.seq fun K6 hK6 => ?_
    refine WC.region ?_
    refine WL.pure (v := vP q 0) 17 rfl (Nat.le_of_ble_eq_true rfl) rfl rfl (by kernel_rfl) ?_
    refine WL.call (f := 79) (args := #[vP q 0]) 18 rfl (Nat.le_of_ble_eq_true rfl) rfl rfl (by kernel_rfl) ?_
    refine (StepPut_1r q c n C h t k y tk t2 _ (HP.ownB (A := []) hH3) hn hh ht hf hr).mono ?_
    rintro e w4 ⟨rfl, hb4⟩
    refine ⟨_, rfl, ?_⟩
    have hF := HP.exch (A := []) hH3 hb4
    have hH7 : HP (Out (QB q c n C h t 0 k wo tk)) w _ [.cel q #[.slice (some ⟨c, 0, none⟩) n n, vI (h : Int), vI (t : Int), vI 2, vI (k : Int), vI y, vI tk] 129, .cel c (irow n C) 3] := hF
    refine WL.pure (v := .tuple #[.bool false, .bool false, vI 0]) 16 rfl (Nat.le_of_ble_eq_true rfl) rfl rfl (by kernel_rfl) ?_
    refine WL.pure (v := .bool false) 19 rfl (Nat.le_of_ble_eq_true rfl) rfl rfl (by kernel_rfl) ?_
    refine WL.pure (v := .bool false) 20 rfl (Nat.le_of_ble_eq_true rfl) rfl rfl (by kernel_rfl) ?_
    refine WL.pure (v := vI 0) 21 rfl (Nat.le_of_ble_eq_true rfl) rfl rfl (by kernel_rfl) ?_
    refine WL.pure (v := .bool false) 7 rfl (Nat.le_of_ble_eq_true rfl) rfl rfl (by kernel_rfl) ?_
    refine WL.pure (v := .bool false) 8 rfl (Nat.le_of_ble_eq_true rfl) rfl rfl (by kernel_rfl) ?_
    refine WL.pure (v := vI 0) 9 rfl (Nat.le_of_ble_eq_true rfl) rfl rfl (by kernel_rfl) ?_
    refine WL.nil ?_
    refine WQ.then ?_
    refine hK6 _ _ _ ?_
    refine WC.sub (l' := [(0, vP q 0), (4, .bool false), (5, vI 0), (7, .bool false), (8, .bool false)]) ⟨rfl, rfl, rfl, rfl, rfl, trivial⟩ ?_
    refine WC.seq fun K8 hK8 => ?_
    refine WC.region ?_
    refine WL.pure (v := .bool false) 22 rfl (Nat.le_of_ble_eq_true rfl) rfl rfl (by kernel_rfl) ?_
    refine WL.nil ?_
    refine WQ.then ?_
    refine hK8 _ _ _ ?_
    refine WC.no rfl ?_
    refine WC.skip ?_
    refine WQ.inNormal ?_
    refine WQ.sub (l' := [(0, vP q 0), (4, .bool false), (5, vI 0)]) ⟨rfl, rfl, rfl, trivial⟩ ?_
    refine WQ.then (hK3 2 _ _ (by omega) (.inr (.inl (⟨rfl, rfl, hH7⟩))))
  ·
    refine WC.block ?_
    refine WC.seq fun K9 hK9 => ?_
    refine WC.region ?_
    refine WL.pure (v := vP q 0) 17 rfl (Nat.le_of_ble_eq_true rfl) rfl rfl (by kernel_rfl) ?_
    refine WL.call (f := 79) (args := #[vP q 0]) 18 rfl (Nat.le_of_ble_eq_true rfl) rfl rfl (by kernel_rfl) ?_
    refine (StepPut_2 q c n C h t k y tk _ (HP.ownB (A := []) hH3) hn hh ht).mono ?_
    rintro e w4 ⟨rfl, hb4⟩
    refine ⟨_, rfl, ?_⟩
    have hF := HP.exch (A := []) hH3 hb4
    have hH10 : HP (Out (QB q c n C h t 0 k wo tk)) w _ [.cel q #[.slice (some ⟨c, 0, none⟩) n n, vI (h : Int), vI (t : Int), vI 3, vI (k : Int), vI y, vI tk] 129, .cel c (irow n (upI C t y)) 3] := hF
    refine WL.pure (v := .tuple #[.bool false, .bool false, vI 0]) 16 rfl (Nat.le_of_ble_eq_true rfl) rfl rfl (by kernel_rfl) ?_
    refine WL.pure (v := .bool false) 19 rfl (Nat.le_of_ble_eq_true rfl) rfl rfl (by kernel_rfl) ?_
    refine WL.pure (v := .bool false) 20 rfl (Nat.le_of_ble_eq_true rfl) rfl rfl (by kernel_rfl) ?_
    refine WL.pure (v := vI 0) 21 rfl (Nat.le_of_ble_eq_true rfl) rfl rfl (by kernel_rfl) ?_
    refine WL.pure (v := .bool false) 7 rfl (Nat.le_of_ble_eq_true rfl) rfl rfl (by kernel_rfl) ?_
    refine WL.pure (v := .bool false) 8 rfl (Nat.le_of_ble_eq_true rfl) rfl rfl (by kernel_rfl) ?_
    refine WL.pure (v := vI 0) 9 rfl (Nat.le_of_ble_eq_true rfl) rfl rfl (by kernel_rfl) ?_
    refine WL.nil ?_
    refine WQ.then ?_
    refine hK9 _ _ _ ?_
    refine WC.sub (l' := [(0, vP q 0), (4, .bool false), (5, vI 0), (7, .bool false), (8, .bool false)]) ⟨rfl, rfl, rfl, rfl, rfl, trivial⟩ ?_
    refine WC.seq fun K11 hK11 => ?_
    refine WC.region ?_
    refine WL.pure (v := .bool false) 22 rfl (Nat.le_of_ble_eq_true rfl) rfl rfl (by kernel_rfl) ?_
    refine WL.nil ?_
    refine WQ.then ?_
    refine hK11 _ _ _ ?_
    refine WC.no rfl ?_
    refine WC.skip ?_
    refine WQ.inNormal ?_
    refine WQ.sub (l' := [(0, vP q 0), (4, .bool false), (5, vI 0)]) ⟨rfl, rfl, rfl, trivial⟩ ?_
    refine WQ.then (hK3 1 _ _ (by omega) (.inr (.inr ((⟨rfl, rfl, hH10⟩)))))
  ·
    refine WC.block ?_
    refine WC.seq fun K12 hK12 => ?_
    refine WC.region ?_
    refine WL.pure (v := vP q 0) 17 rfl (Nat.le_of_ble_eq_true rfl) rfl rfl (by kernel_rfl) ?_
    refine WL.call (f := 79) (args := #[vP q 0]) 18 rfl (Nat.le_of_ble_eq_true rfl) rfl rfl (by kernel_rfl) ?_
    refine (StepPut_3 q c n (upI C t y) h t k y tk t2 _ (HP.ownB (A := []) hH3) hn hh ht hf).mono ?_
    rintro e w4 ⟨rfl, hb4⟩
    refine ⟨_, rfl, ?_⟩
    have hF := HP.exch (A := []) hH3 hb4
    have hH13 : HP (Out (QB q c n C h t 0 k wo tk)) w _ [.cel q #[.slice (some ⟨c, 0, none⟩) n n, vI (h : Int), vI (t2 : Int), vI 0, vI (k : Int), vI y, vI tk] 129, .cel c (irow n (upI C t y)) 3] := hF
    refine WL.pure (v := .tuple #[.bool true, .bool true, vI 0]) 16 rfl (Nat.le_of_ble_eq_true rfl) rfl rfl (by kernel_rfl) ?_
    refine WL.pure (v := .bool true) 19 rfl (Nat.le_of_ble_eq_true rfl) rfl rfl (by kernel_rfl) ?_
    refine WL.pure (v := .bool true) 20 rfl (Nat.le_of_ble_eq_true rfl) rfl rfl (by kernel_rfl) ?_
    refine WL.pure (v := vI 0) 21 rfl (Nat.le_of_ble_eq_true rfl) rfl rfl (by kernel_rfl) ?_
    refine WL.pure (v := .bool true) 7 rfl (Nat.le_of_ble_eq_true rfl) rfl rfl (by kernel_rfl) ?_
    refine WL.pure (v := .bool true) 8 rfl (Nat.le_of_ble_eq_true rfl) rfl rfl (by kernel_rfl) ?_
    refine WL.pure (v := vI 0) 9 rfl (Nat.le_of_ble_eq_true rfl) rfl rfl (by kernel_rfl) ?_
    refine WL.nil ?_
    refine WQ.then ?_
    refine hK12 _ _ _ ?_
    refine WC.sub (l' := [(0, vP q 0), (4, .bool false), (5, vI 0), (7, .bool true), (8, .bool true)]) ⟨rfl, rfl, rfl, rfl, rfl, trivial⟩ ?_
    refine WC.seq fun K14 hK14 => ?_
    refine WC.region ?_
    refine WL.pure (v := .bool true) 22 rfl (Nat.le_of_ble_eq_true rfl) rfl rfl (by kernel_rfl) ?_
    refine WL.nil ?_
    refine WQ.then ?_
    refine hK14 _ _ _ ?_
    refine WC.yes rfl ?_
    refine WC.seq fun K15 hK15 => ?_
    refine WC.region ?_
    refine WL.pure (v := .bool true) 23 rfl (Nat.le_of_ble_eq_true rfl) rfl rfl (by kernel_rfl) ?_
    refine WL.pure (v := .bool true) 4 rfl (Nat.le_of_ble_eq_true rfl) rfl rfl (by kernel_rfl) ?_
    refine WL.pure (v := vI 0) 5 rfl (Nat.le_of_ble_eq_true rfl) rfl rfl (by kernel_rfl) ?_
    refine WL.nil ?_
    refine WQ.then ?_
    refine hK15 _ _ _ ?_
    refine WC.ret ?_
    refine WQ.inRet ?_
    refine WQ.thenRet ?_
    refine WQ.inRet ?_
    refine WQ.ret2 4 5 rfl rfl rfl ?_
    exact ⟨rfl, hH13⟩
set_option maxRecDepth 20000 in
set_option maxHeartbeats 4000000 in
theorem Put_full (q c n : Nat) (C : Nat → Int) (h t k : Nat) (wo tk : Int) (y : Int) (w : World) (hB : OwnB w (QB q c n C h t 0 k wo tk)) (hn : 2 ≤ n ∧ n ≤ 9) (hh : h < n) (ht : t < n) (hy : wd y = true) (hf : (t + 1) % n = h) :
    Calls Try.prog 71 #[vP q 0, vI y] w fun e w' => e = .returned (.tuple #[.bool false, vI 0]) ∧ HP (Out (QB q c n C h t 0 k wo tk)) w w' (QB q c n C h t 0 k y tk) := by
  refine calls_of Try.func71 rfl (m := 24) rfl [(0, vP q 0), (1, vI y)] (Fr_enter [vP q 0, vI y] 24 (Nat.le_of_ble_eq_true rfl)) ?_
  refine WC.seq fun K1 hK1 => ?_
  refine WC.region ?_
  refine WL.pure (v := .bool false) 4 rfl (Nat.le_of_ble_eq_true rfl) rfl rfl (by kernel_rfl) ?_
  refine WL.pure (v := vI 0) 5 rfl (Nat.le_of_ble_eq_true rfl) rfl rfl (by kernel_rfl) ?_
  refine WL.nil ?_
  refine WQ.then ?_
  refine hK1 _ _ _ ?_
  refine WC.seq fun K2 hK2 => ?_
  refine WC.seq fun K3 hK3 => ?_
  refine WC.region ?_
  refine WL.pure (v := vP q 0) 10 rfl (Nat.le_of_ble_eq_true rfl) rfl rfl (by kernel_rfl) ?_
  refine WL.pure (v := vI y) 11 rfl (Nat.le_of_ble_eq_true rfl) rfl rfl (by kernel_rfl) ?_
  refine WL.call (f := 78) (args := #[vP q 0, vI y]) 12 rfl (Nat.le_of_ble_eq_true rfl) rfl rfl (by kernel_rfl) ?_
  refine (BeginPut_any q c n C h t k wo tk y _ (HP.ownB (A := []) (HP.startB hB)) hn hh ht hy).mono ?_
  rintro e w4 ⟨rfl, hb4⟩
  refine ⟨_, rfl, ?_⟩
  have hF := HP.exch (A := []) (HP.startB hB) hb4
  have hH4 : HP (Out (QB q c n C h t 0 k wo tk)) w _ [.cel q #[.slice (some ⟨c, 0, none⟩) n n, vI (h : Int), vI (t : Int), vI 1, vI (k : Int), vI y, vI tk] 129, .cel c (irow n C) 3] := hF
  refine WL.pure (v := vI 0) 6 rfl (Nat.le_of_ble_eq_true rfl) rfl rfl (by kernel_rfl) ?_
  refine WL.nil ?_
  refine WQ.then ?_
  refine hK3 _ _ _ ?_
  refine WC.seq fun K5 hK5 => ?_
  refine WC.region ?_
  refine WL.pure (v := vI 0) 13 rfl (Nat.le_of_ble_eq_true rfl) rfl rfl (by kernel_rfl) ?_
  refine WL.pure (v := .bool false) 14 rfl (Nat.le_of_ble_eq_true rfl) rfl rfl (x_neq rfl rfl rfl (by decide)) ?_
  refine WL.nil ?_
  refine WQ.then ?_
  refine hK5 _ _ _ ?_
  refine WC.no rfl ?_
  refine WC.skip ?_
  refine WQ.then ?_
  refine hK2 _ _ _ ?_
  refine WC.block ?_
  refine WC.loop (fun kk0 ll0 ww0 => (kk0 = 1 ∧ ll0 = [(0, vP q 0), (4, .bool false), (5, vI 0)] ∧ HP (Out (QB q c n C h t 0 k wo tk)) w ww0 [.cel q #[.slice (some ⟨c, 0, none⟩) n n, vI (h : Int), vI (t : Int), vI 1, vI (k : Int), vI y, vI tk] 129, .cel c (irow n C) 3])) 1 [(0, vP q 0), (4, .bool false), (5, vI 0)] ⟨rfl, rfl, rfl, trivial⟩ (⟨rfl, rfl, hH4⟩) ?_
  rintro kk ll w3 (⟨hkk, rfl, hH3⟩) K3 hK3
  ·
    refine WC.block ?_
    refine WC.seq fun K6 hK6 => ?_
    refine WC.region ?_
    refine WL.pure (v := vP q 0) 17 rfl (Nat.le_of_ble_eq_true rfl) rfl rfl (by kernel_rfl) ?_
    refine WL.call (f := 79) (args := #[vP q 0]) 18 rfl (Nat.le_of_ble_eq_true rfl) rfl rfl (by kernel_rfl) ?_
    refine (StepPut_1f q c n C h t k y tk _ (HP.ownB (A := []) hH3) hn hh ht hf).mono ?_
    rintro e w4 ⟨rfl, hb4⟩
    refine ⟨_, rfl, ?_⟩
    have hF := HP.exch (A := []) hH3 hb4
    have hH7 : HP (Out (QB q c n C h t 0 k wo tk)) w _ [.cel q #[.slice (some ⟨c, 0, none⟩) n n, vI (h : Int), vI (t : Int), vI 0, vI (k : Int), vI y, vI tk] 129, .cel c (irow n C) 3] := hF
    refine WL.pure (v := .tuple #[.bool true, .bool false, vI 0]) 16 rfl (Nat.le_of_ble_eq_true rfl) rfl rfl (by kernel_rfl) ?_
    refine WL.pure (v := .bool true) 19 rfl (Nat.le_of_ble_eq_true rfl) rfl rfl (by kernel_rfl) ?_
    refine WL.pure (v := .bool false) 20 rfl (Nat.le_of_ble_eq_true rfl) rfl rfl (by kernel_rfl) ?_
    refine WL.pure (v := vI 0) 21 rfl (Nat.le_of_ble_eq_true rfl) rfl rfl (by kernel_rfl) ?_
    refine WL.pure (v := .bool true) 7 rfl (Nat.le_of_ble_eq_true rfl) rfl rfl (by kernel_rfl) ?_
    refine WL.pure (v := .bool false) 8 rfl (Nat.le_of_ble_eq_true rfl) rfl rfl (by kernel_rfl) ?_
    refine WL.pure (v := vI 0) 9 rfl (Nat.le_of_ble_eq_true rfl) rfl rfl (by kernel_rfl) ?_
    refine WL.nil ?_
    refine WQ.then ?_
    refine hK6 _ _ _ ?_
    refine WC.sub (l' := [(0, vP q 0), (4, .bool false), (5, vI 0), (7, .bool true), (8, .bool false)]) ⟨rfl, rfl, rfl, rfl, rfl, trivial⟩ ?_
    refine WC.seq fun K8 hK8 => ?_
    refine WC.region ?_
    refine WL.pure (v := .bool true) 22 rfl (Nat.le_of_ble_eq_true rfl) rfl rfl (by kernel_rfl) ?_
    refine WL.nil ?_
    refine WQ.then ?_
    refine hK8 _ _ _ ?_
    refine WC.yes rfl ?_
    refine WC.seq fun K9 hK9 => ?_
    refine WC.region ?_
    refine WL.pure (v := .bool false) 23 rfl (Nat.le_of_ble_eq_true rfl) rfl rfl (by kernel_rfl) ?_
    refine WL.pure (v := .bool false) 4 rfl (Nat.le_of_ble_eq_true rfl) rfl rfl (by kernel_rfl) ?_
    refine WL.pure (v := vI 0) 5 rfl (Nat.le_of_ble_eq_true rfl) rfl rfl (by kernel_rfl) ?_
    refine WL.nil ?_
    refine WQ.then ?_
    refine hK9 _ _ _ ?_
    refine WC.ret ?_
    refine WQ.inRet ?_
    refine WQ.thenRet ?_
    refine WQ.inRet ?_
    refine WQ.ret2 4 5 rfl rfl rfl ?_
    exact ⟨rfl, hH7⟩
set_option maxRecDepth 20000 in
set_option maxHeartbeats 4000000 in
theorem Take_ok (q c n : Nat) (C : Nat → Int) (h t p : Nat) (wo tk : Int) (h2 : Nat) (w : World) (hB : OwnB w (QB q c n C h t p 0 wo tk)) (hn : 2 ≤ n ∧ n ≤ 9) (hh : h < n) (ht : t < n) (hf : (h + 1) % n = h2) (hr : h ≠ t) :
    Calls Try.prog 72 #[vP q 0] w fun e w' => e = .returned (.tuple #[vI (C h), .bool true, vI 0]) ∧ HP (Out (QB q c n C h t p 0 wo tk)) w w' (QB q c n C h2 t p 0 wo (C h)) := by
  refine calls_of Try.func72 rfl (m := 25) rfl [(0, vP q 0)] (Fr_enter [vP q 0] 25 (Nat.le_of_ble_eq_true rfl)) ?_
  refine WC.seq fun K1 hK1 => ?_
  refine WC.region ?_
  refine WL.pure (v := vI 0) 2 rfl (Nat.le_of_ble_eq_true rfl) rfl rfl (by kernel_rfl) ?_
  refine WL.pure (v := .bool false) 3 rfl (Nat.le_of_ble_eq_true rfl) rfl rfl (by kernel_rfl) ?_
  refine WL.pure (v := vI 0) 4 rfl (Nat.le_of_ble_eq_true rfl) rfl rfl (by kernel_rfl) ?_
  refine WL.nil ?_
  refine WQ.then ?_
  refine hK1 _ _ _ ?_
  refine WC.seq fun K2 hK2 => ?_
  refine WC.seq fun K3 hK3 => ?_
  refine WC.region ?_
  refine WL.pure (v := vP q 0) 10 rfl (Nat.le_of_ble_eq_true rfl) rfl rfl (by kernel_rfl) ?_
  refine WL.call (f := 80) (args := #[vP q 0]) 11 rfl (Nat.le_of_ble_eq_true rfl) rfl rfl (by kernel_rfl) ?_
  refine (BeginTake_any q c n C h t p wo tk _ (HP.ownB (A := []) (HP.startB hB)) hn hh ht).mono ?_
  rintro e w4 ⟨rfl, hb4⟩
  refine ⟨_, rfl, ?_⟩
  have hF := HP.exch (A := []) (HP.startB hB) hb4
  have hH4 : HP (Out (QB q c n C h t p 0 wo tk)) w _ [.cel q #[.slice (some ⟨c, 0, none⟩) n n, vI (h : Int), vI (t : Int), vI (p : Int), vI 1, vI wo, vI tk] 129, .cel c (irow n C) 3] := hF
  refine WL.pure (v := vI 0) 5 rfl (Nat.le_of_ble_eq_true rfl) rfl rfl (by kernel_rfl) ?_
  refine WL.nil ?_
  refine WQ.then ?_
  refine hK3 _ _ _ ?_
  refine WC.seq fun K5 hK5 => ?_
  refine WC.region ?_
  refine WL.pure (v := vI 0) 12 rfl (Nat.le_of_ble_eq_true rfl) rfl rfl (by kernel_rfl) ?_
  refine WL.pure (v := .bool false) 13 rfl (Nat.le_of_ble_eq_true rfl) rfl rfl (x_neq rfl rfl rfl (by decide)) ?_
  refine WL.nil ?_
  refine WQ.then ?_
  refine hK5 _ _ _ ?_
  refine WC.no rfl ?_
  refine WC.skip ?_
  refine WQ.then ?_
  refine hK2 _ _ _ ?_
  refine WC.block ?_
  refine WC.loop (fun kk0 ll0 ww0 => (kk0 = 3 ∧ ll0 = [(0, vP q 0), (2, vI 0), (3, .bool false), (4, vI 0)] ∧ HP (Out (QB q c n C h t p 0 wo tk)) w ww0 [.cel q #[.slice (some ⟨c, 0, none⟩) n n, vI (h : Int), vI (t : Int), vI (p : Int), vI 1, vI wo, vI tk] 129, .cel c (irow n C) 3]) ∨ (kk0 = 2 ∧ ll0 = [(0, vP q 0), (2, vI 0), (3, .bool false), (4, vI 0)] ∧ HP (Out (QB q c n C h t p 0 wo tk)) w ww0 [.cel q #[.slice (some ⟨c, 0, none⟩) n n, vI (h : Int), vI (t : Int), vI (p : Int), vI 2, vI wo, vI tk] 129, .cel c (irow n C) 3]) ∨ (kk0 = 1 ∧ ll0 = [(0, vP q 0), (2, vI 0), (3, .bool false), (4, vI 0)] ∧ HP (Out (QB q c n C h t p 0 wo tk)) w ww0 [.cel q #[.slice (some ⟨c, 0, none⟩) n n, vI (h : Int), vI (t : Int), vI (p : Int), vI 3, vI wo, vI (C h)] 129, .cel c (irow n C) 3])) 3 [(0, vP q 0), (2, vI 0), (3, .bool false), (4, vI 0)] ⟨rfl, rfl, rfl, rfl, trivial⟩ (.inl (⟨rfl, rfl, hH4⟩)) ?_
  rintro kk ll w3 (⟨hkk, rfl, hH3⟩ | ⟨hkk, rfl, hH3⟩ | ⟨hkk, rfl, hH3⟩) K3 hK3
  ·
    refine WC.block ?_
    refine WC.seq fun K6 hK6 => ?_
    refine WC.region ?_
    refine WL.pure (v := vP q 0) 16 rfl (Nat.le_of_ble_eq_true rfl) rfl rfl (by kernel_rfl) ?_
    refine WL.call (f := 81) (args := #[vP q 0]) 17 rfl (Nat.le_of_ble_eq_true rfl) rfl rfl (by kernel_rfl) ?_
    refine (StepTake_1n q c n C h t p wo tk _ (HP.ownB (A := []) hH3) hn hh ht hr).mono ?_
    rintro e w4 ⟨rfl, hb4⟩
    refine ⟨_, rfl, ?_⟩
    have hF := HP.exch (A := []) hH3 hb4
    have hH7 : HP (Out (QB q c n C h t p 0 wo tk)) w _ [.cel q #[.slice (some ⟨c, 0, none⟩) n n, vI (h : Int), vI (t : Int), vI (p : Int), vI 2, vI wo, vI tk] 129, .cel c (irow n C) 3] := hF
    refine WL.pure (v := .tuple #[.bool false, .bool false, vI 0, vI 0]) 15 rfl (Nat.le_of_ble_eq_true rfl) rfl rfl (by kernel_rfl) ?_
    refine WL.pure (v := .bool false) 18 rfl (Nat.le_of_ble_eq_true rfl) rfl rfl (by kernel_rfl) ?_
    refine WL.pure (v := .bool false) 19 rfl (Nat.le_of_ble_eq_true rfl) rfl rfl (by kernel_rfl) ?_
    refine WL.pure (v := vI 0) 20 rfl (Nat.le_of_ble_eq_true rfl) rfl rfl (by kernel_rfl) ?_
    refine WL.pure (v := vI 0) 21 rfl (Nat.le_of_ble_eq_true rfl) rfl rfl (by kernel_rfl) ?_
    refine WL.pure (v := .bool false) 6 rfl (Nat.le_of_ble_eq_true rfl) rfl rfl (by kernel_rfl) ?_
    refine WL.pure (v := .bool false) 7 rfl (Nat.le_of_ble_eq_true rfl) rfl rfl (by kernel_rfl) ?_
    refine WL.pure (v := vI 0) 8 rfl (Nat.le_of_ble_eq_true rfl) rfl rfl (by kernel_rfl) ?_
    refine WL.pure (v := vI 0) 9 rfl (Nat.le_of_ble_eq_true rfl) rfl rfl (by kernel_rfl) ?_
    refine WL.nil ?_
    refine WQ.then ?_
    refine hK6 _ _ _ ?_
    refine WC.sub (l' := [(0, vP q 0), (2, vI 0), (3, .bool false), (4, vI 0), (6, .bool false), (7, .bool false), (8, vI 0)]) ⟨rfl, rfl, rfl, rfl, rfl, rfl, rfl, trivial⟩ ?_
    refine WC.seq fun K8 hK8 => ?_
    refine WC.region ?_
    refine WL.pure (v := .bool false) 22 rfl (Nat.le_of_ble_eq_true rfl) rfl rfl (by kernel_rfl) ?_
    refine WL.nil ?_
    refine WQ.then ?_
    refine hK8 _ _ _ ?_
    refine WC.no rfl ?_
    refine WC.skip ?_
    refine WQ.inNormal ?_
    refine WQ.sub (l' := [(0, vP q 0), (2, vI 0), (3, .bool false), (4, vI 0)]) ⟨rfl, rfl, rfl, rfl, trivial⟩ ?_
    refine WQ.then (hK3 2 _ _ (by omega) (.inr (.inl (⟨rfl, rfl, hH7⟩))))
  ·
    refine WC.block ?_
    refine WC.seq fun K9 hK9 => ?_
    refine WC.region ?_
    refine WL.pure (v := vP q 0) 16 rfl (Nat.le_of_ble_eq_true rfl) rfl rfl (by kernel_rfl) ?_
    refine WL.call (f := 81) (args := #[vP q 0]) 17 rfl (Nat.le_of_ble_eq_true rfl) rfl rfl (by kernel_rfl) ?_
    refine (StepTake_2 q c n C h t p wo tk _ (HP.ownB (A := []) hH3) hn hh ht).mono ?_
    rintro e w4 ⟨rfl, hb4⟩
    refine ⟨_, rfl, ?_⟩
    have hF := HP.exch (A := []) hH3 hb4
    have hH10 : HP (Out (QB q c n C h t p 0 wo tk)) w _ [.cel q #[.slice (some ⟨c, 0, none⟩) n n, vI (h : Int), vI (t : Int), vI (p : Int), vI 3, vI wo, vI (C h)] 129, .cel c (irow n C) 3] := hF
    refine WL.pure (v := .tuple #[.bool false, .bool false, vI 0, vI 0]) 15 rfl (Nat.le_of_ble_eq_true rfl) rfl rfl (by kernel_rfl) ?_
    refine WL.pure (v := .bool false) 18 rfl (Nat.le_of_ble_eq_true rfl) rfl rfl (by kernel_rfl) ?_
    refine WL.pure (v := .bool false) 19 rfl (Nat.le_of_ble_eq_true rfl) rfl rfl (by kernel_rfl) ?_
    refine WL.pure (v := vI 0) 20 rfl (Nat.le_of_ble_eq_true rfl) rfl rfl (by kernel_rfl) ?_
    refine WL.pure (v := vI 0) 21 rfl (Nat.le_of_ble_eq_true rfl) rfl rfl (by kernel_rfl) ?_
    refine WL.pure (v := .bool false) 6 rfl (Nat.le_of_ble_eq_true rfl) rfl rfl (by kernel_rfl) ?_
    refine WL.pure (v := .bool false) 7 rfl (Nat.le_of_ble_eq_true rfl) rfl rfl (by kernel_rfl) ?_
    refine WL.pure (v := vI 0) 8 rfl (Nat.le_of_ble_eq_true rfl) rfl rfl (by kernel_rfl) ?_
    refine WL.pure (v := vI 0) 9 rfl (Nat.le_of_ble_eq_true rfl) rfl rfl (by kernel_rfl) ?_
    refine WL.nil ?_
    refine WQ.then ?_
    refine hK9 _ _ _ ?_
    refine WC.sub (l' := [(0, vP q 0), (2, vI 0), (3, .bool false), (4, vI 0), (6, .bool false), (7, .bool false), (8, vI 0)]) ⟨rfl, rfl, rfl, rfl, rfl, rfl, rfl, trivial⟩ ?_
    refine WC.seq fun K11 hK11 => ?_
    refine WC.region ?_
    refine WL.pure (v := .bool false) 22 rfl (Nat.le_of_ble_eq_true rfl) rfl rfl (by kernel_rfl) ?_
    refine WL.nil ?_
    refine WQ.then ?_
    refine hK11 _ _ _ ?_
    refine WC.no rfl ?_
    refine WC.skip ?_
    refine WQ.inNormal ?_
    refine WQ.sub (l' := [(0, vP q 0), (2, vI 0), (3, .bool false), (4, vI 0)]) ⟨rfl, rfl, rfl, rfl, trivial⟩ ?_
    refine WQ.then (hK3 1 _ _ (by omega) (.inr (.inr ((⟨rfl, rfl, hH10⟩)))))
  ·
    refine WC.block ?_
    refine WC.seq fun K12 hK12 => ?_
    refine WC.region ?_
    refine WL.pure (v := vP q 0) 16 rfl (Nat.le_of_ble_eq_true rfl) rfl rfl (by kernel_rfl) ?_
    refine WL.call (f := 81) (args := #[vP q 0]) 17 rfl (Nat.le_of_ble_eq_true rfl) rfl rfl (by kernel_rfl) ?_
    refine (StepTake_3 q c n C h t p wo (C h) h2 _ (HP.ownB (A := []) hH3) hn hh ht hf).mono ?_
    rintro e w4 ⟨rfl, hb4⟩
    refine ⟨_, rfl, ?_⟩
    have hF := HP.exch (A := []) hH3 hb4
    have hH13 : HP (Out (QB q c n C h t p 0 wo tk)) w _ [.cel q #[.slice (some ⟨c, 0, none⟩) n n, vI (h2 : Int), vI (t : Int), vI (p : Int), vI 0, vI wo, vI (C h)] 129, .cel c (irow n C) 3] := hF
    refine WL.pure (v := .tuple #[.bool true, .bool true, vI (C h), vI 0]) 15 rfl (Nat.le_of_ble_eq_true rfl) rfl rfl (by kernel_rfl) ?_
    refine WL.pure (v := .bool true) 18 rfl (Nat.le_of_ble_eq_true rfl) rfl rfl (by kernel_rfl) ?_
    refine WL.pure (v := .bool true) 19 rfl (Nat.le_of_ble_eq_true rfl) rfl rfl (by kernel_rfl) ?_
    refine WL.pure (v := vI (C h)) 20 rfl (Nat.le_of_ble_eq_true rfl) rfl rfl (by kernel_rfl) ?_
    refine WL.pure (v := vI 0) 21 rfl (Nat.le_of_ble_eq_true rfl) rfl rfl (by kernel_rfl) ?_
    refine WL.pure (v := .bool true) 6 rfl (Nat.le_of_ble_eq_true rfl) rfl rfl (by kernel_rfl) ?_
    refine WL.pure (v := .bool true) 7 rfl (Nat.le_of_ble_eq_true rfl) rfl rfl (by kernel_rfl) ?_
    refine WL.pure (v := vI (C h)) 8 rfl (Nat.le_of_ble_eq_true rfl) rfl rfl (by kernel_rfl) ?_
    refine WL.pure (v := vI 0) 9 rfl (Nat.le_of_ble_eq_true rfl) rfl rfl (by kernel_rfl) ?_
    refine WL.nil ?_
    refine WQ.then ?_
    refine hK12 _ _ _ ?_
    refine WC.sub (l' := [(0, vP q 0), (2, vI 0), (3, .bool false), (4, vI 0), (6, .bool true), (7, .bool true), (8, vI (C h))]) ⟨rfl, rfl, rfl, rfl, rfl, rfl, rfl, trivial⟩ ?_
    refine WC.seq fun K14 hK14 => ?_
    refine WC.region ?_
    refine WL.pure (v := .bool true) 22 rfl (Nat.le_of_ble_eq_true rfl) rfl rfl (by kernel_rfl) ?_
    refine WL.nil ?_
    refine WQ.then ?_
    refine hK14 _ _ _ ?_
    refine WC.yes rfl ?_
    refine WC.seq fun K15 hK15 => ?_
    refine WC.region ?_
    refine WL.pure (v := vI (C h)) 23 rfl (Nat.le_of_ble_eq_true rfl) rfl rfl (by kernel_rfl) ?_
    refine WL.pure (v := .bool true) 24 rfl (Nat.le_of_ble_eq_true rfl) rfl rfl (by kernel_rfl) ?_
    refine WL.pure (v := vI (C h)) 2 rfl (Nat.le_of_ble_eq_true rfl) rfl rfl (by kernel_rfl) ?_
    refine WL.pure (v := .bool true) 3 rfl (Nat.le_of_ble_eq_true rfl) rfl rfl (by kernel_rfl) ?_
    refine WL.pure (v := vI 0) 4 rfl (Nat.le_of_ble_eq_true rfl) rfl rfl (by kernel_rfl) ?_
    refine WL.nil ?_
    refine WQ.then ?_
    refine hK15 _ _ _ ?_
    refine WC.ret ?_
    refine WQ.inRet ?_
    refine WQ.thenRet ?_
    refine WQ.inRet ?_
    refine WQ.ret3 2 3 4 rfl rfl rfl rfl ?_
    exact ⟨rfl, hH13⟩
set_option maxRecDepth 20000 in
set_option maxHeartbeats 4000000 in
theorem awake_any (w : World) :
    Calls Try.prog 46 #[] w fun e w' => e = .returned (.bool true) ∧ Below w.heap.size w w' := by
  refine calls_of Try.func46 rfl (m := 56) rfl [] (Fr_enter [] 56 (Nat.le_of_ble_eq_true rfl)) ?_
  have hH1 : HP Tr w w [] := HP.refl w
  refine WC.seq fun K2 hK2 => ?_
  refine WC.region ?_
  refine WL.pure (v := .bool false) 0 rfl (Nat.le_of_ble_eq_true rfl) rfl rfl (by kernel_rfl) ?_
  refine WL.nil ?_
  refine WQ.then ?_
  refine hK2 _ _ _ ?_
  refine WC.seq fun K3 hK3 => ?_
  refine WC.region ?_
  refine WL.call (f := 70) (args := #[vI 1]) 11 rfl (Nat.le_of_ble_eq_true rfl) rfl rfl (by kernel_rfl) ?_
  refine (New_any 1 _).mono ?_
  rintro e w1 (⟨hno, -⟩ | ⟨-, q, c, rfl, hb⟩)
  · exact absurd ⟨by omega, by omega⟩ hno
  refine ⟨_, rfl, ?_⟩
  have hH4 : HP Tr w _ [.cel q #[.slice (some ⟨c, 0, none⟩) 2 2, vI ((0 : Nat) : Int), vI ((0 : Nat) : Int), vI ((0 : Nat) : Int), vI ((0 : Nat) : Int), vI 0, vI 0] 129, .cel c (irow 2 (fun _ => 0)) 3] := HP.trans hH1 hb
  refine WL.pure (v := .tuple #[vP q 0, vI 0]) 10 rfl (Nat.le_of_ble_eq_true rfl) rfl rfl (by kernel_rfl) ?_
  refine WL.pure (v := vP q 0) 12 rfl (Nat.le_of_ble_eq_true rfl) rfl rfl (by kernel_rfl) ?_
  refine WL.pure (v := vI 0) 13 rfl (Nat.le_of_ble_eq_true rfl) rfl rfl (by kernel_rfl) ?_
  refine WL.pure (v := vP q 0) 1 rfl (Nat.le_of_ble_eq_true rfl) rfl rfl (by kernel_rfl) ?_
  refine WL.pure (v := vI 0) 2 rfl (Nat.le_of_ble_eq_true rfl) rfl rfl (by kernel_rfl) ?_
  refine WL.nil ?_
  refine WQ.then ?_
  refine hK3 _ _ _ ?_
  refine WC.seq fun K5 hK5 => ?_
  refine WC.seq fun K6 hK6 => ?_
  refine WC.region ?_
  refine WL.pure (v := vI 0) 14 rfl (Nat.le_of_ble_eq_true rfl) rfl rfl (by kernel_rfl) ?_
  refine WL.pure (v := .bool false) 15 rfl (Nat.le_of_ble_eq_true rfl) rfl rfl (x_neq rfl rfl rfl (by decide)) ?_
  refine WL.nil ?_
  refine WQ.then ?_
  refine hK6 _ _ _ ?_
  refine WC.no rfl ?_
  refine WC.skip ?_
  refine WQ.then ?_
  refine hK5 _ _ _ ?_
  refine WC.seq fun K7 hK7 => ?_
  refine WC.region ?_
  refine WL.pure (v := vP q 0) 17 rfl (Nat.le_of_ble_eq_true rfl) rfl rfl (by kernel_rfl) ?_
  refine WL.call (f := 71) (args := #[vP q 0, vI 5]) 18 rfl (Nat.le_of_ble_eq_true rfl) rfl rfl (by kernel_rfl) ?_
  refine (Put_ok q c 2 (fun _ => 0) 0 0 0 0 0 1 5 _ (HP.ownB (A := []) hH4) (by omega) (by omega) (by omega) rfl rfl (by omega)).mono ?_
  rintro e w4 ⟨rfl, hb4⟩
  refine ⟨_, rfl, ?_⟩
  have hF := HP.exch (A := []) hH4 hb4
  have hH8 : HP Tr w _ [.cel q #[.slice (some ⟨c, 0, none⟩) 2 2, vI ((0 : Nat) : Int), vI ((1 : Nat) : Int), vI ((0 : Nat) : Int), vI ((0 : Nat) : Int), vI 5, vI 0] 129, .cel c (irow 2 (upI (fun _ => 0) 0 5)) 3] := hF
  refine WL.pure (v := .tuple #[.bool true, vI 0]) 16 rfl (Nat.le_of_ble_eq_true rfl) rfl rfl (by kernel_rfl) ?_
  refine WL.pure (v := .bool true) 19 rfl (Nat.le_of_ble_eq_true rfl) rfl rfl (by kernel_rfl) ?_
  refine WL.pure (v := vI 0) 20 rfl (Nat.le_of_ble_eq_true rfl) rfl rfl (by kernel_rfl) ?_
  refine WL.pure (v := .bool true) 3 rfl (Nat.le_of_ble_eq_true rfl) rfl rfl (by kernel_rfl) ?_
  refine WL.pure (v := vI 0) 4 rfl (Nat.le_of_ble_eq_true rfl) rfl rfl (by kernel_rfl) ?_
  refine WL.nil ?_
  refine WQ.then ?_
  refine hK7 _ _ _ ?_
  refine WC.sub (l' := [(0, .bool false), (1, vP q 0), (2, vI 0), (3, .bool true), (4, vI 0), (15, .bool false)]) ⟨rfl, rfl, rfl, rfl, rfl, rfl, trivial⟩ ?_
  refine WC.seq fun K9 hK9 => ?_
  refine WC.region ?_
  refine WL.pure (v := vP q 0) 22 rfl (Nat.le_of_ble_eq_true rfl) rfl rfl (by kernel_rfl) ?_
  refine WL.call (f := 71) (args := #[vP q 0, vI 6]) 23 rfl (Nat.le_of_ble_eq_true rfl) rfl rfl (by kernel_rfl) ?_
  refine (Put_full q c 2 (upI (fun _ => 0) 0 5) 0 1 0 5 0 6 _ (HP.ownB (A := []) hH8) (by omega) (by omega) (by omega) rfl rfl).mono ?_
  rintro e w4 ⟨rfl, hb4⟩
  refine ⟨_, rfl, ?_⟩
  have hF := HP.exch (A := []) hH8 hb4
  have hH10 : HP Tr w _ [.cel q #[.slice (some ⟨c, 0, none⟩) 2 2, vI ((0 : Nat) : Int), vI ((1 : Nat) : Int), vI ((0 : Nat) : Int), vI ((0 : Nat) : Int), vI 6, vI 0] 129, .cel c (irow 2 (upI (fun _ => 0) 0 5)) 3] := hF
  refine WL.pure (v := .tuple #[.bool false, vI 0]) 21 rfl (Nat.le_of_ble_eq_true rfl) rfl rfl (by kernel_rfl) ?_
  refine WL.pure (v := .bool false) 24 rfl (Nat.le_of_ble_eq_true rfl) rfl rfl (by kernel_rfl) ?_
  refine WL.pure (v := vI 0) 25 rfl (Nat.le_of_ble_eq_true rfl) rfl rfl (by kernel_rfl) ?_
  refine WL.pure (v := .bool false) 5 rfl (Nat.le_of_ble_eq_true rfl) rfl rfl (by kernel_rfl) ?_
  refine WL.pure (v := vI 0) 6 rfl (Nat.le_of_ble_eq_true rfl) rfl rfl (by kernel_rfl) ?_
  refine WL.nil ?_
  refine WQ.then ?_
  refine hK9 _ _ _ ?_
  refine WC.seq fun K11 hK11 => ?_
  refine WC.region ?_
  refine WL.pure (v := vP q 0) 27 rfl (Nat.le_of_ble_eq_true rfl) rfl rfl (by kernel_rfl) ?_
  refine WL.call (f := 72) (args := #[vP q 0]) 28 rfl (Nat.le_of_ble_eq_true rfl) rfl rfl (by kernel_rfl) ?_
  refine (Take_ok q c 2 (upI (fun _ => 0) 0 5) 0 1 0 6 0 1 _ (HP.ownB (A := []) hH10) (by omega) (by omega) (by omega) rfl (by omega)).mono ?_
  rintro e w4 ⟨rfl, hb4⟩
  refine ⟨_, rfl, ?_⟩
  have hF := HP.exch (A := []) hH10 hb4
  have hH12 : HP Tr w _ [.cel q #[.slice (some ⟨c, 0, none⟩) 2 2, vI ((1 : Nat) : Int), vI ((1 : Nat) : Int), vI ((0 : Nat) : Int), vI ((0 : Nat) : Int), vI 6, vI 5] 129, .cel c (irow 2 (upI (fun _ => 0) 0 5)) 3] := hF
  refine WL.pure (v := .tuple #[vI 5, .bool true, vI 0]) 26 rfl (Nat.le_of_ble_eq_true rfl) rfl rfl (by kernel_rfl) ?_
  refine WL.pure (v := vI 5) 29 rfl (Nat.le_of_ble_eq_true rfl) rfl rfl (by kernel_rfl) ?_
  refine WL.pure (v := .bool true) 30 rfl (Nat.le_of_ble_eq_true rfl) rfl rfl (by kernel_rfl) ?_
  refine WL.pure (v := vI 0) 31 rfl (Nat.le_of_ble_eq_true rfl) rfl rfl (by kernel_rfl) ?_
  refine WL.pure (v := vI 5) 7 rfl (Nat.le_of_ble_eq_true rfl) rfl rfl (by kernel_rfl) ?_
  refine WL.pure (v := .bool true) 8 rfl (Nat.le_of_ble_eq_true rfl) rfl rfl (by kernel_rfl) ?_
  refine WL.pure (v := vI 0) 9 rfl (Nat.le_of_ble_eq_true rfl) rfl rfl (by kernel_rfl) ?_
  refine WL.nil ?_
  refine WQ.then ?_
  refine hK11 _ _ _ ?_
  refine WC.sub (l' := [(0, .bool false), (1, vP q 0), (2, vI 0), (3, .bool true), (4, vI 0), (5, .bool false), (6, vI 0), (7, vI 5), (8, .bool true), (9, vI 0), (15, .bool false)]) ⟨rfl, rfl, rfl, rfl, rfl, rfl, rfl, rfl, rfl, rfl, rfl, trivial⟩ ?_
  refine WC.seq fun K13 hK13 => ?_
  refine WC.region ?_
  refine WL.pure (v := .bool true) 32 rfl (Nat.le_of_ble_eq_true rfl) rfl rfl (by kernel_rfl) ?_
  refine WL.pure (v := .bool true) 33 rfl (Nat.le_of_ble_eq_true rfl) rfl rfl (by kernel_rfl) ?_
  refine WL.pure (v := .bool false) 34 rfl (Nat.le_of_ble_eq_true rfl) rfl rfl (by kernel_rfl) ?_
  refine WL.pure (v := .bool true) 35 rfl (Nat.le_of_ble_eq_true rfl) rfl rfl (by kernel_rfl) ?_
  refine WL.pure (v := .bool true) 36 rfl (Nat.le_of_ble_eq_true rfl) rfl rfl (by kernel_rfl) ?_
  refine WL.pure (v := .bool true) 37 rfl (Nat.le_of_ble_eq_true rfl) rfl rfl (by kernel_rfl) ?_
  refine WL.pure (v := .bool true) 38 rfl (Nat.le_of_ble_eq_true rfl) rfl rfl (by kernel_rfl) ?_
  refine WL.pure (v := .bool true) 39 rfl (Nat.le_of_ble_eq_true rfl) rfl rfl (by kernel_rfl) ?_
  refine WL.pure (v := .bool true) 40 rfl (Nat.le_of_ble_eq_true rfl) rfl rfl (by kernel_rfl) ?_
  refine WL.pure (v := vI 5) 41 rfl (Nat.le_of_ble_eq_true rfl) rfl rfl (by kernel_rfl) ?_
  refine WL.pure (v := .bool true) 42 rfl (Nat.le_of_ble_eq_true rfl) rfl rfl (x_eql rfl rfl rfl (by decide)) ?_
  refine WL.pure (v := .bool true) 43 rfl (Nat.le_of_ble_eq_true rfl) rfl rfl (by kernel_rfl) ?_
  refine WL.pure (v := .bool true) 44 rfl (Nat.le_of_ble_eq_true rfl) rfl rfl (by kernel_rfl) ?_
  refine WL.pure (v := vI 0) 45 rfl (Nat.le_of_ble_eq_true rfl) rfl rfl (by kernel_rfl) ?_
  refine WL.pure (v := .bool true) 46 rfl (Nat.le_of_ble_eq_true rfl) rfl rfl (x_eql rfl rfl rfl (by decide)) ?_
  refine WL.pure (v := .bool true) 47 rfl (Nat.le_of_ble_eq_true rfl) rfl rfl (by kernel_rfl) ?_
  refine WL.pure (v := .bool true) 48 rfl (Nat.le_of_ble_eq_true rfl) rfl rfl (by kernel_rfl) ?_
  refine WL.pure (v := vI 0) 49 rfl (Nat.le_of_ble_eq_true rfl) rfl rfl (by kernel_rfl) ?_
  refine WL.pure (v := .bool true) 50 rfl (Nat.le_of_ble_eq_true rfl) rfl rfl (x_eql rfl rfl rfl (by decide)) ?_
  refine WL.pure (v := .bool true) 51 rfl (Nat.le_of_ble_eq_true rfl) rfl rfl (by kernel_rfl) ?_
  refine WL.pure (v := .bool true) 52 rfl (Nat.le_of_ble_eq_true rfl) rfl rfl (by kernel_rfl) ?_
  refine WL.pure (v := vI 0) 53 rfl (Nat.le_of_ble_eq_true rfl) rfl rfl (by kernel_rfl) ?_
  refine WL.pure (v := .bool true) 54 rfl (Nat.le_of_ble_eq_true rfl) rfl rfl (x_eql rfl rfl rfl (by decide)) ?_
  refine WL.pure (v := .bool true) 55 rfl (Nat.le_of_ble_eq_true rfl) rfl rfl (by kernel_rfl) ?_
  refine WL.pure (v := .bool true) 0 rfl (Nat.le_of_ble_eq_true rfl) rfl rfl (by kernel_rfl) ?_
  refine WL.nil ?_
  refine WQ.then ?_
  refine hK13 _ _ _ ?_
  refine WC.sub (l' := [(0, .bool true), (1, vP q 0), (2, vI 0), (3, .bool true), (4, vI 0), (5, .bool false), (6, vI 0), (7, vI 5), (8, .bool true), (9, vI 0), (15, .bool false)]) ⟨rfl, rfl, rfl, rfl, rfl, rfl, rfl, rfl, rfl, rfl, rfl, trivial⟩ ?_
  refine WC.ret ?_
  refine WQ.ret1 0 rfl rfl ?_
  exact ⟨rfl, HP.below hH12⟩
end Qu
end Go.Proofs.Ytgdfbpphfanocaa
