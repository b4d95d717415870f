/- The log; parts of rows cloned and compared. -/
import Derived.Test.YtgdfbpphfanocaaHU
import Derived.Test.YtgdfbpphfanocaaHD
set_option linter.unusedVariables false
set_option linter.unusedSimpArgs false
namespace Go.Proofs.Ytgdfbpphfanocaa
open Go.RowKit Fw
namespace Qg
open Lc (wd isWord_wd)
open Lb (row infoI row_len row_cases row_src row_cap own_row lit1 lit0 row_open row_below ItR ad_add slp)
open Qu (qword_any)
abbrev LG (l : Nat) (pv : Option Addr) (cp : Nat) (xs : List Int) (lo : Int) : List Ent := [.cel l #[.slice pv xs.length cp, vI 8, vI lo] 134, row pv xs.length cp xs]
theorem x_sliceG {P : Program} {ρ : Operand → Value} {o : Oper} {w : World} {t e b n cap : Nat} {x lo : Operand} {I : Int} (i : Nat) (ho : o.op = .slice t x (some lo) none none) (hx : ρ x = .slice (some ⟨b, 0, none⟩) n cap) (hy : ρ lo = .int .i64 I) (hu : P.underlying t = some (.slice e)) (hI : I = (i : Int)) (hle : i ≤ n) (hnc : n ≤ cap) (hs : (P.info? e).map (·.size) = some 1) (hne : ¬ cap = i) :
    (execOp ρ o).run P w = .ok (.value (.slice (some ⟨b, i, none⟩) (n - i) (cap - i))) w := by
  have q := Lb.x_sliceLA (P := P) (ρ := ρ) (o := o) (w := w) (t := t) (e := e) (b := b) (n := n) (cap := cap) (x := x) (lo := lo) (I := I) i ho hx hy hu hI hle hnc hs rfl rfl
  unfold Lb.sl at q
  rwa [if_neg hne] at q
theorem getD_drop' {l : List Int} {a i : Nat} : (l.drop a).getD i 0 = l.getD (a + i) 0 := by simp [List.getD_eq_getElem?_getD]
theorem lo_open {w : World} {pv : Option Addr} {n cp a : Nat} {xs : List Int} (h : Ent.holds w (row pv n cp xs)) (ha : a ≤ n) (h0 : 0 < (xs.drop a).length) :
    ∃ g o, slp pv a cp = some ⟨g, o, none⟩ ∧ ∀ i, i < (xs.drop a).length → w.cell? ⟨g, o + i, none⟩ = some (vI ((xs.drop a).getD i 0)) := by
  have hl := row_len h
  have hc := (row_cap h).1
  rw [List.length_drop] at h0
  obtain ⟨g, rfl, hrow⟩ := row_open h (show 0 < n by omega)
  refine ⟨g, a, ?_, fun i hi => ?_⟩
  · unfold slp
    rw [if_neg (by omega)]
    simp [ad_add]
  · rw [List.length_drop] at hi
    rw [getD_drop']
    exact hrow (a + i) (by omega)
theorem sz3 : (Try.prog.info? 3).map (·.size) = some 1 := by kernel_rfl
theorem sz58 : (Try.prog.info? 58).map (·.size) = some 1 := by kernel_rfl
set_option maxRecDepth 20000 in
set_option maxHeartbeats 4000000 in
theorem Ints_src (p1 p2 : Option Addr) (c1 c2 : Nat) (xs : List Int) (w : World) (h1 : Ent.holds w (row p1 xs.length c1 xs)) (h2 : 0 < xs.length → ∃ g o, p2 = some ⟨g, o, none⟩ ∧ ∀ i, i < xs.length → w.cell? ⟨g, o + i, none⟩ = some (vI (xs.getD i 0))) (hn : xs.length ≤ 32) :
    Calls Try.prog 32 #[.slice p1 xs.length c1, .slice p2 xs.length c2] w fun e w' => e = .returned (.bool true) ∧ Below w.heap.size w w' := by
  refine calls_of Try.func32 rfl (m := 26) rfl [(0, .slice p1 xs.length c1), (1, .slice p2 xs.length c2)] (Fr_enter [.slice p1 xs.length c1, .slice p2 xs.length c2] 26 (Nat.le_of_ble_eq_true rfl)) ?_
  have hH1 : HP Tr w w [] := HP.refl w
  refine WC.seq fun K2 hK2 => ?_
  refine WC.region ?_
  refine WL.pure (v := .bool false) 4 rfl (Nat.le_of_ble_eq_true rfl) rfl rfl (by kernel_rfl) ?_
  refine WL.nil ?_
  refine WQ.then ?_
  refine hK2 _ _ _ ?_
  refine WC.seq fun K3 hK3 => ?_
  refine WC.seq fun K4 hK4 => ?_
  refine WC.region ?_
  refine WL.pure (v := .slice p1 xs.length c1) 6 rfl (Nat.le_of_ble_eq_true rfl) rfl rfl (by kernel_rfl) ?_
  refine WL.pure (v := vI (xs.length : Int)) 7 rfl (Nat.le_of_ble_eq_true rfl) rfl rfl (by kernel_rfl) ?_
  refine WL.pure (v := .slice p2 xs.length c2) 8 rfl (Nat.le_of_ble_eq_true rfl) rfl rfl (by kernel_rfl) ?_
  refine WL.pure (v := vI (xs.length : Int)) 9 rfl (Nat.le_of_ble_eq_true rfl) rfl rfl (by kernel_rfl) ?_
  refine WL.pure (v := .bool false) 10 rfl (Nat.le_of_ble_eq_true rfl) rfl rfl (x_neq rfl rfl rfl (dF (fun h => h rfl))) ?_
  refine WL.nil ?_
  refine WQ.then ?_
  refine hK4 _ _ _ ?_
  refine WC.no rfl ?_
  refine WC.skip ?_
  refine WQ.then ?_
  refine hK3 _ _ _ ?_
  refine WC.seq fun K5 hK5 => ?_
  refine WC.seq fun K6 hK6 => ?_
  refine WC.region ?_
  refine WL.pure (v := vI 0) 5 rfl (Nat.le_of_ble_eq_true rfl) rfl rfl (by kernel_rfl) ?_
  refine WL.nil ?_
  refine WQ.then ?_
  refine hK6 _ _ _ ?_
  refine WC.block ?_
  refine WC.loop (fun kk0 ll0 ww0 => ∃ (k : Nat), ll0 = [(0, .slice p1 xs.length c1), (1, .slice p2 xs.length c2), (5, vI (k : Int))] ∧ kk0 = xs.length - k ∧ (k ≤ xs.length) ∧ HP Tr w ww0 []) (xs.length) [(0, .slice p1 xs.length c1), (1, .slice p2 xs.length c2), (5, vI 0)] ⟨rfl, rfl, rfl, trivial⟩ ⟨0, rfl, rfl, Nat.zero_le _, hH1⟩ ?_
  rintro kk l w8 ⟨k, rfl, hkk, hk, hH9⟩ K7 hK7
  refine WC.seq fun K10 hK10 => ?_
  refine WC.seq fun K11 hK11 => ?_
  refine WC.region ?_
  refine WL.pure (v := vI (k : Int)) 11 rfl (Nat.le_of_ble_eq_true rfl) rfl rfl (by kernel_rfl) ?_
  refine WL.pure (v := .slice p1 xs.length c1) 12 rfl (Nat.le_of_ble_eq_true rfl) rfl rfl (by kernel_rfl) ?_
  refine WL.pure (v := vI (xs.length : Int)) 13 rfl (Nat.le_of_ble_eq_true rfl) rfl rfl (by kernel_rfl) ?_
  by_cases hlt : (k : Int) < (xs.length : Int)
  ·
    refine WL.pure (v := .bool true) 14 rfl (Nat.le_of_ble_eq_true rfl) rfl rfl (x_lss rfl rfl rfl (dT (hlt))) ?_
    refine WL.nil ?_
    refine WQ.then ?_
    refine hK11 _ _ _ ?_
    refine WC.yes rfl ?_
    refine WC.skip ?_
    refine WQ.then ?_
    refine hK10 _ _ _ ?_
    refine WC.seq fun K12 hK12 => ?_
    refine WC.block ?_
    refine WC.seq fun K13 hK13 => ?_
    obtain ⟨g, hg, hrow⟩ := row_open h1 (show 0 < xs.length by omega)
    subst hg
    obtain ⟨g2, o2, hg2, hrow2⟩ := h2 (show 0 < xs.length by omega)
    subst hg2
    refine WC.still (by kernel_rfl) (by kernel_rfl) ?_
    have hH14 : HP Tr w _ [] := HP.drew hH9
    refine WS.val (v := vS g xs.length c1) 17 rfl (Nat.le_of_ble_eq_true rfl) rfl rfl (by kernel_rfl) ?_
    refine WS.val (v := vI (k : Int)) 18 rfl (Nat.le_of_ble_eq_true rfl) rfl rfl (by kernel_rfl) ?_
    refine WS.val (v := vP g k) 19 rfl (Nat.le_of_ble_eq_true rfl) rfl rfl (x_idx (k) (k) rfl rfl rfl Try.underlying58 sz3 (by omega) (by omega) (by omega)) ?_
    refine WS.val (v := vI (xs.getD k 0)) 20 rfl (Nat.le_of_ble_eq_true rfl) rfl rfl (x_load rfl rfl Try.underlying3 rfl (HP.old hH14 trivial (hrow k (by omega)))) ?_
    refine WS.val (v := .slice (some ⟨g2, o2, none⟩) xs.length c2) 21 rfl (Nat.le_of_ble_eq_true rfl) rfl rfl (by kernel_rfl) ?_
    refine WS.val (v := vI (k : Int)) 22 rfl (Nat.le_of_ble_eq_true rfl) rfl rfl (by kernel_rfl) ?_
    refine WS.val (v := vP g2 (o2 + k)) 23 rfl (Nat.le_of_ble_eq_true rfl) rfl rfl (x_idx (k) (o2 + k) rfl rfl rfl Try.underlying58 sz3 (by omega) (by omega) (by omega)) ?_
    refine WS.val (v := vI (xs.getD k 0)) 24 rfl (Nat.le_of_ble_eq_true rfl) rfl rfl (x_load rfl rfl Try.underlying3 rfl (HP.old hH14 trivial (hrow2 k (by omega)))) ?_
    refine WS.val (v := .bool false) 25 rfl (Nat.le_of_ble_eq_true rfl) rfl rfl (x_neq rfl rfl rfl (dF (fun h => h rfl))) ?_
    refine WS.nilQ ?_
    refine WQ.then ?_
    refine hK13 _ _ _ ?_
    refine WC.sub (l' := [(0, vS g xs.length c1), (1, .slice (some ⟨g2, o2, none⟩) xs.length c2), (5, vI (k : Int)), (14, .bool true), (25, .bool false)]) ⟨rfl, rfl, rfl, rfl, rfl, trivial⟩ ?_
    refine WC.no rfl ?_
    refine WC.skip ?_
    refine WQ.inNormal ?_
    refine WQ.then ?_
    refine hK12 _ _ _ ?_
    refine WC.region ?_
    refine WL.pure (v := vI (k : Int)) 15 rfl (Nat.le_of_ble_eq_true rfl) rfl rfl (by kernel_rfl) ?_
    refine WL.pure (v := vI ((k + 1 : Nat) : Int)) 16 rfl (Nat.le_of_ble_eq_true rfl) rfl rfl (x_add (Z := ((k + 1 : Nat) : Int)) rfl rfl rfl (by omega) (by omega) (by omega)) ?_
    refine WL.pure (v := vI ((k + 1 : Nat) : Int)) 5 rfl (Nat.le_of_ble_eq_true rfl) rfl rfl (by kernel_rfl) ?_
    refine WL.nil ?_
    refine WQ.sub (l' := [(0, vS g xs.length c1), (1, .slice (some ⟨g2, o2, none⟩) xs.length c2), (5, vI ((k + 1 : Nat) : Int))]) ⟨rfl, rfl, rfl, trivial⟩ ?_
    refine WQ.then (hK7 _ _ _ (by omega) ⟨k + 1, rfl, rfl, by omega, hH14⟩)
  ·
    refine WL.pure (v := .bool false) 14 rfl (Nat.le_of_ble_eq_true rfl) rfl rfl (x_lss rfl rfl rfl (dF (hlt))) ?_
    refine WL.nil ?_
    refine WQ.then ?_
    refine hK11 _ _ _ ?_
    refine WC.no rfl ?_
    refine WC.exit ?_
    refine WQ.thenExit ?_
    refine WQ.thenExit ?_
    refine WQ.inExit ?_
    refine WQ.then ?_
    refine hK5 _ _ _ ?_
    refine WC.seq fun K15 hK15 => ?_
    refine WC.region ?_
    refine WL.pure (v := .bool true) 4 rfl (Nat.le_of_ble_eq_true rfl) rfl rfl (by kernel_rfl) ?_
    refine WL.nil ?_
    refine WQ.then ?_
    refine hK15 _ _ _ ?_
    refine WC.ret ?_
    refine WQ.ret1 4 rfl rfl ?_
    exact ⟨rfl, HP.below hH9⟩
set_option maxRecDepth 20000 in
set_option maxHeartbeats 4000000 in
theorem Clone_at (g o cp : Nat) (xs : List Int) (w : World) (hc : ∀ i, i < xs.length → w.cell? ⟨g, o + i, none⟩ = some (vI (xs.getD i 0))) (hn : xs.length ≤ 32) :
    Calls Try.prog 94 #[.slice (some ⟨g, o, none⟩) xs.length cp] w (ItR w xs) := by
  refine calls_of Try.func94 rfl (m := 8) rfl [(0, .slice (some ⟨g, o, none⟩) xs.length cp)] (Fr_enter [.slice (some ⟨g, o, none⟩) xs.length cp] 8 (Nat.le_of_ble_eq_true rfl)) ?_
  have hH1 : HP Tr w w [] := HP.refl w
  refine WC.seq fun K2 hK2 => ?_
  refine WC.region ?_
  refine WL.pure (v := .slice none 0 0) 2 rfl (Nat.le_of_ble_eq_true rfl) rfl rfl (by kernel_rfl) ?_
  refine WL.nil ?_
  refine WQ.then ?_
  refine hK2 _ _ _ ?_
  refine WC.seq fun K3 hK3 => ?_
  refine WC.seq fun K4 hK4 => ?_
  refine WC.region ?_
  refine WL.pure (v := .slice (some ⟨g, o, none⟩) xs.length cp) 3 rfl (Nat.le_of_ble_eq_true rfl) rfl rfl (by kernel_rfl) ?_
  refine WL.pure (v := .bool false) 4 rfl (Nat.le_of_ble_eq_true rfl) rfl rfl (x_eqlNil rfl rfl rfl Try.underlying58 (by kernel_rfl) rfl) ?_
  refine WL.nil ?_
  refine WQ.then ?_
  refine hK4 _ _ _ ?_
  refine WC.no rfl ?_
  refine WC.skip ?_
  refine WQ.then ?_
  refine hK3 _ _ _ ?_
  refine WC.seq fun K5 hK5 => ?_
  refine WC.region ?_
  refine WL.alloc (c := #[]) (T := 3) hH1 5 rfl (by decide) rfl rfl (fun b6 => vS b6 0 0) (by kernel_rfl) (fun b6 w7 hw7 => ?_)
  have hH8 : HP Tr w w7 [.cel b6 #[] 3] := hw7.2
  have nb6 := hw7.1
  clear hw7
  refine WL.pure (v := .slice (some ⟨g, o, none⟩) xs.length cp) 6 rfl (Nat.le_of_ble_eq_true rfl) rfl rfl (by kernel_rfl) ?_
  have hO := HP.setSame hH8 0 (e' := row (some ⟨b6, 0, none⟩) 0 0 []) rfl (lit0 (HP.get hH8 0 rfl)) rfl
  have hH9 : HP Tr w _ [.own (.slice (some ⟨b6, 0, none⟩) 0 0) 0 (iL []) 3 1] := hO
  obtain ⟨i0, hi0, hz0, hz1, hz2⟩ := infoI
  refine WL.appendSrc (iL xs) 0 hH9 7 rfl (by decide) rfl rfl rfl rfl Try.underlying58 hi0 hz0 hz1 hz2 rfl (by decide) rfl (.inl ⟨_, rfl, fun q u hu => ?_⟩) (by simp [iL]) (iL_one xs) (by unfold maxLen; omega) (by omega) ?_
  · obtain ⟨x, hx, rfl⟩ : ∃ x, xs[q]? = some x ∧ vI x = u := by simpa [iL] using hu
    have hq := (List.getElem?_eq_some_iff.1 hx).1
    rw [ad_add]
    have q2 := HP.old hH9 (trivial : Tr g) (hc q hq)
    rw [show xs.getD q 0 = x by rw [List.getD_eq_getElem?_getD, hx]; rfl] at q2
    exact q2
  rintro v8 w8 - hA8
  have hA7 := HP.eq (H' := [.own v8 xs.length (iL xs) 3 1]) hA8 (by rw [Nat.zero_add]; rfl)
  obtain ⟨pv8, cp8, rfl, -⟩ := own_row (xs := xs) (HP.get hA7 0 rfl) rfl
  have hH10 : HP Tr w _ [.own (.slice pv8 xs.length cp8) xs.length (iL xs) 3 1] := hA7
  refine WL.pure (v := .slice pv8 xs.length cp8) 2 rfl (Nat.le_of_ble_eq_true rfl) rfl rfl (by kernel_rfl) ?_
  refine WL.nil ?_
  refine WQ.then ?_
  refine hK5 _ _ _ ?_
  refine WC.ret ?_
  refine WQ.ret1 2 rfl rfl ?_
  exact ⟨pv8, cp8, rfl, hA7⟩
set_option maxRecDepth 20000 in
set_option maxHeartbeats 4000000 in
theorem gnone_any (l : Nat) (w : World) (hc : w.cell? ⟨l, 1, none⟩ = some (vI 8)) :
    Calls Try.prog 99 #[vP l 0] w fun e w' => e = .returned (.bool false) ∧ w = w' := by
  refine calls_of Try.func99 rfl (m := 12) rfl [(0, vP l 0)] (Fr_enter [vP l 0] 12 (Nat.le_of_ble_eq_true rfl)) ?_
  have hH1 : HP Tr w w [] := HP.refl w
  refine WC.seq fun K2 hK2 => ?_
  refine WC.region ?_
  refine WL.pure (v := .bool false) 2 rfl (Nat.le_of_ble_eq_true rfl) rfl rfl (by kernel_rfl) ?_
  refine WL.nil ?_
  refine WQ.then ?_
  refine hK2 _ _ _ ?_
  refine WC.seq fun K3 hK3 => ?_
  refine WC.region ?_
  refine WL.pure (v := vP l 0) 3 rfl (Nat.le_of_ble_eq_true rfl) rfl rfl (by kernel_rfl) ?_
  refine WL.pure (v := .bool false) 4 rfl (Nat.le_of_ble_eq_true rfl) rfl rfl (by kernel_rfl) ?_
  refine WL.pure (v := .bool false) 5 rfl (Nat.le_of_ble_eq_true rfl) rfl rfl (by kernel_rfl) ?_
  refine WL.pure (v := vP l 0) 6 rfl (Nat.le_of_ble_eq_true rfl) rfl rfl (by kernel_rfl) ?_
  refine WL.pure (v := vP l 0) 7 rfl (Nat.le_of_ble_eq_true rfl) rfl rfl (by kernel_rfl) ?_
  refine WL.pure (v := vP l 1) 8 rfl (Nat.le_of_ble_eq_true rfl) rfl rfl (by kernel_rfl) ?_
  refine WL.pure (v := vI 8) 9 rfl (Nat.le_of_ble_eq_true rfl) rfl rfl (x_load rfl rfl Try.underlying3 rfl hc) ?_
  refine WL.pure (v := .bool false) 10 rfl (Nat.le_of_ble_eq_true rfl) rfl rfl (x_eql rfl rfl rfl (by decide)) ?_
  refine WL.pure (v := .bool false) 11 rfl (Nat.le_of_ble_eq_true rfl) rfl rfl (by kernel_rfl) ?_
  refine WL.pure (v := .bool false) 2 rfl (Nat.le_of_ble_eq_true rfl) rfl rfl (by kernel_rfl) ?_
  refine WL.nil ?_
  refine WQ.then ?_
  refine hK3 _ _ _ ?_
  refine WC.sub (l' := [(0, vP l 0), (2, .bool false)]) ⟨rfl, rfl, trivial⟩ ?_
  refine WC.ret ?_
  refine WQ.ret1 2 rfl rfl ?_
  exact ⟨rfl, rfl⟩
set_option maxRecDepth 20000 in
set_option maxHeartbeats 4000000 in
theorem Add_room (l : Nat) (pv : Option Addr) (cp : Nat) (xs : List Int) (lo : Int) (x : Int) (w : World) (hB : OwnB w (LG l pv cp xs lo)) (hx : wd x = true) (hn : xs.length < 8) :
    Calls Try.prog 83 #[vP l 0, vI x] w fun e w' => ∃ pv' cp', e = .returned (vI 0) ∧ HP (Out (LG l pv cp xs lo)) w w' (LG l pv' cp' (xs ++ [x]) lo) := by
  refine calls_of Try.func83 rfl (m := 48) rfl [(0, vP l 0), (1, vI x)] (Fr_enter [vP l 0, vI x] 48 (Nat.le_of_ble_eq_true rfl)) ?_
  refine WC.seq fun K1 hK1 => ?_
  refine WC.region ?_
  refine WL.pure (v := vI 0) 4 rfl (Nat.le_of_ble_eq_true rfl) rfl rfl (by kernel_rfl) ?_
  refine WL.nil ?_
  refine WQ.then ?_
  refine hK1 _ _ _ ?_
  refine WC.seq fun K2 hK2 => ?_
  refine WC.seq fun K3 hK3 => ?_
  refine WC.region ?_
  refine WL.pure (v := vP l 0) 5 rfl (Nat.le_of_ble_eq_true rfl) rfl rfl (by kernel_rfl) ?_
  refine WL.call (f := 99) (args := #[vP l 0]) 6 rfl (Nat.le_of_ble_eq_true rfl) rfl rfl (by kernel_rfl) ?_
  refine (gnone_any l _ (HP.cell (HP.startB hB) 0 rfl rfl)).mono ?_
  rintro e w4 ⟨rfl, rfl⟩
  refine ⟨_, rfl, ?_⟩
  refine WL.pure (v := .bool false) 7 rfl (Nat.le_of_ble_eq_true rfl) rfl rfl (by kernel_rfl) ?_
  refine WL.pure (v := vI x) 8 rfl (Nat.le_of_ble_eq_true rfl) rfl rfl (by kernel_rfl) ?_
  refine WL.call (f := 76) (args := #[vI x]) 9 rfl (Nat.le_of_ble_eq_true rfl) rfl rfl (by kernel_rfl) ?_
  refine (qword_any x _ hx).mono ?_
  rintro e w5 ⟨rfl, rfl⟩
  refine ⟨_, rfl, ?_⟩
  refine WL.pure (v := .bool false) 10 rfl (Nat.le_of_ble_eq_true rfl) rfl rfl (by kernel_rfl) ?_
  refine WL.pure (v := .bool false) 11 rfl (Nat.le_of_ble_eq_true rfl) rfl rfl (by kernel_rfl) ?_
  refine WL.nil ?_
  refine WQ.then ?_
  refine hK3 _ _ _ ?_
  refine WC.sub (l' := [(0, vP l 0), (1, vI x), (4, vI 0), (11, .bool false)]) ⟨rfl, rfl, rfl, rfl, trivial⟩ ?_
  refine WC.no rfl ?_
  refine WC.skip ?_
  refine WQ.then ?_
  refine hK2 _ _ _ ?_
  refine WC.seq fun K6 hK6 => ?_
  refine WC.seq fun K7 hK7 => ?_
  refine WC.still (by kernel_rfl) (by kernel_rfl) ?_
  have hH8 : HP (Out (LG l pv cp xs lo)) w _ [.cel l #[.slice pv xs.length cp, vI 8, vI lo] 134, .own (.slice pv xs.length cp) xs.length (iL xs) 3 1] := HP.drew (HP.startB hB)
  refine WS.val (v := vP l 0) 12 rfl (Nat.le_of_ble_eq_true rfl) rfl rfl (by kernel_rfl) ?_
  refine WS.val (v := vP l 0) 13 rfl (Nat.le_of_ble_eq_true rfl) rfl rfl (by kernel_rfl) ?_
  refine WS.val (v := vP l 0) 14 rfl (Nat.le_of_ble_eq_true rfl) rfl rfl (by kernel_rfl) ?_
  refine WS.val (v := .slice pv xs.length cp) 15 rfl (Nat.le_of_ble_eq_true rfl) rfl rfl (x_load rfl rfl Try.underlying58 rfl (HP.cell hH8 0 rfl rfl)) ?_
  refine WS.val (v := vI (xs.length : Int)) 16 rfl (Nat.le_of_ble_eq_true rfl) rfl rfl (by kernel_rfl) ?_
  refine WS.val (v := vP l 0) 17 rfl (Nat.le_of_ble_eq_true rfl) rfl rfl (by kernel_rfl) ?_
  refine WS.val (v := vP l 0) 18 rfl (Nat.le_of_ble_eq_true rfl) rfl rfl (by kernel_rfl) ?_
  refine WS.val (v := vP l 1) 19 rfl (Nat.le_of_ble_eq_true rfl) rfl rfl (by kernel_rfl) ?_
  refine WS.val (v := vI 8) 20 rfl (Nat.le_of_ble_eq_true rfl) rfl rfl (x_load rfl rfl Try.underlying3 rfl (HP.cell hH8 0 rfl rfl)) ?_
  refine WS.val (v := .bool false) 21 rfl (Nat.le_of_ble_eq_true rfl) rfl rfl (x_eql rfl rfl rfl (dF (by omega))) ?_
  refine WS.nilQ ?_
  refine WQ.then ?_
  refine hK7 _ _ _ ?_
  refine WC.sub (l' := [(0, vP l 0), (1, vI x), (4, vI 0), (11, .bool false), (21, .bool false)]) ⟨rfl, rfl, rfl, rfl, rfl, trivial⟩ ?_
  refine WC.no rfl ?_
  refine WC.skip ?_
  refine WQ.then ?_
  refine hK6 _ _ _ ?_
  refine WC.seq fun K9 hK9 => ?_
  refine WC.region ?_
  refine WL.pure (v := vP l 0) 38 rfl (Nat.le_of_ble_eq_true rfl) rfl rfl (by kernel_rfl) ?_
  refine WL.pure (v := vP l 0) 39 rfl (Nat.le_of_ble_eq_true rfl) rfl rfl (by kernel_rfl) ?_
  refine WL.pure (v := vP l 0) 40 rfl (Nat.le_of_ble_eq_true rfl) rfl rfl (by kernel_rfl) ?_
  refine WL.pure (v := vP l 0) 41 rfl (Nat.le_of_ble_eq_true rfl) rfl rfl (by kernel_rfl) ?_
  refine WL.pure (v := .slice pv xs.length cp) 42 rfl (Nat.le_of_ble_eq_true rfl) rfl rfl (x_load rfl rfl Try.underlying58 rfl (HP.cell hH8 0 rfl rfl)) ?_
  refine WL.pure (v := vI x) 43 rfl (Nat.le_of_ble_eq_true rfl) rfl rfl (by kernel_rfl) ?_
  refine WL.alloc (c := #[vI x]) (T := 3) hH8 44 rfl (by decide) rfl rfl (fun b10 => vS b10 1 1) (by kernel_rfl) (fun b10 w11 hw11 => ?_)
  have hH12 : HP (Out (LG l pv cp xs lo)) w w11 [.cel l #[.slice pv xs.length cp, vI 8, vI lo] 134, .own (.slice pv xs.length cp) xs.length (iL xs) 3 1, .cel b10 #[vI x] 3] := hw11.2
  have nb10 := hw11.1
  clear hw11
  obtain ⟨i0, hi0, hz0, hz1, hz2⟩ := infoI
  refine WL.appendSrc (k := xs.length) (m := 1) (iL [x]) 1 hH12 45 rfl (by decide) rfl rfl rfl rfl Try.underlying58 hi0 hz0 hz1 hz2 rfl (by decide) rfl (.inl ⟨_, rfl, fun q u hu => by rw [ad_add]; exact HP.cell hH12 2 rfl (by simpa using hu)⟩) (by simp) (iL_one _) (by unfold maxLen; omega) (by omega) ?_
  rintro v9 w9 - hB9
  have hA9 := HP.eq (H' := [.cel l #[.slice pv xs.length cp, vI 8, vI lo] 134, .own v9 (xs.length + 1) (iL (xs ++ [x])) 3 1, .cel b10 #[vI x] 3]) hB9 (by simp [iL])
  obtain ⟨pv9, cp9, rfl, -⟩ := own_row (xs := (xs ++ [x])) (HP.get hA9 1 rfl) rfl
  have hH13 : HP (Out (LG l pv cp xs lo)) w _ [.cel l #[.slice pv xs.length cp, vI 8, vI lo] 134, .own (.slice pv9 (xs.length + 1) cp9) (xs.length + 1) (iL (xs ++ [x])) 3 1, .cel b10 #[vI x] 3] := hA9
  refine WL.pure (v := vP l 0) 46 rfl (Nat.le_of_ble_eq_true rfl) rfl rfl (by kernel_rfl) ?_
  refine WL.pure (v := vP l 0) 47 rfl (Nat.le_of_ble_eq_true rfl) rfl rfl (by kernel_rfl) ?_
  refine WL.store (H2 := [.cel l #[.slice pv9 (xs.length + 1) cp9, vI 8, vI lo] 134, .own (.slice pv9 (xs.length + 1) cp9) (xs.length + 1) (iL (xs ++ [x])) 3 1, .cel b10 #[vI x] 3]) 0 hH13 rfl rfl rfl rfl rfl rfl sz58 rfl (Nat.le_of_ble_eq_true rfl) rfl rfl ?_
  intro w14 hH15
  refine WL.nil ?_
  refine WQ.then ?_
  refine hK9 _ _ _ ?_
  refine WC.sub (l' := [(0, vP l 0), (1, vI x), (4, vI 0), (11, .bool false), (21, .bool false)]) ⟨rfl, rfl, rfl, rfl, rfl, trivial⟩ ?_
  refine WC.seq fun K16 hK16 => ?_
  refine WC.region ?_
  refine WL.pure (v := vI 0) 4 rfl (Nat.le_of_ble_eq_true rfl) rfl rfl (by kernel_rfl) ?_
  refine WL.nil ?_
  refine WQ.then ?_
  refine hK16 _ _ _ ?_
  refine WC.ret ?_
  refine WQ.ret1 4 rfl rfl ?_
  have hl9 : (xs ++ [x]).length = xs.length + 1 := by simp
  exact ⟨pv9, cp9, rfl, HP.eq (HP.drop hH15 2) (by unfold LG; rw [hl9] <;> rfl)⟩
set_option maxRecDepth 20000 in
set_option maxHeartbeats 4000000 in
theorem Add_full (l : Nat) (pv : Option Addr) (cp : Nat) (xs : List Int) (lo : Int) (x : Int) (w : World) (hB : OwnB w (LG l pv cp xs lo)) (hx : wd x = true) (hn : xs.length = 8) (hlo : 0 ≤ lo ∧ lo ≤ 1000) :
    Calls Try.prog 83 #[vP l 0, vI x] w fun e w' => ∃ pv' cp', e = .returned (vI 0) ∧ HP (Out (LG l pv cp xs lo)) w w' (LG l pv' cp' (xs.drop 1 ++ [x]) (lo + 1)) := by
  refine calls_of Try.func83 rfl (m := 48) rfl [(0, vP l 0), (1, vI x)] (Fr_enter [vP l 0, vI x] 48 (Nat.le_of_ble_eq_true rfl)) ?_
  refine WC.seq fun K1 hK1 => ?_
  refine WC.region ?_
  refine WL.pure (v := vI 0) 4 rfl (Nat.le_of_ble_eq_true rfl) rfl rfl (by kernel_rfl) ?_
  refine WL.nil ?_
  refine WQ.then ?_
  refine hK1 _ _ _ ?_
  refine WC.seq fun K2 hK2 => ?_
  refine WC.seq fun K3 hK3 => ?_
  refine WC.region ?_
  refine WL.pure (v := vP l 0) 5 rfl (Nat.le_of_ble_eq_true rfl) rfl rfl (by kernel_rfl) ?_
  refine WL.call (f := 99) (args := #[vP l 0]) 6 rfl (Nat.le_of_ble_eq_true rfl) rfl rfl (by kernel_rfl) ?_
  refine (gnone_any l _ (HP.cell (HP.startB hB) 0 rfl rfl)).mono ?_
  rintro e w4 ⟨rfl, rfl⟩
  refine ⟨_, rfl, ?_⟩
  refine WL.pure (v := .bool false) 7 rfl (Nat.le_of_ble_eq_true rfl) rfl rfl (by kernel_rfl) ?_
  refine WL.pure (v := vI x) 8 rfl (Nat.le_of_ble_eq_true rfl) rfl rfl (by kernel_rfl) ?_
  refine WL.call (f := 76) (args := #[vI x]) 9 rfl (Nat.le_of_ble_eq_true rfl) rfl rfl (by kernel_rfl) ?_
  refine (qword_any x _ hx).mono ?_
  rintro e w5 ⟨rfl, rfl⟩
  refine ⟨_, rfl, ?_⟩
  refine WL.pure (v := .bool false) 10 rfl (Nat.le_of_ble_eq_true rfl) rfl rfl (by kernel_rfl) ?_
  refine WL.pure (v := .bool false) 11 rfl (Nat.le_of_ble_eq_true rfl) rfl rfl (by kernel_rfl) ?_
  refine WL.nil ?_
  refine WQ.then ?_
  refine hK3 _ _ _ ?_
  refine WC.sub (l' := [(0, vP l 0), (1, vI x), (4, vI 0), (11, .bool false)]) ⟨rfl, rfl, rfl, rfl, trivial⟩ ?_
  refine WC.no rfl ?_
  refine WC.skip ?_
  refine WQ.then ?_
  refine hK2 _ _ _ ?_
  refine WC.seq fun K6 hK6 => ?_
  refine WC.seq fun K7 hK7 => ?_
  refine WC.still (by kernel_rfl) (by kernel_rfl) ?_
  have hH8 : HP (Out (LG l pv cp xs lo)) w _ [.cel l #[.slice pv xs.length cp, vI 8, vI lo] 134, .own (.slice pv xs.length cp) xs.length (iL xs) 3 1] := HP.drew (HP.startB hB)
  refine WS.val (v := vP l 0) 12 rfl (Nat.le_of_ble_eq_true rfl) rfl rfl (by kernel_rfl) ?_
  refine WS.val (v := vP l 0) 13 rfl (Nat.le_of_ble_eq_true rfl) rfl rfl (by kernel_rfl) ?_
  refine WS.val (v := vP l 0) 14 rfl (Nat.le_of_ble_eq_true rfl) rfl rfl (by kernel_rfl) ?_
  refine WS.val (v := .slice pv xs.length cp) 15 rfl (Nat.le_of_ble_eq_true rfl) rfl rfl (x_load rfl rfl Try.underlying58 rfl (HP.cell hH8 0 rfl rfl)) ?_
  refine WS.val (v := vI (xs.length : Int)) 16 rfl (Nat.le_of_ble_eq_true rfl) rfl rfl (by kernel_rfl) ?_
  refine WS.val (v := vP l 0) 17 rfl (Nat.le_of_ble_eq_true rfl) rfl rfl (by kernel_rfl) ?_
  refine WS.val (v := vP l 0) 18 rfl (Nat.le_of_ble_eq_true rfl) rfl rfl (by kernel_rfl) ?_
  refine WS.val (v := vP l 1) 19 rfl (Nat.le_of_ble_eq_true rfl) rfl rfl (by kernel_rfl) ?_
  refine WS.val (v := vI 8) 20 rfl (Nat.le_of_ble_eq_true rfl) rfl rfl (x_load rfl rfl Try.underlying3 rfl (HP.cell hH8 0 rfl rfl)) ?_
  refine WS.val (v := .bool true) 21 rfl (Nat.le_of_ble_eq_true rfl) rfl rfl (x_eql rfl rfl rfl (dT (by omega))) ?_
  refine WS.nilQ ?_
  refine WQ.then ?_
  refine hK7 _ _ _ ?_
  refine WC.sub (l' := [(0, vP l 0), (1, vI x), (4, vI 0), (11, .bool false), (21, .bool true)]) ⟨rfl, rfl, rfl, rfl, rfl, trivial⟩ ?_
  refine WC.yes rfl ?_
  refine WC.seq fun K9 hK9 => ?_
  obtain ⟨g, hg, -⟩ := row_open (HP.get hH8 1 rfl) (show 0 < xs.length by omega)
  subst hg
  refine WC.region ?_
  refine WL.pure (v := vP l 0) 22 rfl (Nat.le_of_ble_eq_true rfl) rfl rfl (by kernel_rfl) ?_
  refine WL.pure (v := vP l 0) 23 rfl (Nat.le_of_ble_eq_true rfl) rfl rfl (by kernel_rfl) ?_
  refine WL.pure (v := vP l 0) 24 rfl (Nat.le_of_ble_eq_true rfl) rfl rfl (by kernel_rfl) ?_
  refine WL.pure (v := vP l 0) 25 rfl (Nat.le_of_ble_eq_true rfl) rfl rfl (by kernel_rfl) ?_
  refine WL.pure (v := vS g xs.length cp) 26 rfl (Nat.le_of_ble_eq_true rfl) rfl rfl (x_load rfl rfl Try.underlying58 rfl (HP.cell hH8 0 rfl rfl)) ?_
  refine WL.pure (v := .slice (some ⟨g, 1, none⟩) (xs.length - 1) (cp - 1)) 27 rfl (Nat.le_of_ble_eq_true rfl) rfl rfl (x_sliceG 1 rfl rfl rfl Try.underlying58 rfl (by omega) (row_cap (HP.get hH8 1 rfl)).1 sz3 (by have := (row_cap (HP.get hH8 1 rfl)).1; omega)) ?_
  obtain ⟨g1, hg1, hrow⟩ := row_open (HP.get hH8 1 rfl) (show 0 < xs.length by omega)
  cases hg1
  have hdl : (xs.drop 1).length = xs.length - 1 := by simp
  refine WL.call (f := 94) (args := #[.slice (some ⟨g, 1, none⟩) (xs.length - 1) (cp - 1)]) 28 rfl (Nat.le_of_ble_eq_true rfl) rfl rfl (by kernel_rfl) ?_
  have hcl := Clone_at g 1 (cp - 1) (xs.drop 1) _ (fun i hi => by rw [getD_drop']; exact hrow (1 + i) (by omega)) (by omega)
  rw [hdl] at hcl
  refine hcl.mono ?_
  rintro e w5 ⟨pv5, cp5, rfl, hb5⟩
  rw [hdl] at hb5 ⊢
  refine ⟨_, rfl, ?_⟩
  have hH10 : HP (Out (LG l (some ⟨g, 0, none⟩) cp xs lo)) w _ [.cel l #[.slice (some ⟨g, 0, none⟩) xs.length cp, vI 8, vI lo] 134, .own (.slice (some ⟨g, 0, none⟩) xs.length cp) xs.length (iL xs) 3 1, .own (.slice pv5 (xs.length - 1) cp5) (xs.length - 1) (iL (xs.drop 1)) 3 1] := HP.trans hH8 hb5
  refine WL.pure (v := vP l 0) 29 rfl (Nat.le_of_ble_eq_true rfl) rfl rfl (by kernel_rfl) ?_
  refine WL.pure (v := vP l 0) 30 rfl (Nat.le_of_ble_eq_true rfl) rfl rfl (by kernel_rfl) ?_
  refine WL.store (H2 := [.cel l #[.slice pv5 (xs.length - 1) cp5, vI 8, vI lo] 134, .own (.slice (some ⟨g, 0, none⟩) xs.length cp) xs.length (iL xs) 3 1, .own (.slice pv5 (xs.length - 1) cp5) (xs.length - 1) (iL (xs.drop 1)) 3 1]) 0 hH10 rfl rfl rfl rfl rfl rfl sz58 rfl (Nat.le_of_ble_eq_true rfl) rfl rfl ?_
  intro w11 hH12
  refine WL.nil ?_
  refine WQ.then ?_
  refine hK9 _ _ _ ?_
  refine WC.sub (l' := [(0, vP l 0), (1, vI x), (4, vI 0), (11, .bool false), (21, .bool true)]) ⟨rfl, rfl, rfl, rfl, rfl, trivial⟩ ?_
  refine WC.region ?_
  refine WL.pure (v := vP l 0) 31 rfl (Nat.le_of_ble_eq_true rfl) rfl rfl (by kernel_rfl) ?_
  refine WL.pure (v := vP l 0) 32 rfl (Nat.le_of_ble_eq_true rfl) rfl rfl (by kernel_rfl) ?_
  refine WL.pure (v := vP l 2) 33 rfl (Nat.le_of_ble_eq_true rfl) rfl rfl (by kernel_rfl) ?_
  refine WL.pure (v := vI lo) 34 rfl (Nat.le_of_ble_eq_true rfl) rfl rfl (x_load rfl rfl Try.underlying3 rfl (HP.cell hH12 0 rfl rfl)) ?_
  refine WL.pure (v := vI (lo + 1)) 35 rfl (Nat.le_of_ble_eq_true rfl) rfl rfl (x_add (Z := lo + 1) rfl rfl rfl (by omega) (by omega) (by omega)) ?_
  refine WL.pure (v := vP l 0) 36 rfl (Nat.le_of_ble_eq_true rfl) rfl rfl (by kernel_rfl) ?_
  refine WL.pure (v := vP l 2) 37 rfl (Nat.le_of_ble_eq_true rfl) rfl rfl (by kernel_rfl) ?_
  refine WL.store (H2 := [.cel l #[.slice pv5 (xs.length - 1) cp5, vI 8, vI (lo + 1)] 134, .own (.slice (some ⟨g, 0, none⟩) xs.length cp) xs.length (iL xs) 3 1, .own (.slice pv5 (xs.length - 1) cp5) (xs.length - 1) (iL (xs.drop 1)) 3 1]) 0 hH12 rfl rfl rfl rfl rfl rfl sz3 rfl (Nat.le_of_ble_eq_true rfl) rfl rfl ?_
  intro w13 hH14
  refine WL.nil ?_
  refine WQ.then ?_
  refine hK6 _ _ _ ?_
  refine WC.sub (l' := [(0, vP l 0), (1, vI x), (4, vI 0), (11, .bool false), (21, .bool true)]) ⟨rfl, rfl, rfl, rfl, rfl, trivial⟩ ?_
  refine WC.seq fun K15 hK15 => ?_
  have hH16 : HP (Out (LG l (some ⟨g, 0, none⟩) cp xs lo)) w _ [.cel l #[.slice pv5 (xs.length - 1) cp5, vI 8, vI (lo + 1)] 134, .own (.slice pv5 (xs.length - 1) cp5) (xs.length - 1) (iL (xs.drop 1)) 3 1] := HP.drop hH14 1
  refine WC.region ?_
  refine WL.pure (v := vP l 0) 38 rfl (Nat.le_of_ble_eq_true rfl) rfl rfl (by kernel_rfl) ?_
  refine WL.pure (v := vP l 0) 39 rfl (Nat.le_of_ble_eq_true rfl) rfl rfl (by kernel_rfl) ?_
  refine WL.pure (v := vP l 0) 40 rfl (Nat.le_of_ble_eq_true rfl) rfl rfl (by kernel_rfl) ?_
  refine WL.pure (v := vP l 0) 41 rfl (Nat.le_of_ble_eq_true rfl) rfl rfl (by kernel_rfl) ?_
  refine WL.pure (v := .slice pv5 (xs.length - 1) cp5) 42 rfl (Nat.le_of_ble_eq_true rfl) rfl rfl (x_load rfl rfl Try.underlying58 rfl (HP.cell hH16 0 rfl rfl)) ?_
  refine WL.pure (v := vI x) 43 rfl (Nat.le_of_ble_eq_true rfl) rfl rfl (by kernel_rfl) ?_
  refine WL.alloc (c := #[vI x]) (T := 3) hH16 44 rfl (by decide) rfl rfl (fun b17 => vS b17 1 1) (by kernel_rfl) (fun b17 w18 hw18 => ?_)
  have hH19 : HP (Out (LG l (some ⟨g, 0, none⟩) cp xs lo)) w w18 [.cel l #[.slice pv5 (xs.length - 1) cp5, vI 8, vI (lo + 1)] 134, .own (.slice pv5 (xs.length - 1) cp5) (xs.length - 1) (iL (xs.drop 1)) 3 1, .cel b17 #[vI x] 3] := hw18.2
  have nb17 := hw18.1
  clear hw18
  obtain ⟨i0, hi0, hz0, hz1, hz2⟩ := infoI
  refine WL.appendSrc (k := xs.length - 1) (m := 1) (iL [x]) 1 hH19 45 rfl (by decide) rfl rfl rfl rfl Try.underlying58 hi0 hz0 hz1 hz2 rfl (by decide) rfl (.inl ⟨_, rfl, fun q u hu => by rw [ad_add]; exact HP.cell hH19 2 rfl (by simpa using hu)⟩) (by simp) (iL_one _) (by unfold maxLen; omega) (by omega) ?_
  rintro v9 w9 - hB9
  have hA9 := HP.eq (H' := [.cel l #[.slice pv5 (xs.length - 1) cp5, vI 8, vI (lo + 1)] 134, .own v9 (xs.length - 1 + 1) (iL (xs.drop 1 ++ [x])) 3 1, .cel b17 #[vI x] 3]) hB9 (by simp [iL])
  obtain ⟨pv9, cp9, rfl, -⟩ := own_row (xs := (xs.drop 1 ++ [x])) (HP.get hA9 1 rfl) rfl
  have hH20 : HP (Out (LG l (some ⟨g, 0, none⟩) cp xs lo)) w _ [.cel l #[.slice pv5 (xs.length - 1) cp5, vI 8, vI (lo + 1)] 134, .own (.slice pv9 (xs.length - 1 + 1) cp9) (xs.length - 1 + 1) (iL (xs.drop 1 ++ [x])) 3 1, .cel b17 #[vI x] 3] := hA9
  refine WL.pure (v := vP l 0) 46 rfl (Nat.le_of_ble_eq_true rfl) rfl rfl (by kernel_rfl) ?_
  refine WL.pure (v := vP l 0) 47 rfl (Nat.le_of_ble_eq_true rfl) rfl rfl (by kernel_rfl) ?_
  refine WL.store (H2 := [.cel l #[.slice pv9 (xs.length - 1 + 1) cp9, vI 8, vI (lo + 1)] 134, .own (.slice pv9 (xs.length - 1 + 1) cp9) (xs.length - 1 + 1) (iL (xs.drop 1 ++ [x])) 3 1, .cel b17 #[vI x] 3]) 0 hH20 rfl rfl rfl rfl rfl rfl sz58 rfl (Nat.le_of_ble_eq_true rfl) rfl rfl ?_
  intro w21 hH22
  refine WL.nil ?_
  refine WQ.then ?_
  refine hK15 _ _ _ ?_
  refine WC.sub (l' := [(0, vP l 0), (1, vI x), (4, vI 0), (11, .bool false), (21, .bool true)]) ⟨rfl, rfl, rfl, rfl, rfl, trivial⟩ ?_
  refine WC.seq fun K23 hK23 => ?_
  refine WC.region ?_
  refine WL.pure (v := vI 0) 4 rfl (Nat.le_of_ble_eq_true rfl) rfl rfl (by kernel_rfl) ?_
  refine WL.nil ?_
  refine WQ.then ?_
  refine hK23 _ _ _ ?_
  refine WC.ret ?_
  refine WQ.ret1 4 rfl rfl ?_
  have hl9 : (xs.drop 1 ++ [x]).length = xs.length := by simp; omega
  have hl8 : xs.length - 1 + 1 = xs.length := by omega
  have hF := (HP.drop hH22 2)
  rw [hl8] at hF
  exact ⟨pv9, cp9, rfl, HP.eq hF (by unfold LG; rw [hl9] <;> rfl)⟩
set_option maxRecDepth 20000 in
set_option maxHeartbeats 4000000 in
theorem Last_any (l : Nat) (pv : Option Addr) (cp : Nat) (xs : List Int) (lo : Int) (w : World) (hB : OwnB w (LG l pv cp xs lo)) (hn : xs.length ≤ 8) :
    Calls Try.prog 84 #[vP l 0] w (ItR w xs) := by
  have hc := HP.cell (HP.startB hB) 0 (off := 1) rfl rfl
  have hs := HP.cell (HP.startB hB) 0 (off := 0) rfl rfl
  have ho := HP.cell (HP.startB hB) 0 (off := 2) rfl rfl
  have hh : Ent.holds w (row pv xs.length cp xs) := HP.get (HP.startB hB) 1 rfl
  refine calls_of Try.func84 rfl (m := 10) rfl [(0, vP l 0)] (Fr_enter [vP l 0] 10 (Nat.le_of_ble_eq_true rfl)) ?_
  have hH1 : HP Tr w w [] := HP.refl w
  refine WC.seq fun K2 hK2 => ?_
  refine WC.region ?_
  refine WL.pure (v := .slice none 0 0) 2 rfl (Nat.le_of_ble_eq_true rfl) rfl rfl (by kernel_rfl) ?_
  refine WL.nil ?_
  refine WQ.then ?_
  refine hK2 _ _ _ ?_
  refine WC.seq fun K3 hK3 => ?_
  refine WC.seq fun K4 hK4 => ?_
  refine WC.region ?_
  refine WL.pure (v := vP l 0) 3 rfl (Nat.le_of_ble_eq_true rfl) rfl rfl (by kernel_rfl) ?_
  refine WL.call (f := 99) (args := #[vP l 0]) 4 rfl (Nat.le_of_ble_eq_true rfl) rfl rfl (by kernel_rfl) ?_
  refine (gnone_any l _ (HP.old hH1 trivial hc)).mono ?_
  rintro e w5 ⟨rfl, rfl⟩
  refine ⟨_, rfl, ?_⟩
  refine WL.nil ?_
  refine WQ.then ?_
  refine hK4 _ _ _ ?_
  refine WC.no rfl ?_
  refine WC.skip ?_
  refine WQ.then ?_
  refine hK3 _ _ _ ?_
  refine WC.seq fun K6 hK6 => ?_
  refine WC.region ?_
  refine WL.pure (v := vP l 0) 5 rfl (Nat.le_of_ble_eq_true rfl) rfl rfl (by kernel_rfl) ?_
  refine WL.pure (v := vP l 0) 6 rfl (Nat.le_of_ble_eq_true rfl) rfl rfl (by kernel_rfl) ?_
  refine WL.pure (v := vP l 0) 7 rfl (Nat.le_of_ble_eq_true rfl) rfl rfl (by kernel_rfl) ?_
  refine WL.pure (v := .slice pv xs.length cp) 8 rfl (Nat.le_of_ble_eq_true rfl) rfl rfl (x_load rfl rfl Try.underlying58 rfl (HP.old hH1 trivial hs)) ?_
  refine WL.call (f := 94) (args := #[.slice pv xs.length cp]) 9 rfl (Nat.le_of_ble_eq_true rfl) rfl rfl (by kernel_rfl) ?_
  refine (Lb.Clone_any pv cp xs _ (row_below (HP.below hH1) hh) (by omega)).mono ?_
  rintro e w7 ⟨pv8, cp8, rfl, hb8⟩
  refine ⟨_, rfl, ?_⟩
  have hH9 : HP Tr w _ [.own (.slice pv8 xs.length cp8) xs.length (iL xs) 3 1] := HP.trans hH1 hb8
  refine WL.pure (v := .slice pv8 xs.length cp8) 2 rfl (Nat.le_of_ble_eq_true rfl) rfl rfl (by kernel_rfl) ?_
  refine WL.nil ?_
  refine WQ.then ?_
  refine hK6 _ _ _ ?_
  refine WC.sub (l' := [(0, vP l 0), (2, .slice pv8 xs.length cp8), (4, .bool false)]) ⟨rfl, rfl, rfl, trivial⟩ ?_
  refine WC.ret ?_
  refine WQ.ret1 2 rfl rfl ?_
  exact ⟨pv8, cp8, rfl, hH9⟩
set_option maxRecDepth 20000 in
set_option maxHeartbeats 4000000 in
theorem Lost_any (l : Nat) (pv : Option Addr) (cp : Nat) (xs : List Int) (lo : Int) (w : World) (hB : OwnB w (LG l pv cp xs lo)) (hn : xs.length ≤ 8) :
    Calls Try.prog 85 #[vP l 0] w fun e w' => e = .returned (vI lo) ∧ Below w.heap.size w w' := by
  have hc := HP.cell (HP.startB hB) 0 (off := 1) rfl rfl
  have hs := HP.cell (HP.startB hB) 0 (off := 0) rfl rfl
  have ho := HP.cell (HP.startB hB) 0 (off := 2) rfl rfl
  have hh : Ent.holds w (row pv xs.length cp xs) := HP.get (HP.startB hB) 1 rfl
  refine calls_of Try.func85 rfl (m := 9) rfl [(0, vP l 0)] (Fr_enter [vP l 0] 9 (Nat.le_of_ble_eq_true rfl)) ?_
  have hH1 : HP Tr w w [] := HP.refl w
  refine WC.seq fun K2 hK2 => ?_
  refine WC.region ?_
  refine WL.pure (v := vI 0) 2 rfl (Nat.le_of_ble_eq_true rfl) rfl rfl (by kernel_rfl) ?_
  refine WL.nil ?_
  refine WQ.then ?_
  refine hK2 _ _ _ ?_
  refine WC.seq fun K3 hK3 => ?_
  refine WC.seq fun K4 hK4 => ?_
  refine WC.region ?_
  refine WL.pure (v := vP l 0) 3 rfl (Nat.le_of_ble_eq_true rfl) rfl rfl (by kernel_rfl) ?_
  refine WL.call (f := 99) (args := #[vP l 0]) 4 rfl (Nat.le_of_ble_eq_true rfl) rfl rfl (by kernel_rfl) ?_
  refine (gnone_any l _ (HP.old hH1 trivial hc)).mono ?_
  rintro e w5 ⟨rfl, rfl⟩
  refine ⟨_, rfl, ?_⟩
  refine WL.nil ?_
  refine WQ.then ?_
  refine hK4 _ _ _ ?_
  refine WC.no rfl ?_
  refine WC.skip ?_
  refine WQ.then ?_
  refine hK3 _ _ _ ?_
  refine WC.seq fun K6 hK6 => ?_
  refine WC.region ?_
  refine WL.pure (v := vP l 0) 5 rfl (Nat.le_of_ble_eq_true rfl) rfl rfl (by kernel_rfl) ?_
  refine WL.pure (v := vP l 0) 6 rfl (Nat.le_of_ble_eq_true rfl) rfl rfl (by kernel_rfl) ?_
  refine WL.pure (v := vP l 2) 7 rfl (Nat.le_of_ble_eq_true rfl) rfl rfl (by kernel_rfl) ?_
  refine WL.pure (v := vI lo) 8 rfl (Nat.le_of_ble_eq_true rfl) rfl rfl (x_load rfl rfl Try.underlying3 rfl (HP.old hH1 trivial ho)) ?_
  refine WL.pure (v := vI lo) 2 rfl (Nat.le_of_ble_eq_true rfl) rfl rfl (by kernel_rfl) ?_
  refine WL.nil ?_
  refine WQ.then ?_
  refine hK6 _ _ _ ?_
  refine WC.sub (l' := [(0, vP l 0), (2, vI lo), (4, .bool false)]) ⟨rfl, rfl, rfl, trivial⟩ ?_
  refine WC.ret ?_
  refine WQ.ret1 2 rfl rfl ?_
  exact ⟨rfl, HP.below hH1⟩
set_option maxRecDepth 20000 in
set_option maxHeartbeats 4000000 in
theorem NewLog_any (w : World) :
    Calls Try.prog 82 #[vI 8] w fun e w' => ∃ l, e = .returned (.tuple #[vP l 0, vI 0]) ∧ HP Tr w w' (LG l none 0 [] 0) := by
  refine calls_of Try.func82 rfl (m := 13) rfl [(0, vI 8)] (Fr_enter [vI 8] 13 (Nat.le_of_ble_eq_true rfl)) ?_
  have hH1 : HP Tr w w [] := HP.refl w
  refine WC.seq fun K2 hK2 => ?_
  refine WC.region ?_
  refine WL.pure (v := .pointer none) 2 rfl (Nat.le_of_ble_eq_true rfl) rfl rfl (by kernel_rfl) ?_
  refine WL.pure (v := vI 0) 3 rfl (Nat.le_of_ble_eq_true rfl) rfl rfl (by kernel_rfl) ?_
  refine WL.nil ?_
  refine WQ.then ?_
  refine hK2 _ _ _ ?_
  refine WC.seq fun K3 hK3 => ?_
  refine WC.seq fun K4 hK4 => ?_
  refine WC.region ?_
  refine WL.pure (v := vI 8) 4 rfl (Nat.le_of_ble_eq_true rfl) rfl rfl (by kernel_rfl) ?_
  refine WL.pure (v := .bool false) 5 rfl (Nat.le_of_ble_eq_true rfl) rfl rfl (x_lss rfl rfl rfl (by decide)) ?_
  refine WL.pure (v := .bool false) 6 rfl (Nat.le_of_ble_eq_true rfl) rfl rfl (by kernel_rfl) ?_
  refine WL.pure (v := vI 8) 7 rfl (Nat.le_of_ble_eq_true rfl) rfl rfl (by kernel_rfl) ?_
  refine WL.pure (v := .bool false) 8 rfl (Nat.le_of_ble_eq_true rfl) rfl rfl (x_gtr rfl rfl rfl (by decide)) ?_
  refine WL.pure (v := .bool false) 9 rfl (Nat.le_of_ble_eq_true rfl) rfl rfl (by kernel_rfl) ?_
  refine WL.nil ?_
  refine WQ.then ?_
  refine hK4 _ _ _ ?_
  refine WC.no rfl ?_
  refine WC.skip ?_
  refine WQ.then ?_
  refine hK3 _ _ _ ?_
  refine WC.seq fun K5 hK5 => ?_
  refine WC.region ?_
  refine WL.pure (v := vI 8) 10 rfl (Nat.le_of_ble_eq_true rfl) rfl rfl (by kernel_rfl) ?_
  refine WL.pure (v := .agg #[.slice none 0 0, vI 8, vI 0]) 11 rfl (Nat.le_of_ble_eq_true rfl) rfl rfl (by kernel_rfl) ?_
  refine WL.alloc (c := #[.slice none 0 0, vI 8, vI 0]) (T := 134) hH1 12 rfl (by decide) rfl rfl (fun bl => vP bl 0) (by kernel_rfl) (fun bl w6 hw6 => ?_)
  have hH7 : HP Tr w w6 [.cel bl #[.slice none 0 0, vI 8, vI 0] 134] := hw6.2
  have nbl := hw6.1
  clear hw6
  refine WL.pure (v := vP bl 0) 2 rfl (Nat.le_of_ble_eq_true rfl) rfl rfl (by kernel_rfl) ?_
  refine WL.pure (v := vI 0) 3 rfl (Nat.le_of_ble_eq_true rfl) rfl rfl (by kernel_rfl) ?_
  refine WL.nil ?_
  refine WQ.then ?_
  refine hK5 _ _ _ ?_
  refine WC.sub (l' := [(0, vI 8), (2, vP bl 0), (3, vI 0), (9, .bool false)]) ⟨rfl, rfl, rfl, rfl, trivial⟩ ?_
  refine WC.ret ?_
  refine WQ.ret2 2 3 rfl rfl rfl ?_
  exact ⟨bl, rfl, HP.ownNil hH7 3 1⟩
end Qg
end Go.Proofs.Ytgdfbpphfanocaa
