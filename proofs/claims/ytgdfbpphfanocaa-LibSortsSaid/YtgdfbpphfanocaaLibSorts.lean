/-
  The statement LibSorts: for every room and script of calls the law returns true.
  Conditions: none beyond those of the given row.
-/
import Derived.Test.YtgdfbpphfanocaaRows
import Derived.Test.YtgdfbpphfanocaaHE
import Derived.Test.YtgdfbpphfanocaaDG
import Derived.Test.YtgdfbpphfanocaaDE
import Derived.Test.YtgdfbpphfanocaaCY
import Derived.ProofKit
import Derived.OpenShut
import Derived.ShutString
import Derived.ChangeOld
import Derived.Lib.SmallJoins
set_option linter.unusedVariables false
set_option linter.unusedSimpArgs false
namespace Go.Proofs.Ytgdfbpphfanocaa.libSorts
open Go.ChangeShapes Go.WideShapes Go.ChangeAt Go.RowKit Go.Joins
open Go.ChangeMaps (open_string shut_string)
open Lc Lb Fw

theorem sz30 : (Try.prog.info? 30).map (·.size) = some 5 := by kernel_rfl
theorem ops_in {W : World} {p : Option Addr} {n cap : Nat} {f : Nat → O5} (h : OpsRow W p n cap f) (h0 : 0 < n) : ∃ bb oo, p = some ⟨bb, oo, none⟩ ∧ ∀ i, i < n → W.rangeAt bb (oo + i * 5) [vI (f i).d, vI (f i).a, vI (f i).v, .bool (f i).f, .string (f i).s] := by
  obtain ⟨a, rfl⟩ := h.som h0
  have hsp : a.spot = none := by
    have hc := h.c0 a 0 rfl h0
    rw [Nat.zero_mul, show a.add 0 = a by unfold Addr.add; simp] at hc
    unfold World.cell? at hc
    cases hsp : a.spot with
    | none => rfl
    | some q => rw [hsp] at hc; simp at hc; split at hc <;> simp at hc
  obtain ⟨bb, oo, sp⟩ := a
  simp only at hsp
  subst hsp
  refine ⟨bb, oo, rfl, fun i hi j v hv => ?_⟩
  have c0 := h.c0 _ i rfl hi
  have c1 := h.c1 _ i rfl hi
  have c2 := h.c2 _ i rfl hi
  have c3 := h.c3 _ i rfl hi
  have c4 := h.c4 _ i rfl hi
  simp only [Lb.ad_add] at c0 c1 c2 c3 c4
  match j, hv with
  | 0, hv => simp at hv; subst hv; exact c0
  | 1, hv => simp at hv; subst hv; exact c1
  | 2, hv => simp at hv; subst hv; exact c2
  | 3, hv => simp at hv; subst hv; exact c3
  | 4, hv => simp at hv; subst hv; exact c4
  | j + 5, hv => simp at hv
def sIns : ByteArray := ⟨#[105, 110, 115, 101, 114, 116]⟩
theorem ctr_ins {n : Int} (h : Lc.rm n = true) : Lc.ctr ⟨#[105, 110, 115, 101, 114, 116]⟩ n = ⟨Lc.dg n + n, 0⟩ := by
  have e : (⟨#[105, 110, 115, 101, 114, 116]⟩ : ByteArray).toList = [105, 110, 115, 101, 114, 116] := by rw [ByteArray.toList_eq]
  unfold Lc.ctr; rw [h, e]; rfl
theorem ctr_rem {n : Int} (h : Lc.rm n = true) : Lc.ctr ⟨#[114, 101, 109, 111, 118, 101]⟩ n = ⟨Lc.dg n + n, 0⟩ := by
  have e : (⟨#[114, 101, 109, 111, 118, 101]⟩ : ByteArray).toList = [114, 101, 109, 111, 118, 101] := by rw [ByteArray.toList_eq]
  unfold Lc.ctr; rw [h, e]; rfl
theorem ctr_fnd {n : Int} (h : Lc.rm n = true) : Lc.ctr ⟨#[102, 105, 110, 100]⟩ n = ⟨Lc.dg n, 0⟩ := by
  have e : (⟨#[102, 105, 110, 100]⟩ : ByteArray).toList = [102, 105, 110, 100] := by rw [ByteArray.toList_eq]
  unfold Lc.ctr; rw [h, e]; rfl
theorem bl_R {R : Int} {xs : List Int} (h2 : R ≤ 32) (hx : (xs.length : Int) ≤ R) : (Lib.bitLen xs.length : Int) ≤ Lc.dg R := by
  unfold Lc.dg
  have := bl_mono R.toNat (by omega) xs.length (by omega) (by omega)
  omega
section
variable {R : Int} {xs : List Int} {x : Int}
theorem len_in (h2 : R ≤ 32) (hx : (xs.length : Int) ≤ R) (hs : srt xs) : ((inX R xs x).length : Int) ≤ R := by
  unfold inX
  split
  · rename_i h
    have h4 := (s_spec (x := x) (by omega) hs).1
    rw [len_ins h4]
    rcases Int.lt_or_le (xs.length : Int) R with h3 | h3
    · omega
    · exfalso
      cases hw : Lc.wd x with
      | false => rw [(ps_1 (fr := true) hw).1] at h; cases h
      | true => rw [(ps_14 (fr := true) hw h3).1] at h; cases h
  · exact hx
theorem srt_in (h2 : R ≤ 32) (hx : (xs.length : Int) ≤ R) (hs : srt xs) : srt (inX R xs x) := by
  unfold inX
  split
  · exact srt_ins (by omega) hs
  · exact hs
theorem in_bd (h2 : R ≤ 32) (hx : (xs.length : Int) ≤ R) (hs : srt xs) : 0 ≤ inS R xs x ∧ inS R xs x ≤ Lc.dg R + R := by
  have h4 := s_spec (x := x) (by omega) hs
  have h5 := bl_R h2 hx
  have h6 := h4.2.1
  have h7 : (0 : Int) ≤ Lc.dg R := by unfold Lc.dg; omega
  unfold inS
  split <;> omega
theorem fd_bd (h2 : R ≤ 32) (hx : (xs.length : Int) ≤ R) (hs : srt xs) : 0 ≤ fdS xs x ∧ fdS xs x ≤ Lc.dg R := by
  have h4 := f_spec (x := x) (by omega) hs
  have h5 := bl_R h2 hx
  have h6 := h4.2
  have h7 : (0 : Int) ≤ Lc.dg R := by unfold Lc.dg; omega
  unfold fdS
  split <;> omega
theorem rm_bd (h2 : R ≤ 32) (hx : (xs.length : Int) ≤ R) (hs : srt xs) : 0 ≤ rmS xs x ∧ rmS xs x ≤ Lc.dg R + R := by
  have h4 := f_spec (x := x) (by omega) hs
  have h5 := bl_R h2 hx
  have h6 := h4.2
  have h7 := fd_bd (x := x) h2 hx hs
  unfold rmS
  split <;> omega
theorem len_rm (hx : (xs.length : Int) ≤ R) : ((rmX xs x).length : Int) ≤ R := by
  unfold rmX
  split
  · rename_i h
    have h4 := (fd_hit h).1.1
    have := len_del (xs := xs) h4
    omega
  · exact hx
theorem srt_rm (hs : srt xs) : srt (rmX xs x) := by
  unfold rmX
  split
  · rename_i h
    exact srt_del (fd_hit h).1.1 hs
  · exact hs
theorem srt_nil : srt [] := fun i j _ h => absurd h (by simp)
end
set_option maxRecDepth 20000 in
set_option maxHeartbeats 4000000 in
theorem walk (R : Int) (p : Option Addr) (n cap : Nat) (f : Nat → O5) (w : World) (w0 : (Lit.int .i64 R).wf = true) (hrow : OpsRow w p n cap f) :
    Calls Try.prog 8 #[vI R, .slice p n cap] w fun e w' => e = .returned (.bool true) ∧ Below w.heap.size w w' := by
  refine calls_of Try.func8 rfl (m := 190) rfl [(0, vI R), (1, .slice p n cap)] (Fr_enter [vI R, .slice p n cap] 190 (Nat.le_of_ble_eq_true rfl)) ?_
  have hH1 : HP Tr w w [] := HP.refl w
  refine WC.seq fun K2 hK2 => ?_
  refine WC.region ?_
  refine WL.pure (v := .bool false) 4 rfl (Nat.le_of_ble_eq_true rfl) rfl rfl (by kernel_rfl) ?_
  refine WL.nil ?_
  refine WQ.then ?_
  refine hK2 _ _ _ ?_
  refine WC.seq fun K3 hK3 => ?_
  refine WC.region ?_
  refine WL.pure (v := vI R) 29 rfl (Nat.le_of_ble_eq_true rfl) rfl rfl (by kernel_rfl) ?_
  refine WL.call (f := 35) (args := #[vI R]) 30 rfl (Nat.le_of_ble_eq_true rfl) rfl rfl (by kernel_rfl) ?_
  refine (NewSorted_any R _).mono ?_
  rintro e w1 (⟨hrm, rfl, hb⟩ | ⟨hrm, l, rfl, hb⟩)
  ·
    refine ⟨_, rfl, ?_⟩
    have hH4 : HP Tr w _ [] := HP.call hH1 hb
    refine WL.pure (v := .tuple #[.pointer none, vI 1]) 28 rfl (Nat.le_of_ble_eq_true rfl) rfl rfl (by kernel_rfl) ?_
    refine WL.pure (v := .pointer none) 31 rfl (Nat.le_of_ble_eq_true rfl) rfl rfl (by kernel_rfl) ?_
    refine WL.pure (v := vI 1) 32 rfl (Nat.le_of_ble_eq_true rfl) rfl rfl (by kernel_rfl) ?_
    refine WL.pure (v := .pointer none) 5 rfl (Nat.le_of_ble_eq_true rfl) rfl rfl (by kernel_rfl) ?_
    refine WL.pure (v := vI 1) 6 rfl (Nat.le_of_ble_eq_true rfl) rfl rfl (by kernel_rfl) ?_
    refine WL.nil ?_
    refine WQ.then ?_
    refine hK3 _ _ _ ?_
    refine WC.seq fun K5 hK5 => ?_
    refine WC.region ?_
    refine WL.pure (v := vI R) 34 rfl (Nat.le_of_ble_eq_true rfl) rfl rfl (by kernel_rfl) ?_
    refine WL.call (f := 36) (args := #[vI R]) 35 rfl (Nat.le_of_ble_eq_true rfl) rfl rfl (by kernel_rfl) ?_
    refine (rNewSorted_any R _).mono ?_
    rintro e w2 (⟨-, rfl, hb⟩ | ⟨hrm2, -⟩)
    rotate_left
    · rw [hrm] at hrm2; cases hrm2
    refine ⟨_, rfl, ?_⟩
    have hH6 : HP Tr w _ [] := HP.call hH4 hb
    refine WL.pure (v := .tuple #[.pointer none, vI 1]) 33 rfl (Nat.le_of_ble_eq_true rfl) rfl rfl (by kernel_rfl) ?_
    refine WL.pure (v := .pointer none) 36 rfl (Nat.le_of_ble_eq_true rfl) rfl rfl (by kernel_rfl) ?_
    refine WL.pure (v := vI 1) 37 rfl (Nat.le_of_ble_eq_true rfl) rfl rfl (by kernel_rfl) ?_
    refine WL.pure (v := .pointer none) 7 rfl (Nat.le_of_ble_eq_true rfl) rfl rfl (by kernel_rfl) ?_
    refine WL.pure (v := vI 1) 8 rfl (Nat.le_of_ble_eq_true rfl) rfl rfl (by kernel_rfl) ?_
    refine WL.nil ?_
    refine WQ.then ?_
    refine hK5 _ _ _ ?_
    refine WC.sub (l' := [(0, vI R), (1, .slice p n cap), (4, .bool false), (5, .pointer none), (6, vI 1), (7, .pointer none), (8, vI 1)]) ⟨rfl, rfl, rfl, rfl, rfl, rfl, rfl, trivial⟩ ?_
    refine WC.seq fun K7 hK7 => ?_
    refine WC.seq fun K8 hK8 => ?_
    refine WC.region ?_
    refine WL.pure (v := vI 1) 38 rfl (Nat.le_of_ble_eq_true rfl) rfl rfl (by kernel_rfl) ?_
    refine WL.pure (v := vI 1) 39 rfl (Nat.le_of_ble_eq_true rfl) rfl rfl (by kernel_rfl) ?_
    refine WL.pure (v := .bool false) 40 rfl (Nat.le_of_ble_eq_true rfl) rfl rfl (x_neq rfl rfl rfl (by decide)) ?_
    refine WL.nil ?_
    refine WQ.then ?_
    refine hK8 _ _ _ ?_
    refine WC.no rfl ?_
    refine WC.skip ?_
    refine WQ.then ?_
    refine hK7 _ _ _ ?_
    refine WC.seq fun K9 hK9 => ?_
    refine WC.seq fun K10 hK10 => ?_
    refine WC.region ?_
    refine WL.pure (v := vI 0) 9 rfl (Nat.le_of_ble_eq_true rfl) rfl rfl (by kernel_rfl) ?_
    refine WL.nil ?_
    refine WQ.then ?_
    refine hK10 _ _ _ ?_
    refine WC.block ?_
    refine WC.loop (fun kk0 ll0 ww0 => ∃ (i : Nat), ll0 = [(0, vI R), (1, .slice p n cap), (5, .pointer none), (7, .pointer none), (8, vI 1), (9, vI (i : Int))] ∧ kk0 = n - i ∧ (i ≤ n) ∧ HP Tr w ww0 []) (n) [(0, vI R), (1, .slice p n cap), (5, .pointer none), (7, .pointer none), (8, vI 1), (9, vI 0)] ⟨rfl, rfl, rfl, rfl, rfl, rfl, trivial⟩ ⟨0, rfl, rfl, Nat.zero_le _, hH6⟩ ?_
    rintro kk l w12 ⟨i, rfl, hkk, hi, hH13⟩ K11 hK11
    refine WC.seq fun K14 hK14 => ?_
    refine WC.seq fun K15 hK15 => ?_
    refine WC.region ?_
    refine WL.pure (v := vI (i : Int)) 41 rfl (Nat.le_of_ble_eq_true rfl) rfl rfl (by kernel_rfl) ?_
    refine WL.pure (v := .slice p n cap) 42 rfl (Nat.le_of_ble_eq_true rfl) rfl rfl (by kernel_rfl) ?_
    refine WL.pure (v := vI (n : Int)) 43 rfl (Nat.le_of_ble_eq_true rfl) rfl rfl (by kernel_rfl) ?_
    by_cases hlt : (i : Int) < (n : Int)
    ·
      refine WL.pure (v := .bool true) 44 rfl (Nat.le_of_ble_eq_true rfl) rfl rfl (x_lss rfl rfl rfl (dT (hlt))) ?_
      refine WL.pure (v := .bool true) 45 rfl (Nat.le_of_ble_eq_true rfl) rfl rfl (by kernel_rfl) ?_
      refine WL.pure (v := vI (i : Int)) 46 rfl (Nat.le_of_ble_eq_true rfl) rfl rfl (by kernel_rfl) ?_
      by_cases h120 : (i : Int) < 120
      ·
        refine WL.pure (v := .bool true) 47 rfl (Nat.le_of_ble_eq_true rfl) rfl rfl (x_lss rfl rfl rfl (dT (h120))) ?_
        refine WL.pure (v := .bool true) 48 rfl (Nat.le_of_ble_eq_true rfl) rfl rfl (by kernel_rfl) ?_
        refine WL.pure (v := .bool true) 49 rfl (Nat.le_of_ble_eq_true rfl) rfl rfl (by kernel_rfl) ?_
        refine WL.pure (v := vI 1) 50 rfl (Nat.le_of_ble_eq_true rfl) rfl rfl (by kernel_rfl) ?_
        refine WL.pure (v := .bool false) 51 rfl (Nat.le_of_ble_eq_true rfl) rfl rfl (x_eql rfl rfl rfl (by decide)) ?_
        refine WL.pure (v := .bool false) 52 rfl (Nat.le_of_ble_eq_true rfl) rfl rfl (by kernel_rfl) ?_
        refine WL.nil ?_
        refine WQ.then ?_
        refine hK15 _ _ _ ?_
        refine WC.sub (l' := [(0, vI R), (1, .slice p n cap), (5, .pointer none), (7, .pointer none), (8, vI 1), (9, vI (i : Int)), (52, .bool false)]) ⟨rfl, rfl, rfl, rfl, rfl, rfl, rfl, trivial⟩ ?_
        refine WC.no rfl ?_
        refine WC.exit ?_
        refine WQ.thenExit ?_
        refine WQ.thenExit ?_
        refine WQ.inExit ?_
        refine WQ.then ?_
        refine hK9 _ _ _ ?_
        refine WC.seq fun K16 hK16 => ?_
        refine WC.region ?_
        refine WL.pure (v := .pointer none) 182 rfl (Nat.le_of_ble_eq_true rfl) rfl rfl (by kernel_rfl) ?_
        refine WL.call (f := 44) (args := #[.pointer none]) 183 rfl (Nat.le_of_ble_eq_true rfl) rfl rfl (by kernel_rfl) ?_
        refine (sItems_nil _).mono ?_
        rintro e w17 ⟨rfl, hb18⟩
        refine ⟨_, rfl, ?_⟩
        have hH19 : HP Tr w _ [] := HP.call hH13 hb18
        refine WL.pure (v := .pointer none) 184 rfl (Nat.le_of_ble_eq_true rfl) rfl rfl (by kernel_rfl) ?_
        refine WL.call (f := 45) (args := #[.pointer none]) 185 rfl (Nat.le_of_ble_eq_true rfl) rfl rfl (by kernel_rfl) ?_
        refine (srItems_nil _).mono ?_
        rintro e w20 ⟨rfl, hb21⟩
        refine ⟨_, rfl, ?_⟩
        have hH22 : HP Tr w _ [] := HP.call hH19 hb21
        refine WL.call (f := 32) (args := #[.slice none 0 0, .slice none 0 0]) 186 rfl (Nat.le_of_ble_eq_true rfl) rfl rfl (by kernel_rfl) ?_
        refine (Ints_any none none 0 0 [] _ (own_nil _) (own_nil _) (by simp)).mono ?_
        rintro e w23 ⟨rfl, hb24⟩
        refine ⟨_, rfl, ?_⟩
        have hH25 : HP Tr w _ [] := HP.call hH22 hb24
        refine WL.pure (v := .bool true) 187 rfl (Nat.le_of_ble_eq_true rfl) rfl rfl (by kernel_rfl) ?_
        refine WL.call (f := 11) (args := #[]) 188 rfl (Nat.le_of_ble_eq_true rfl) rfl rfl (by kernel_rfl) ?_
        refine (sane_any _).mono ?_
        rintro e w26 ⟨rfl, hb27⟩
        refine ⟨_, rfl, ?_⟩
        have hH28 : HP Tr w _ [] := HP.call hH25 hb27
        refine WL.pure (v := .bool true) 189 rfl (Nat.le_of_ble_eq_true rfl) rfl rfl (by kernel_rfl) ?_
        refine WL.pure (v := .bool true) 4 rfl (Nat.le_of_ble_eq_true rfl) rfl rfl (by kernel_rfl) ?_
        refine WL.nil ?_
        refine WQ.then ?_
        refine hK16 _ _ _ ?_
        refine WC.sub (l' := [(0, vI R), (1, .slice p n cap), (4, .bool true), (5, .pointer none), (7, .pointer none), (8, vI 1), (9, vI (i : Int)), (52, .bool false)]) ⟨rfl, rfl, rfl, rfl, rfl, rfl, rfl, rfl, trivial⟩ ?_
        refine WC.ret ?_
        refine WQ.ret1 4 rfl rfl ?_
        exact ⟨rfl, HP.below hH28⟩
      ·
        refine WL.pure (v := .bool false) 47 rfl (Nat.le_of_ble_eq_true rfl) rfl rfl (x_lss rfl rfl rfl (dF (h120))) ?_
        refine WL.pure (v := .bool false) 48 rfl (Nat.le_of_ble_eq_true rfl) rfl rfl (by kernel_rfl) ?_
        refine WL.pure (v := .bool false) 49 rfl (Nat.le_of_ble_eq_true rfl) rfl rfl (by kernel_rfl) ?_
        refine WL.pass 50 rfl (Nat.le_of_ble_eq_true rfl) rfl ?_
        refine WL.pass 51 rfl (Nat.le_of_ble_eq_true rfl) rfl ?_
        refine WL.pure (v := .bool false) 52 rfl (Nat.le_of_ble_eq_true rfl) rfl rfl (by kernel_rfl) ?_
        refine WL.nil ?_
        refine WQ.then ?_
        refine hK15 _ _ _ ?_
        refine WC.sub (l' := [(0, vI R), (1, .slice p n cap), (5, .pointer none), (7, .pointer none), (8, vI 1), (9, vI (i : Int)), (52, .bool false)]) ⟨rfl, rfl, rfl, rfl, rfl, rfl, rfl, trivial⟩ ?_
        refine WC.no rfl ?_
        refine WC.exit ?_
        refine WQ.thenExit ?_
        refine WQ.thenExit ?_
        refine WQ.inExit ?_
        refine WQ.then ?_
        refine hK9 _ _ _ ?_
        refine WC.seq fun K29 hK29 => ?_
        refine WC.region ?_
        refine WL.pure (v := .pointer none) 182 rfl (Nat.le_of_ble_eq_true rfl) rfl rfl (by kernel_rfl) ?_
        refine WL.call (f := 44) (args := #[.pointer none]) 183 rfl (Nat.le_of_ble_eq_true rfl) rfl rfl (by kernel_rfl) ?_
        refine (sItems_nil _).mono ?_
        rintro e w30 ⟨rfl, hb31⟩
        refine ⟨_, rfl, ?_⟩
        have hH32 : HP Tr w _ [] := HP.call hH13 hb31
        refine WL.pure (v := .pointer none) 184 rfl (Nat.le_of_ble_eq_true rfl) rfl rfl (by kernel_rfl) ?_
        refine WL.call (f := 45) (args := #[.pointer none]) 185 rfl (Nat.le_of_ble_eq_true rfl) rfl rfl (by kernel_rfl) ?_
        refine (srItems_nil _).mono ?_
        rintro e w33 ⟨rfl, hb34⟩
        refine ⟨_, rfl, ?_⟩
        have hH35 : HP Tr w _ [] := HP.call hH32 hb34
        refine WL.call (f := 32) (args := #[.slice none 0 0, .slice none 0 0]) 186 rfl (Nat.le_of_ble_eq_true rfl) rfl rfl (by kernel_rfl) ?_
        refine (Ints_any none none 0 0 [] _ (own_nil _) (own_nil _) (by simp)).mono ?_
        rintro e w36 ⟨rfl, hb37⟩
        refine ⟨_, rfl, ?_⟩
        have hH38 : HP Tr w _ [] := HP.call hH35 hb37
        refine WL.pure (v := .bool true) 187 rfl (Nat.le_of_ble_eq_true rfl) rfl rfl (by kernel_rfl) ?_
        refine WL.call (f := 11) (args := #[]) 188 rfl (Nat.le_of_ble_eq_true rfl) rfl rfl (by kernel_rfl) ?_
        refine (sane_any _).mono ?_
        rintro e w39 ⟨rfl, hb40⟩
        refine ⟨_, rfl, ?_⟩
        have hH41 : HP Tr w _ [] := HP.call hH38 hb40
        refine WL.pure (v := .bool true) 189 rfl (Nat.le_of_ble_eq_true rfl) rfl rfl (by kernel_rfl) ?_
        refine WL.pure (v := .bool true) 4 rfl (Nat.le_of_ble_eq_true rfl) rfl rfl (by kernel_rfl) ?_
        refine WL.nil ?_
        refine WQ.then ?_
        refine hK29 _ _ _ ?_
        refine WC.sub (l' := [(0, vI R), (1, .slice p n cap), (4, .bool true), (5, .pointer none), (7, .pointer none), (8, vI 1), (9, vI (i : Int)), (52, .bool false)]) ⟨rfl, rfl, rfl, rfl, rfl, rfl, rfl, rfl, trivial⟩ ?_
        refine WC.ret ?_
        refine WQ.ret1 4 rfl rfl ?_
        exact ⟨rfl, HP.below hH41⟩
    ·
      refine WL.pure (v := .bool false) 44 rfl (Nat.le_of_ble_eq_true rfl) rfl rfl (x_lss rfl rfl rfl (dF (hlt))) ?_
      refine WL.pure (v := .bool false) 45 rfl (Nat.le_of_ble_eq_true rfl) rfl rfl (by kernel_rfl) ?_
      refine WL.pass 46 rfl (Nat.le_of_ble_eq_true rfl) rfl ?_
      refine WL.pass 47 rfl (Nat.le_of_ble_eq_true rfl) rfl ?_
      refine WL.pure (v := .bool false) 48 rfl (Nat.le_of_ble_eq_true rfl) rfl rfl (by kernel_rfl) ?_
      refine WL.pure (v := .bool false) 49 rfl (Nat.le_of_ble_eq_true rfl) rfl rfl (by kernel_rfl) ?_
      refine WL.pass 50 rfl (Nat.le_of_ble_eq_true rfl) rfl ?_
      refine WL.pass 51 rfl (Nat.le_of_ble_eq_true rfl) rfl ?_
      refine WL.pure (v := .bool false) 52 rfl (Nat.le_of_ble_eq_true rfl) rfl rfl (by kernel_rfl) ?_
      refine WL.nil ?_
      refine WQ.then ?_
      refine hK15 _ _ _ ?_
      refine WC.sub (l' := [(0, vI R), (1, .slice p n cap), (5, .pointer none), (7, .pointer none), (8, vI 1), (9, vI (i : Int)), (52, .bool false)]) ⟨rfl, rfl, rfl, rfl, rfl, rfl, rfl, trivial⟩ ?_
      refine WC.no rfl ?_
      refine WC.exit ?_
      refine WQ.thenExit ?_
      refine WQ.thenExit ?_
      refine WQ.inExit ?_
      refine WQ.then ?_
      refine hK9 _ _ _ ?_
      refine WC.seq fun K42 hK42 => ?_
      refine WC.region ?_
      refine WL.pure (v := .pointer none) 182 rfl (Nat.le_of_ble_eq_true rfl) rfl rfl (by kernel_rfl) ?_
      refine WL.call (f := 44) (args := #[.pointer none]) 183 rfl (Nat.le_of_ble_eq_true rfl) rfl rfl (by kernel_rfl) ?_
      refine (sItems_nil _).mono ?_
      rintro e w43 ⟨rfl, hb44⟩
      refine ⟨_, rfl, ?_⟩
      have hH45 : HP Tr w _ [] := HP.call hH13 hb44
      refine WL.pure (v := .pointer none) 184 rfl (Nat.le_of_ble_eq_true rfl) rfl rfl (by kernel_rfl) ?_
      refine WL.call (f := 45) (args := #[.pointer none]) 185 rfl (Nat.le_of_ble_eq_true rfl) rfl rfl (by kernel_rfl) ?_
      refine (srItems_nil _).mono ?_
      rintro e w46 ⟨rfl, hb47⟩
      refine ⟨_, rfl, ?_⟩
      have hH48 : HP Tr w _ [] := HP.call hH45 hb47
      refine WL.call (f := 32) (args := #[.slice none 0 0, .slice none 0 0]) 186 rfl (Nat.le_of_ble_eq_true rfl) rfl rfl (by kernel_rfl) ?_
      refine (Ints_any none none 0 0 [] _ (own_nil _) (own_nil _) (by simp)).mono ?_
      rintro e w49 ⟨rfl, hb50⟩
      refine ⟨_, rfl, ?_⟩
      have hH51 : HP Tr w _ [] := HP.call hH48 hb50
      refine WL.pure (v := .bool true) 187 rfl (Nat.le_of_ble_eq_true rfl) rfl rfl (by kernel_rfl) ?_
      refine WL.call (f := 11) (args := #[]) 188 rfl (Nat.le_of_ble_eq_true rfl) rfl rfl (by kernel_rfl) ?_
      refine (sane_any _).mono ?_
      rintro e w52 ⟨rfl, hb53⟩
      refine ⟨_, rfl, ?_⟩
      have hH54 : HP Tr w _ [] := HP.call hH51 hb53
      refine WL.pure (v := .bool true) 189 rfl (Nat.le_of_ble_eq_true rfl) rfl rfl (by kernel_rfl) ?_
      refine WL.pure (v := .bool true) 4 rfl (Nat.le_of_ble_eq_true rfl) rfl rfl (by kernel_rfl) ?_
      refine WL.nil ?_
      refine WQ.then ?_
      refine hK42 _ _ _ ?_
      refine WC.sub (l' := [(0, vI R), (1, .slice p n cap), (4, .bool true), (5, .pointer none), (7, .pointer none), (8, vI 1), (9, vI (i : Int)), (52, .bool false)]) ⟨rfl, rfl, rfl, rfl, rfl, rfl, rfl, rfl, trivial⟩ ?_
      refine WC.ret ?_
      refine WQ.ret1 4 rfl rfl ?_
      exact ⟨rfl, HP.below hH54⟩
  ·
    refine ⟨_, rfl, ?_⟩
    obtain ⟨hR1, hR2⟩ := Lc.rm_t hrm
    have hH55 : HP Tr w _ [.cel l #[vI R, .slice none ([] : List Int).length 0] 96, .own (.slice none ([] : List Int).length 0) ([] : List Int).length (iL ([] : List Int)) 3 1] := HP.trans hH1 hb
    refine WL.pure (v := .tuple #[vP l 0, vI 0]) 28 rfl (Nat.le_of_ble_eq_true rfl) rfl rfl (by kernel_rfl) ?_
    refine WL.pure (v := vP l 0) 31 rfl (Nat.le_of_ble_eq_true rfl) rfl rfl (by kernel_rfl) ?_
    refine WL.pure (v := vI 0) 32 rfl (Nat.le_of_ble_eq_true rfl) rfl rfl (by kernel_rfl) ?_
    refine WL.pure (v := vP l 0) 5 rfl (Nat.le_of_ble_eq_true rfl) rfl rfl (by kernel_rfl) ?_
    refine WL.pure (v := vI 0) 6 rfl (Nat.le_of_ble_eq_true rfl) rfl rfl (by kernel_rfl) ?_
    refine WL.nil ?_
    refine WQ.then ?_
    refine hK3 _ _ _ ?_
    refine WC.seq fun K56 hK56 => ?_
    refine WC.region ?_
    refine WL.pure (v := vI R) 34 rfl (Nat.le_of_ble_eq_true rfl) rfl rfl (by kernel_rfl) ?_
    refine WL.call (f := 36) (args := #[vI R]) 35 rfl (Nat.le_of_ble_eq_true rfl) rfl rfl (by kernel_rfl) ?_
    refine (rNewSorted_any R _).mono ?_
    rintro e w2 (⟨hrm2, -⟩ | ⟨-, r, rfl, hb⟩)
    · rw [hrm] at hrm2; cases hrm2
    refine ⟨_, rfl, ?_⟩
    have hH57 : HP Tr w _ [.cel l #[vI R, .slice none ([] : List Int).length 0] 96, .own (.slice none ([] : List Int).length 0) ([] : List Int).length (iL ([] : List Int)) 3 1, .cel r #[.slice none ([] : List Int).length 0, vI R] 97, .own (.slice none ([] : List Int).length 0) ([] : List Int).length (iL ([] : List Int)) 3 1] := HP.trans hH55 hb
    refine WL.pure (v := .tuple #[vP r 0, vI 0]) 33 rfl (Nat.le_of_ble_eq_true rfl) rfl rfl (by kernel_rfl) ?_
    refine WL.pure (v := vP r 0) 36 rfl (Nat.le_of_ble_eq_true rfl) rfl rfl (by kernel_rfl) ?_
    refine WL.pure (v := vI 0) 37 rfl (Nat.le_of_ble_eq_true rfl) rfl rfl (by kernel_rfl) ?_
    refine WL.pure (v := vP r 0) 7 rfl (Nat.le_of_ble_eq_true rfl) rfl rfl (by kernel_rfl) ?_
    refine WL.pure (v := vI 0) 8 rfl (Nat.le_of_ble_eq_true rfl) rfl rfl (by kernel_rfl) ?_
    refine WL.nil ?_
    refine WQ.then ?_
    refine hK56 _ _ _ ?_
    refine WC.sub (l' := [(0, vI R), (1, .slice p n cap), (4, .bool false), (5, vP l 0), (6, vI 0), (7, vP r 0), (8, vI 0)]) ⟨rfl, rfl, rfl, rfl, rfl, rfl, rfl, trivial⟩ ?_
    refine WC.seq fun K58 hK58 => ?_
    refine WC.seq fun K59 hK59 => ?_
    refine WC.region ?_
    refine WL.pure (v := vI 0) 38 rfl (Nat.le_of_ble_eq_true rfl) rfl rfl (by kernel_rfl) ?_
    refine WL.pure (v := vI 0) 39 rfl (Nat.le_of_ble_eq_true rfl) rfl rfl (by kernel_rfl) ?_
    refine WL.pure (v := .bool false) 40 rfl (Nat.le_of_ble_eq_true rfl) rfl rfl (x_neq rfl rfl rfl (by decide)) ?_
    refine WL.nil ?_
    refine WQ.then ?_
    refine hK59 _ _ _ ?_
    refine WC.no rfl ?_
    refine WC.skip ?_
    refine WQ.then ?_
    refine hK58 _ _ _ ?_
    refine WC.seq fun K60 hK60 => ?_
    refine WC.seq fun K61 hK61 => ?_
    refine WC.region ?_
    refine WL.pure (v := vI 0) 9 rfl (Nat.le_of_ble_eq_true rfl) rfl rfl (by kernel_rfl) ?_
    refine WL.nil ?_
    refine WQ.then ?_
    refine hK61 _ _ _ ?_
    refine WC.block ?_
    refine WC.loop (fun kk0 ll0 ww0 => ∃ (i : Nat) (xs : List Int) (pv : Option Addr) (cp : Nat) (qv : Option Addr) (cq : Nat), ll0 = [(0, vI R), (1, .slice p n cap), (5, vP l 0), (7, vP r 0), (8, vI 0), (9, vI (i : Int))] ∧ kk0 = n - i ∧ (i ≤ n) ∧ ((xs.length : Int) ≤ R) ∧ (srt xs) ∧ HP Tr w ww0 [.cel l #[vI R, .slice pv xs.length cp] 96, .own (.slice pv xs.length cp) xs.length (iL xs) 3 1, .cel r #[.slice qv xs.length cq, vI R] 97, .own (.slice qv xs.length cq) xs.length (iL xs) 3 1]) (n) [(0, vI R), (1, .slice p n cap), (5, vP l 0), (7, vP r 0), (8, vI 0), (9, vI 0)] ⟨rfl, rfl, rfl, rfl, rfl, rfl, trivial⟩ ⟨0, [], none, 0, none, 0, rfl, rfl, Nat.zero_le _, by simp; omega, srt_nil, hH57⟩ ?_
    rintro kk l w63 ⟨i, xs, pv, cp, qv, cq, rfl, hkk, hi, hx, hs, hH64⟩ K62 hK62
    refine WC.seq fun K65 hK65 => ?_
    refine WC.seq fun K66 hK66 => ?_
    refine WC.region ?_
    refine WL.pure (v := vI (i : Int)) 41 rfl (Nat.le_of_ble_eq_true rfl) rfl rfl (by kernel_rfl) ?_
    refine WL.pure (v := .slice p n cap) 42 rfl (Nat.le_of_ble_eq_true rfl) rfl rfl (by kernel_rfl) ?_
    refine WL.pure (v := vI (n : Int)) 43 rfl (Nat.le_of_ble_eq_true rfl) rfl rfl (by kernel_rfl) ?_
    by_cases hlt : (i : Int) < (n : Int)
    ·
      refine WL.pure (v := .bool true) 44 rfl (Nat.le_of_ble_eq_true rfl) rfl rfl (x_lss rfl rfl rfl (dT (hlt))) ?_
      refine WL.pure (v := .bool true) 45 rfl (Nat.le_of_ble_eq_true rfl) rfl rfl (by kernel_rfl) ?_
      refine WL.pure (v := vI (i : Int)) 46 rfl (Nat.le_of_ble_eq_true rfl) rfl rfl (by kernel_rfl) ?_
      by_cases h120 : (i : Int) < 120
      ·
        refine WL.pure (v := .bool true) 47 rfl (Nat.le_of_ble_eq_true rfl) rfl rfl (x_lss rfl rfl rfl (dT (h120))) ?_
        refine WL.pure (v := .bool true) 48 rfl (Nat.le_of_ble_eq_true rfl) rfl rfl (by kernel_rfl) ?_
        refine WL.pure (v := .bool true) 49 rfl (Nat.le_of_ble_eq_true rfl) rfl rfl (by kernel_rfl) ?_
        refine WL.pure (v := vI 0) 50 rfl (Nat.le_of_ble_eq_true rfl) rfl rfl (by kernel_rfl) ?_
        refine WL.pure (v := .bool true) 51 rfl (Nat.le_of_ble_eq_true rfl) rfl rfl (x_eql rfl rfl rfl (by decide)) ?_
        refine WL.pure (v := .bool true) 52 rfl (Nat.le_of_ble_eq_true rfl) rfl rfl (by kernel_rfl) ?_
        refine WL.nil ?_
        refine WQ.then ?_
        refine hK66 _ _ _ ?_
        refine WC.sub (l' := [(0, vI R), (1, .slice p n cap), (5, vP l 0), (7, vP r 0), (8, vI 0), (9, vI (i : Int)), (52, .bool true)]) ⟨rfl, rfl, rfl, rfl, rfl, rfl, rfl, trivial⟩ ?_
        refine WC.yes rfl ?_
        refine WC.skip ?_
        refine WQ.then ?_
        refine hK65 _ _ _ ?_
        refine WC.seq fun K67 hK67 => ?_
        refine WC.block ?_
        refine WC.seq fun K68 hK68 => ?_
        obtain ⟨bb, oo, rfl, hops⟩ := ops_in hrow (by omega)
        refine WC.region ?_
        refine WL.pure (v := .slice (some ⟨bb, oo, none⟩) n cap) 55 rfl (Nat.le_of_ble_eq_true rfl) rfl rfl (by kernel_rfl) ?_
        refine WL.pure (v := vI (i : Int)) 56 rfl (Nat.le_of_ble_eq_true rfl) rfl rfl (by kernel_rfl) ?_
        refine WL.pure (v := vP bb (oo + i * 5)) 57 rfl (Nat.le_of_ble_eq_true rfl) rfl rfl (x_idx (i) (oo + i * 5) rfl rfl rfl Try.underlying22 sz30 (by omega) (by omega) (by omega)) ?_
        refine WL.pure (v := .agg #[vI ((f i).d), vI ((f i).a), vI ((f i).v), .bool ((f i).f), .string ((f i).s)]) 58 rfl (Nat.le_of_ble_eq_true rfl) rfl rfl (x_loadS (cs := [vI ((f i).d), vI ((f i).a), vI ((f i).v), .bool ((f i).f), .string ((f i).s)]) rfl rfl Try.underlying30 rfl sz30 (HP.oldRange hH64 trivial (hops i (by omega)))) ?_
        refine WL.alloc (c := #[vI 0, vI 0, vI 0, .bool false, .string (⟨#[]⟩)]) (T := 30) hH64 10 rfl (by decide) rfl rfl (fun b69 => vP b69 0) (by kernel_rfl) (fun b69 w70 hw70 => ?_)
        have hH71 : HP Tr w w70 [.cel l #[vI R, .slice pv xs.length cp] 96, .own (.slice pv xs.length cp) xs.length (iL xs) 3 1, .cel r #[.slice qv xs.length cq, vI R] 97, .own (.slice qv xs.length cq) xs.length (iL xs) 3 1, .cel b69 #[vI 0, vI 0, vI 0, .bool false, .string (⟨#[]⟩)] 30] := hw70.2
        have nb69 := hw70.1
        clear hw70
        refine WL.storeS (H2 := [.cel l #[vI R, .slice pv xs.length cp] 96, .own (.slice pv xs.length cp) xs.length (iL xs) 3 1, .cel r #[.slice qv xs.length cq, vI R] 97, .own (.slice qv xs.length cq) xs.length (iL xs) 3 1, .cel b69 #[vI ((f i).d), vI ((f i).a), vI ((f i).v), .bool ((f i).f), .string ((f i).s)] 30]) 4 hH71 rfl rfl rfl rfl rfl rfl sz30 rfl (Nat.le_of_ble_eq_true rfl) rfl rfl ?_
        intro w72 hH73
        refine WL.nil ?_
        refine WQ.then ?_
        refine hK68 _ _ _ ?_
        refine WC.seq fun K74 hK74 => ?_
        refine WC.region ?_
        refine WL.pure (v := .bool true) 11 rfl (Nat.le_of_ble_eq_true rfl) rfl rfl (by kernel_rfl) ?_
        refine WL.nil ?_
        refine WQ.then ?_
        refine hK74 _ _ _ ?_
        refine WC.seq fun K75 hK75 => ?_
        refine WC.seq fun K76 hK76 => ?_
        refine WC.region ?_
        refine WL.pure (v := vP b69 0) 59 rfl (Nat.le_of_ble_eq_true rfl) rfl rfl (by kernel_rfl) ?_
        refine WL.pure (v := vI ((f i).d)) 60 rfl (Nat.le_of_ble_eq_true rfl) rfl rfl (x_load rfl rfl Try.underlying3 rfl (HP.cell hH73 4 rfl rfl)) ?_
        refine WL.nil ?_
        refine WQ.then ?_
        refine hK76 _ _ _ ?_
        refine WC.block ?_
        refine WC.seq fun K77 hK77 => ?_
        refine WC.region ?_
        by_cases h1 : (f i).d = 1
        ·
          refine WL.pure (v := .bool true) 62 rfl (Nat.le_of_ble_eq_true rfl) rfl rfl (x_eql rfl rfl rfl (dT (h1))) ?_
          refine WL.pure (v := .bool true) 61 rfl (Nat.le_of_ble_eq_true rfl) rfl rfl (by kernel_rfl) ?_
          refine WL.nil ?_
          refine WQ.then ?_
          refine hK77 _ _ _ ?_
          refine WC.sub (l' := [(0, vI R), (1, .slice (some ⟨bb, oo, none⟩) n cap), (5, vP l 0), (7, vP r 0), (8, vI 0), (9, vI (i : Int)), (10, vP b69 0), (11, .bool true), (52, .bool true), (60, vI ((f i).d)), (61, .bool true)]) ⟨rfl, rfl, rfl, rfl, rfl, rfl, rfl, rfl, rfl, rfl, rfl, trivial⟩ ?_
          refine WC.yes rfl ?_
          refine WC.seq fun K78 hK78 => ?_
          refine WC.region ?_
          refine WL.pure (v := vP l 0) 64 rfl (Nat.le_of_ble_eq_true rfl) rfl rfl (by kernel_rfl) ?_
          refine WL.pure (v := vP b69 1) 65 rfl (Nat.le_of_ble_eq_true rfl) rfl rfl (by kernel_rfl) ?_
          refine WL.pure (v := vI ((f i).a)) 66 rfl (Nat.le_of_ble_eq_true rfl) rfl rfl (x_load rfl rfl Try.underlying3 rfl (HP.cell hH73 4 rfl rfl)) ?_
          refine WL.call (f := 37) (args := #[vP l 0, vI ((f i).a)]) 67 rfl (Nat.le_of_ble_eq_true rfl) rfl rfl (by kernel_rfl) ?_
          refine (Insert23_any l R pv cp xs (f i).a _ (HP.ownF (A := [.cel l #[vI R, .slice pv xs.length cp] 96, .own (.slice pv xs.length cp) xs.length (iL xs) 3 1]) (B := [.cel r #[.slice qv xs.length cq, vI R] 97, .own (.slice qv xs.length cq) xs.length (iL xs) 3 1, .cel b69 #[vI ((f i).d), vI ((f i).a), vI ((f i).v), .bool ((f i).f), .string ((f i).s)] 30]) hH73) hR1 (by omega) hs).mono ?_
          rintro e w3 ⟨pv3, cp3, rfl, hb3⟩
          refine ⟨_, rfl, ?_⟩
          have hH79 : HP Tr w _ [.cel l #[vI R, .slice pv3 (inX R xs (f i).a).length cp3] 96, .own (.slice pv3 (inX R xs (f i).a).length cp3) (inX R xs (f i).a).length (iL (inX R xs (f i).a)) 3 1, .cel r #[.slice qv xs.length cq, vI R] 97, .own (.slice qv xs.length cq) xs.length (iL xs) 3 1, .cel b69 #[vI ((f i).d), vI ((f i).a), vI ((f i).v), .bool ((f i).f), .string ((f i).s)] 30] := HP.exchF (A := [.cel l #[vI R, .slice pv xs.length cp] 96, .own (.slice pv xs.length cp) xs.length (iL xs) 3 1]) (B := [.cel r #[.slice qv xs.length cq, vI R] 97, .own (.slice qv xs.length cq) xs.length (iL xs) 3 1, .cel b69 #[vI ((f i).d), vI ((f i).a), vI ((f i).v), .bool ((f i).f), .string ((f i).s)] 30]) hH73 hb3
          refine WL.pure (v := .tuple #[vI (inS R xs (f i).a), vI (psE R xs (f i).a)]) 63 rfl (Nat.le_of_ble_eq_true rfl) rfl rfl (by kernel_rfl) ?_
          refine WL.pure (v := vI (inS R xs (f i).a)) 68 rfl (Nat.le_of_ble_eq_true rfl) rfl rfl (by kernel_rfl) ?_
          refine WL.pure (v := vI (psE R xs (f i).a)) 69 rfl (Nat.le_of_ble_eq_true rfl) rfl rfl (by kernel_rfl) ?_
          refine WL.pure (v := vI (inS R xs (f i).a)) 12 rfl (Nat.le_of_ble_eq_true rfl) rfl rfl (by kernel_rfl) ?_
          refine WL.pure (v := vI (psE R xs (f i).a)) 13 rfl (Nat.le_of_ble_eq_true rfl) rfl rfl (by kernel_rfl) ?_
          refine WL.nil ?_
          refine WQ.then ?_
          refine hK78 _ _ _ ?_
          refine WC.sub (l' := [(0, vI R), (1, .slice (some ⟨bb, oo, none⟩) n cap), (5, vP l 0), (7, vP r 0), (8, vI 0), (9, vI (i : Int)), (10, vP b69 0), (11, .bool true), (12, vI (inS R xs (f i).a)), (13, vI (psE R xs (f i).a)), (52, .bool true), (60, vI ((f i).d)), (61, .bool true)]) ⟨rfl, rfl, rfl, rfl, rfl, rfl, rfl, rfl, rfl, rfl, rfl, rfl, rfl, trivial⟩ ?_
          refine WC.seq fun K80 hK80 => ?_
          refine WC.region ?_
          refine WL.pure (v := vP r 0) 71 rfl (Nat.le_of_ble_eq_true rfl) rfl rfl (by kernel_rfl) ?_
          refine WL.pure (v := vP b69 1) 72 rfl (Nat.le_of_ble_eq_true rfl) rfl rfl (by kernel_rfl) ?_
          refine WL.pure (v := vI ((f i).a)) 73 rfl (Nat.le_of_ble_eq_true rfl) rfl rfl (x_load rfl rfl Try.underlying3 rfl (HP.cell hH79 4 rfl rfl)) ?_
          refine WL.call (f := 38) (args := #[vP r 0, vI ((f i).a)]) 74 rfl (Nat.le_of_ble_eq_true rfl) rfl rfl (by kernel_rfl) ?_
          refine (rInsert23_any r R qv cq xs (f i).a _ (HP.ownM (A := [.cel l #[vI R, .slice pv3 (inX R xs (f i).a).length cp3] 96, .own (.slice pv3 (inX R xs (f i).a).length cp3) (inX R xs (f i).a).length (iL (inX R xs (f i).a)) 3 1]) (R := [.cel r #[.slice qv xs.length cq, vI R] 97, .own (.slice qv xs.length cq) xs.length (iL xs) 3 1]) (C := [.cel b69 #[vI ((f i).d), vI ((f i).a), vI ((f i).v), .bool ((f i).f), .string ((f i).s)] 30]) hH79) hR1 (by omega) hs).mono ?_
          rintro e w4 ⟨qv3, cq3, rfl, hb4⟩
          refine ⟨_, rfl, ?_⟩
          have hH81 : HP Tr w _ [.cel l #[vI R, .slice pv3 (inX R xs (f i).a).length cp3] 96, .own (.slice pv3 (inX R xs (f i).a).length cp3) (inX R xs (f i).a).length (iL (inX R xs (f i).a)) 3 1, .cel r #[.slice qv3 (inX R xs (f i).a).length cq3, vI R] 97, .own (.slice qv3 (inX R xs (f i).a).length cq3) (inX R xs (f i).a).length (iL (inX R xs (f i).a)) 3 1, .cel b69 #[vI ((f i).d), vI ((f i).a), vI ((f i).v), .bool ((f i).f), .string ((f i).s)] 30] := HP.exchM (A := [.cel l #[vI R, .slice pv3 (inX R xs (f i).a).length cp3] 96, .own (.slice pv3 (inX R xs (f i).a).length cp3) (inX R xs (f i).a).length (iL (inX R xs (f i).a)) 3 1]) (R := [.cel r #[.slice qv xs.length cq, vI R] 97, .own (.slice qv xs.length cq) xs.length (iL xs) 3 1]) (C := [.cel b69 #[vI ((f i).d), vI ((f i).a), vI ((f i).v), .bool ((f i).f), .string ((f i).s)] 30]) hH79 hb4
          refine WL.pure (v := .tuple #[vI (inS R xs (f i).a), vI (psE R xs (f i).a)]) 70 rfl (Nat.le_of_ble_eq_true rfl) rfl rfl (by kernel_rfl) ?_
          refine WL.pure (v := vI (inS R xs (f i).a)) 75 rfl (Nat.le_of_ble_eq_true rfl) rfl rfl (by kernel_rfl) ?_
          refine WL.pure (v := vI (psE R xs (f i).a)) 76 rfl (Nat.le_of_ble_eq_true rfl) rfl rfl (by kernel_rfl) ?_
          refine WL.pure (v := vI (inS R xs (f i).a)) 14 rfl (Nat.le_of_ble_eq_true rfl) rfl rfl (by kernel_rfl) ?_
          refine WL.pure (v := vI (psE R xs (f i).a)) 15 rfl (Nat.le_of_ble_eq_true rfl) rfl rfl (by kernel_rfl) ?_
          refine WL.nil ?_
          refine WQ.then ?_
          refine hK80 _ _ _ ?_
          refine WC.sub (l' := [(0, vI R), (1, .slice (some ⟨bb, oo, none⟩) n cap), (5, vP l 0), (7, vP r 0), (8, vI 0), (9, vI (i : Int)), (10, vP b69 0), (11, .bool true), (12, vI (inS R xs (f i).a)), (13, vI (psE R xs (f i).a)), (14, vI (inS R xs (f i).a)), (15, vI (psE R xs (f i).a)), (52, .bool true), (60, vI ((f i).d)), (61, .bool true)]) ⟨rfl, rfl, rfl, rfl, rfl, rfl, rfl, rfl, rfl, rfl, rfl, rfl, rfl, rfl, rfl, trivial⟩ ?_
          refine WC.region ?_
          refine WL.pure (v := vI (inS R xs (f i).a)) 77 rfl (Nat.le_of_ble_eq_true rfl) rfl rfl (by kernel_rfl) ?_
          refine WL.pure (v := vI (inS R xs (f i).a)) 78 rfl (Nat.le_of_ble_eq_true rfl) rfl rfl (by kernel_rfl) ?_
          refine WL.pure (v := .bool true) 79 rfl (Nat.le_of_ble_eq_true rfl) rfl rfl (x_eql rfl rfl rfl (dT (rfl))) ?_
          refine WL.pure (v := .bool true) 80 rfl (Nat.le_of_ble_eq_true rfl) rfl rfl (by kernel_rfl) ?_
          refine WL.pure (v := vI (psE R xs (f i).a)) 81 rfl (Nat.le_of_ble_eq_true rfl) rfl rfl (by kernel_rfl) ?_
          refine WL.pure (v := vI (psE R xs (f i).a)) 82 rfl (Nat.le_of_ble_eq_true rfl) rfl rfl (by kernel_rfl) ?_
          refine WL.pure (v := .bool true) 83 rfl (Nat.le_of_ble_eq_true rfl) rfl rfl (x_eql rfl rfl rfl (dT (rfl))) ?_
          refine WL.pure (v := .bool true) 84 rfl (Nat.le_of_ble_eq_true rfl) rfl rfl (by kernel_rfl) ?_
          refine WL.pure (v := .bool true) 85 rfl (Nat.le_of_ble_eq_true rfl) rfl rfl (by kernel_rfl) ?_
          refine WL.pure (v := vI (inS R xs (f i).a)) 86 rfl (Nat.le_of_ble_eq_true rfl) rfl rfl (by kernel_rfl) ?_
          refine WL.pure (v := vI R) 87 rfl (Nat.le_of_ble_eq_true rfl) rfl rfl (by kernel_rfl) ?_
          refine WL.call (f := 39) (args := #[vI (inS R xs (f i).a), .string (⟨#[105, 110, 115, 101, 114, 116]⟩), vI R]) 88 rfl (Nat.le_of_ble_eq_true rfl) rfl rfl (by kernel_rfl) ?_
          refine (Lc.within_any _ _ R _ (by rw [ctr_ins hrm]) (in_bd hR2 hx hs).1 (by rw [ctr_ins hrm]; exact (in_bd hR2 hx hs).2)).mono ?_
          rintro e w82 ⟨rfl, rfl⟩
          refine ⟨_, rfl, ?_⟩
          refine WL.pure (v := .bool true) 89 rfl (Nat.le_of_ble_eq_true rfl) rfl rfl (by kernel_rfl) ?_
          refine WL.pure (v := .bool true) 11 rfl (Nat.le_of_ble_eq_true rfl) rfl rfl (by kernel_rfl) ?_
          refine WL.nil ?_
          refine WQ.inNormal ?_
          refine WQ.then ?_
          refine hK75 _ _ _ ?_
          refine WC.sub (l' := [(0, vI R), (1, .slice (some ⟨bb, oo, none⟩) n cap), (5, vP l 0), (7, vP r 0), (8, vI 0), (9, vI (i : Int)), (10, vP b69 0), (11, .bool true), (12, vI (inS R xs (f i).a)), (13, vI (psE R xs (f i).a)), (14, vI (inS R xs (f i).a)), (15, vI (psE R xs (f i).a)), (52, .bool true), (60, vI ((f i).d)), (61, .bool true)]) ⟨rfl, rfl, rfl, rfl, rfl, rfl, rfl, rfl, rfl, rfl, rfl, rfl, rfl, rfl, rfl, trivial⟩ ?_
          refine WC.seq fun K83 hK83 => ?_
          refine WC.region ?_
          refine WL.pure (v := vP l 0) 155 rfl (Nat.le_of_ble_eq_true rfl) rfl rfl (by kernel_rfl) ?_
          have hlx : ((inX R xs (f i).a).length : Int) ≤ R := len_in hR2 hx hs
          refine WL.call (f := 44) (args := #[vP l 0]) 156 rfl (Nat.le_of_ble_eq_true rfl) rfl rfl (by kernel_rfl) ?_
          refine (sItems_any l R pv3 cp3 (inX R xs (f i).a) _ (HP.ownF (A := [.cel l #[vI R, .slice pv3 (inX R xs (f i).a).length cp3] 96, .own (.slice pv3 (inX R xs (f i).a).length cp3) (inX R xs (f i).a).length (iL (inX R xs (f i).a)) 3 1]) (B := [.cel r #[.slice qv3 (inX R xs (f i).a).length cq3, vI R] 97, .own (.slice qv3 (inX R xs (f i).a).length cq3) (inX R xs (f i).a).length (iL (inX R xs (f i).a)) 3 1, .cel b69 #[vI ((f i).d), vI ((f i).a), vI ((f i).v), .bool ((f i).f), .string ((f i).s)] 30]) hH81) hR1 (by omega)).mono ?_
          rintro e w84 ⟨ia, ca, rfl, hb85⟩
          refine ⟨_, rfl, ?_⟩
          have hH86 : HP Tr w _ [.cel l #[vI R, .slice pv3 (inX R xs (f i).a).length cp3] 96, .own (.slice pv3 (inX R xs (f i).a).length cp3) (inX R xs (f i).a).length (iL (inX R xs (f i).a)) 3 1, .cel r #[.slice qv3 (inX R xs (f i).a).length cq3, vI R] 97, .own (.slice qv3 (inX R xs (f i).a).length cq3) (inX R xs (f i).a).length (iL (inX R xs (f i).a)) 3 1, .cel b69 #[vI ((f i).d), vI ((f i).a), vI ((f i).v), .bool ((f i).f), .string ((f i).s)] 30, .own (.slice ia (inX R xs (f i).a).length ca) (inX R xs (f i).a).length (iL (inX R xs (f i).a)) 3 1] := HP.trans hH81 hb85
          refine WL.pure (v := .slice ia ((inX R xs (f i).a).length) ca) 26 rfl (Nat.le_of_ble_eq_true rfl) rfl rfl (by kernel_rfl) ?_
          refine WL.nil ?_
          refine WQ.then ?_
          refine hK83 _ _ _ ?_
          refine WC.seq fun K87 hK87 => ?_
          refine WC.seq fun K88 hK88 => ?_
          refine WC.region ?_
          refine WL.pure (v := .bool true) 157 rfl (Nat.le_of_ble_eq_true rfl) rfl rfl (by kernel_rfl) ?_
          refine WL.pure (v := .bool false) 158 rfl (Nat.le_of_ble_eq_true rfl) rfl rfl (by kernel_rfl) ?_
          refine WL.pure (v := .bool false) 159 rfl (Nat.le_of_ble_eq_true rfl) rfl rfl (by kernel_rfl) ?_
          refine WL.pure (v := .slice ia ((inX R xs (f i).a).length) ca) 160 rfl (Nat.le_of_ble_eq_true rfl) rfl rfl (by kernel_rfl) ?_
          refine WL.pure (v := vP r 0) 161 rfl (Nat.le_of_ble_eq_true rfl) rfl rfl (by kernel_rfl) ?_
          refine WL.call (f := 45) (args := #[vP r 0]) 162 rfl (Nat.le_of_ble_eq_true rfl) rfl rfl (by kernel_rfl) ?_
          refine (srItems_any r R qv3 cq3 (inX R xs (f i).a) _ (HP.ownM (A := [.cel l #[vI R, .slice pv3 (inX R xs (f i).a).length cp3] 96, .own (.slice pv3 (inX R xs (f i).a).length cp3) (inX R xs (f i).a).length (iL (inX R xs (f i).a)) 3 1]) (R := [.cel r #[.slice qv3 (inX R xs (f i).a).length cq3, vI R] 97, .own (.slice qv3 (inX R xs (f i).a).length cq3) (inX R xs (f i).a).length (iL (inX R xs (f i).a)) 3 1]) (C := [.cel b69 #[vI ((f i).d), vI ((f i).a), vI ((f i).v), .bool ((f i).f), .string ((f i).s)] 30, .own (.slice ia (inX R xs (f i).a).length ca) (inX R xs (f i).a).length (iL (inX R xs (f i).a)) 3 1]) hH86) hR1 (by omega)).mono ?_
          rintro e w89 ⟨ib, cb, rfl, hb90⟩
          refine ⟨_, rfl, ?_⟩
          have hH91 : HP Tr w _ [.cel l #[vI R, .slice pv3 (inX R xs (f i).a).length cp3] 96, .own (.slice pv3 (inX R xs (f i).a).length cp3) (inX R xs (f i).a).length (iL (inX R xs (f i).a)) 3 1, .cel r #[.slice qv3 (inX R xs (f i).a).length cq3, vI R] 97, .own (.slice qv3 (inX R xs (f i).a).length cq3) (inX R xs (f i).a).length (iL (inX R xs (f i).a)) 3 1, .cel b69 #[vI ((f i).d), vI ((f i).a), vI ((f i).v), .bool ((f i).f), .string ((f i).s)] 30, .own (.slice ia (inX R xs (f i).a).length ca) (inX R xs (f i).a).length (iL (inX R xs (f i).a)) 3 1, .own (.slice ib (inX R xs (f i).a).length cb) (inX R xs (f i).a).length (iL (inX R xs (f i).a)) 3 1] := HP.trans hH86 hb90
          refine WL.call (f := 32) (args := #[.slice ia ((inX R xs (f i).a).length) ca, .slice ib ((inX R xs (f i).a).length) cb]) 163 rfl (Nat.le_of_ble_eq_true rfl) rfl rfl (by kernel_rfl) ?_
          refine (Ints_any _ _ _ _ (inX R xs (f i).a) _ (HP.get hH91 5 rfl) (HP.get hH91 6 rfl) (by omega)).mono ?_
          rintro e w92 ⟨rfl, hb93⟩
          refine ⟨_, rfl, ?_⟩
          have hH94 : HP Tr w _ [.cel l #[vI R, .slice pv3 (inX R xs (f i).a).length cp3] 96, .own (.slice pv3 (inX R xs (f i).a).length cp3) (inX R xs (f i).a).length (iL (inX R xs (f i).a)) 3 1, .cel r #[.slice qv3 (inX R xs (f i).a).length cq3, vI R] 97, .own (.slice qv3 (inX R xs (f i).a).length cq3) (inX R xs (f i).a).length (iL (inX R xs (f i).a)) 3 1, .cel b69 #[vI ((f i).d), vI ((f i).a), vI ((f i).v), .bool ((f i).f), .string ((f i).s)] 30, .own (.slice ia (inX R xs (f i).a).length ca) (inX R xs (f i).a).length (iL (inX R xs (f i).a)) 3 1, .own (.slice ib (inX R xs (f i).a).length cb) (inX R xs (f i).a).length (iL (inX R xs (f i).a)) 3 1] := HP.call hH91 hb93
          refine WL.pure (v := .bool false) 164 rfl (Nat.le_of_ble_eq_true rfl) rfl rfl (by kernel_rfl) ?_
          refine WL.pure (v := .bool false) 165 rfl (Nat.le_of_ble_eq_true rfl) rfl rfl (by kernel_rfl) ?_
          refine WL.nil ?_
          refine WQ.then ?_
          refine hK88 _ _ _ ?_
          refine WC.sub (l' := [(0, vI R), (1, .slice (some ⟨bb, oo, none⟩) n cap), (5, vP l 0), (7, vP r 0), (8, vI 0), (9, vI (i : Int)), (10, vP b69 0), (11, .bool true), (12, vI (inS R xs (f i).a)), (13, vI (psE R xs (f i).a)), (14, vI (inS R xs (f i).a)), (15, vI (psE R xs (f i).a)), (26, .slice ia ((inX R xs (f i).a).length) ca), (52, .bool true), (60, vI ((f i).d)), (61, .bool true), (165, .bool false)]) ⟨rfl, rfl, rfl, rfl, rfl, rfl, rfl, rfl, rfl, rfl, rfl, rfl, rfl, rfl, rfl, rfl, rfl, trivial⟩ ?_
          refine WC.no rfl ?_
          refine WC.skip ?_
          refine WQ.then ?_
          refine hK87 _ _ _ ?_
          refine WC.seq fun K95 hK95 => ?_
          have hss : srt (inX R xs (f i).a) := srt_in hR2 hx hs
          refine WC.region ?_
          refine WL.pure (v := vI 1) 27 rfl (Nat.le_of_ble_eq_true rfl) rfl rfl (by kernel_rfl) ?_
          refine WL.nil ?_
          refine WQ.then ?_
          refine hK95 _ _ _ ?_
          refine WC.block ?_
          refine WC.loop (fun kk0 ll0 ww0 => ∃ (k : Nat), ll0 = [(0, vI R), (1, .slice (some ⟨bb, oo, none⟩) n cap), (5, vP l 0), (7, vP r 0), (8, vI 0), (9, vI (i : Int)), (26, .slice ia ((inX R xs (f i).a).length) ca), (27, vI (k : Int))] ∧ kk0 = (inX R xs (f i).a).length - k ∧ (1 ≤ k) ∧ HP Tr w ww0 [.cel l #[vI R, .slice pv3 (inX R xs (f i).a).length cp3] 96, .own (.slice pv3 (inX R xs (f i).a).length cp3) (inX R xs (f i).a).length (iL (inX R xs (f i).a)) 3 1, .cel r #[.slice qv3 (inX R xs (f i).a).length cq3, vI R] 97, .own (.slice qv3 (inX R xs (f i).a).length cq3) (inX R xs (f i).a).length (iL (inX R xs (f i).a)) 3 1, .cel b69 #[vI ((f i).d), vI ((f i).a), vI ((f i).v), .bool ((f i).f), .string ((f i).s)] 30, .own (.slice ia (inX R xs (f i).a).length ca) (inX R xs (f i).a).length (iL (inX R xs (f i).a)) 3 1, .own (.slice ib (inX R xs (f i).a).length cb) (inX R xs (f i).a).length (iL (inX R xs (f i).a)) 3 1]) ((inX R xs (f i).a).length - 1) [(0, vI R), (1, .slice (some ⟨bb, oo, none⟩) n cap), (5, vP l 0), (7, vP r 0), (8, vI 0), (9, vI (i : Int)), (26, .slice ia ((inX R xs (f i).a).length) ca), (27, vI 1)] ⟨rfl, rfl, rfl, rfl, rfl, rfl, rfl, rfl, trivial⟩ ⟨1, rfl, rfl, Nat.le_refl _, hH94⟩ ?_
          rintro kk l w97 ⟨k, rfl, hkk, hk, hH98⟩ K96 hK96
          refine WC.seq fun K99 hK99 => ?_
          refine WC.seq fun K100 hK100 => ?_
          refine WC.region ?_
          refine WL.pure (v := vI (k : Int)) 166 rfl (Nat.le_of_ble_eq_true rfl) rfl rfl (by kernel_rfl) ?_
          refine WL.pure (v := .slice ia ((inX R xs (f i).a).length) ca) 167 rfl (Nat.le_of_ble_eq_true rfl) rfl rfl (by kernel_rfl) ?_
          refine WL.pure (v := vI (((inX R xs (f i).a).length : Nat) : Int)) 168 rfl (Nat.le_of_ble_eq_true rfl) rfl rfl (by kernel_rfl) ?_
          by_cases hkl : (k : Int) < (((inX R xs (f i).a).length : Nat) : Int)
          ·
            refine WL.pure (v := .bool true) 169 rfl (Nat.le_of_ble_eq_true rfl) rfl rfl (x_lss rfl rfl rfl (dT (hkl))) ?_
            refine WL.nil ?_
            refine WQ.then ?_
            refine hK100 _ _ _ ?_
            refine WC.yes rfl ?_
            refine WC.skip ?_
            refine WQ.then ?_
            refine hK99 _ _ _ ?_
            refine WC.seq fun K101 hK101 => ?_
            refine WC.block ?_
            refine WC.seq fun K102 hK102 => ?_
            obtain ⟨g, hg, hrow⟩ := row_open (xs := (inX R xs (f i).a)) (HP.get hH98 5 rfl) (by omega)
            subst hg
            refine WC.still (by kernel_rfl) (by kernel_rfl) ?_
            have hH103 : HP Tr w _ [.cel l #[vI R, .slice pv3 (inX R xs (f i).a).length cp3] 96, .own (.slice pv3 (inX R xs (f i).a).length cp3) (inX R xs (f i).a).length (iL (inX R xs (f i).a)) 3 1, .cel r #[.slice qv3 (inX R xs (f i).a).length cq3, vI R] 97, .own (.slice qv3 (inX R xs (f i).a).length cq3) (inX R xs (f i).a).length (iL (inX R xs (f i).a)) 3 1, .cel b69 #[vI ((f i).d), vI ((f i).a), vI ((f i).v), .bool ((f i).f), .string ((f i).s)] 30, .own (.slice (some ⟨g, 0, none⟩) (inX R xs (f i).a).length ca) (inX R xs (f i).a).length (iL (inX R xs (f i).a)) 3 1, .own (.slice ib (inX R xs (f i).a).length cb) (inX R xs (f i).a).length (iL (inX R xs (f i).a)) 3 1] := HP.drew hH98
            refine WS.val (v := vS g ((inX R xs (f i).a).length) ca) 172 rfl (Nat.le_of_ble_eq_true rfl) rfl rfl (by kernel_rfl) ?_
            refine WS.val (v := vI (k : Int)) 173 rfl (Nat.le_of_ble_eq_true rfl) rfl rfl (by kernel_rfl) ?_
            refine WS.val (v := vP g k) 174 rfl (Nat.le_of_ble_eq_true rfl) rfl rfl (x_idx (k) (k) rfl rfl rfl Try.underlying58 sz3 (by omega) (by omega) (by omega)) ?_
            refine WS.val (v := vI ((inX R xs (f i).a).getD (k) 0)) 175 rfl (Nat.le_of_ble_eq_true rfl) rfl rfl (x_load rfl rfl Try.underlying3 rfl (hrow (k) (by omega))) ?_
            refine WS.val (v := vS g ((inX R xs (f i).a).length) ca) 176 rfl (Nat.le_of_ble_eq_true rfl) rfl rfl (by kernel_rfl) ?_
            refine WS.val (v := vI (k : Int)) 177 rfl (Nat.le_of_ble_eq_true rfl) rfl rfl (by kernel_rfl) ?_
            refine WS.val (v := vI ((k - 1 : Nat) : Int)) 178 rfl (Nat.le_of_ble_eq_true rfl) rfl rfl (x_sub (Z := ((k - 1 : Nat) : Int)) rfl rfl rfl (by omega) (by omega) (by omega)) ?_
            refine WS.val (v := vP g (k - 1)) 179 rfl (Nat.le_of_ble_eq_true rfl) rfl rfl (x_idx (k - 1) (k - 1) rfl rfl rfl Try.underlying58 sz3 (by omega) (by omega) (by omega)) ?_
            refine WS.val (v := vI ((inX R xs (f i).a).getD (k - 1) 0)) 180 rfl (Nat.le_of_ble_eq_true rfl) rfl rfl (x_load rfl rfl Try.underlying3 rfl (hrow (k - 1) (by omega))) ?_
            refine WS.val (v := .bool false) 181 rfl (Nat.le_of_ble_eq_true rfl) rfl rfl (x_lss rfl rfl rfl (dF (by have := hss (k - 1) k (by omega) (by omega); omega))) ?_
            refine WS.nilQ ?_
            refine WQ.then ?_
            refine hK102 _ _ _ ?_
            refine WC.sub (l' := [(0, vI R), (1, .slice (some ⟨bb, oo, none⟩) n cap), (5, vP l 0), (7, vP r 0), (8, vI 0), (9, vI (i : Int)), (26, vS g ((inX R xs (f i).a).length) ca), (27, vI (k : Int)), (169, .bool true), (181, .bool false)]) ⟨rfl, rfl, rfl, rfl, rfl, rfl, rfl, rfl, rfl, rfl, trivial⟩ ?_
            refine WC.no rfl ?_
            refine WC.skip ?_
            refine WQ.inNormal ?_
            refine WQ.then ?_
            refine hK101 _ _ _ ?_
            refine WC.region ?_
            refine WL.pure (v := vI (k : Int)) 170 rfl (Nat.le_of_ble_eq_true rfl) rfl rfl (by kernel_rfl) ?_
            refine WL.pure (v := vI ((k + 1 : Nat) : Int)) 171 rfl (Nat.le_of_ble_eq_true rfl) rfl rfl (x_add (Z := ((k + 1 : Nat) : Int)) rfl rfl rfl (by omega) (by omega) (by omega)) ?_
            refine WL.pure (v := vI ((k + 1 : Nat) : Int)) 27 rfl (Nat.le_of_ble_eq_true rfl) rfl rfl (by kernel_rfl) ?_
            refine WL.nil ?_
            refine WQ.sub (l' := [(0, vI R), (1, .slice (some ⟨bb, oo, none⟩) n cap), (5, vP l 0), (7, vP r 0), (8, vI 0), (9, vI (i : Int)), (26, vS g ((inX R xs (f i).a).length) ca), (27, vI ((k + 1 : Nat) : Int))]) ⟨rfl, rfl, rfl, rfl, rfl, rfl, rfl, rfl, trivial⟩ ?_
            refine WQ.then (hK96 _ _ _ (by omega) ⟨k + 1, rfl, rfl, by omega, hH103⟩)
          ·
            refine WL.pure (v := .bool false) 169 rfl (Nat.le_of_ble_eq_true rfl) rfl rfl (x_lss rfl rfl rfl (dF (hkl))) ?_
            refine WL.nil ?_
            refine WQ.then ?_
            refine hK100 _ _ _ ?_
            refine WC.no rfl ?_
            refine WC.exit ?_
            refine WQ.thenExit ?_
            refine WQ.thenExit ?_
            refine WQ.inExit ?_
            refine WQ.inNormal ?_
            refine WQ.then ?_
            refine hK67 _ _ _ ?_
            refine WC.region ?_
            refine WL.pure (v := vI (i : Int)) 53 rfl (Nat.le_of_ble_eq_true rfl) rfl rfl (by kernel_rfl) ?_
            refine WL.pure (v := vI ((i + 1 : Nat) : Int)) 54 rfl (Nat.le_of_ble_eq_true rfl) rfl rfl (x_add (Z := ((i + 1 : Nat) : Int)) rfl rfl rfl (by omega) (by omega) (by omega)) ?_
            refine WL.pure (v := vI ((i + 1 : Nat) : Int)) 9 rfl (Nat.le_of_ble_eq_true rfl) rfl rfl (by kernel_rfl) ?_
            refine WL.nil ?_
            refine WQ.sub (l' := [(0, vI R), (1, .slice (some ⟨bb, oo, none⟩) n cap), (5, vP l 0), (7, vP r 0), (8, vI 0), (9, vI ((i + 1 : Nat) : Int))]) ⟨rfl, rfl, rfl, rfl, rfl, rfl, trivial⟩ ?_
            refine WQ.then (hK62 _ _ _ (by omega) ⟨i + 1, (inX R xs (f i).a), pv3, cp3, qv3, cq3, rfl, rfl, by omega, len_in hR2 hx hs, hss, (HP.drop (HP.drop (HP.drop hH98 6) 5) 4)⟩)
        ·
          refine WL.pure (v := .bool false) 62 rfl (Nat.le_of_ble_eq_true rfl) rfl rfl (x_eql rfl rfl rfl (dF (h1))) ?_
          refine WL.pure (v := .bool false) 61 rfl (Nat.le_of_ble_eq_true rfl) rfl rfl (by kernel_rfl) ?_
          refine WL.nil ?_
          refine WQ.then ?_
          refine hK77 _ _ _ ?_
          refine WC.sub (l' := [(0, vI R), (1, .slice (some ⟨bb, oo, none⟩) n cap), (5, vP l 0), (7, vP r 0), (8, vI 0), (9, vI (i : Int)), (10, vP b69 0), (11, .bool true), (52, .bool true), (60, vI ((f i).d)), (61, .bool false)]) ⟨rfl, rfl, rfl, rfl, rfl, rfl, rfl, rfl, rfl, rfl, rfl, trivial⟩ ?_
          refine WC.no rfl ?_
          refine WC.seq fun K104 hK104 => ?_
          refine WC.region ?_
          by_cases h2 : (f i).d = 2
          ·
            refine WL.pure (v := .bool true) 91 rfl (Nat.le_of_ble_eq_true rfl) rfl rfl (x_eql rfl rfl rfl (dT (h2))) ?_
            refine WL.pure (v := .bool true) 90 rfl (Nat.le_of_ble_eq_true rfl) rfl rfl (by kernel_rfl) ?_
            refine WL.nil ?_
            refine WQ.then ?_
            refine hK104 _ _ _ ?_
            refine WC.yes rfl ?_
            refine WC.seq fun K105 hK105 => ?_
            refine WC.region ?_
            refine WL.pure (v := vP l 0) 93 rfl (Nat.le_of_ble_eq_true rfl) rfl rfl (by kernel_rfl) ?_
            refine WL.pure (v := vP b69 1) 94 rfl (Nat.le_of_ble_eq_true rfl) rfl rfl (by kernel_rfl) ?_
            refine WL.pure (v := vI ((f i).a)) 95 rfl (Nat.le_of_ble_eq_true rfl) rfl rfl (x_load rfl rfl Try.underlying3 rfl (HP.cell hH73 4 rfl rfl)) ?_
            refine WL.call (f := 40) (args := #[vP l 0, vI ((f i).a)]) 96 rfl (Nat.le_of_ble_eq_true rfl) rfl rfl (by kernel_rfl) ?_
            refine (Remove_any l R pv cp xs (f i).a _ (HP.ownF (A := [.cel l #[vI R, .slice pv xs.length cp] 96, .own (.slice pv xs.length cp) xs.length (iL xs) 3 1]) (B := [.cel r #[.slice qv xs.length cq, vI R] 97, .own (.slice qv xs.length cq) xs.length (iL xs) 3 1, .cel b69 #[vI ((f i).d), vI ((f i).a), vI ((f i).v), .bool ((f i).f), .string ((f i).s)] 30]) hH73) hR1 (by omega) hs).mono ?_
            rintro e w3 ⟨pv3, cp3, rfl, hb3⟩
            refine ⟨_, rfl, ?_⟩
            have hH106 : HP Tr w _ [.cel l #[vI R, .slice pv3 (rmX xs (f i).a).length cp3] 96, .own (.slice pv3 (rmX xs (f i).a).length cp3) (rmX xs (f i).a).length (iL (rmX xs (f i).a)) 3 1, .cel r #[.slice qv xs.length cq, vI R] 97, .own (.slice qv xs.length cq) xs.length (iL xs) 3 1, .cel b69 #[vI ((f i).d), vI ((f i).a), vI ((f i).v), .bool ((f i).f), .string ((f i).s)] 30] := HP.exchF (A := [.cel l #[vI R, .slice pv xs.length cp] 96, .own (.slice pv xs.length cp) xs.length (iL xs) 3 1]) (B := [.cel r #[.slice qv xs.length cq, vI R] 97, .own (.slice qv xs.length cq) xs.length (iL xs) 3 1, .cel b69 #[vI ((f i).d), vI ((f i).a), vI ((f i).v), .bool ((f i).f), .string ((f i).s)] 30]) hH73 hb3
            refine WL.pure (v := .tuple #[vI (rmS xs (f i).a), vI (fdE xs (f i).a)]) 92 rfl (Nat.le_of_ble_eq_true rfl) rfl rfl (by kernel_rfl) ?_
            refine WL.pure (v := vI (rmS xs (f i).a)) 97 rfl (Nat.le_of_ble_eq_true rfl) rfl rfl (by kernel_rfl) ?_
            refine WL.pure (v := vI (fdE xs (f i).a)) 98 rfl (Nat.le_of_ble_eq_true rfl) rfl rfl (by kernel_rfl) ?_
            refine WL.pure (v := vI (rmS xs (f i).a)) 16 rfl (Nat.le_of_ble_eq_true rfl) rfl rfl (by kernel_rfl) ?_
            refine WL.pure (v := vI (fdE xs (f i).a)) 17 rfl (Nat.le_of_ble_eq_true rfl) rfl rfl (by kernel_rfl) ?_
            refine WL.nil ?_
            refine WQ.then ?_
            refine hK105 _ _ _ ?_
            refine WC.sub (l' := [(0, vI R), (1, .slice (some ⟨bb, oo, none⟩) n cap), (5, vP l 0), (7, vP r 0), (8, vI 0), (9, vI (i : Int)), (10, vP b69 0), (11, .bool true), (16, vI (rmS xs (f i).a)), (17, vI (fdE xs (f i).a)), (52, .bool true), (60, vI ((f i).d)), (61, .bool false), (90, .bool true)]) ⟨rfl, rfl, rfl, rfl, rfl, rfl, rfl, rfl, rfl, rfl, rfl, rfl, rfl, rfl, trivial⟩ ?_
            refine WC.seq fun K107 hK107 => ?_
            refine WC.region ?_
            refine WL.pure (v := vP r 0) 100 rfl (Nat.le_of_ble_eq_true rfl) rfl rfl (by kernel_rfl) ?_
            refine WL.pure (v := vP b69 1) 101 rfl (Nat.le_of_ble_eq_true rfl) rfl rfl (by kernel_rfl) ?_
            refine WL.pure (v := vI ((f i).a)) 102 rfl (Nat.le_of_ble_eq_true rfl) rfl rfl (x_load rfl rfl Try.underlying3 rfl (HP.cell hH106 4 rfl rfl)) ?_
            refine WL.call (f := 41) (args := #[vP r 0, vI ((f i).a)]) 103 rfl (Nat.le_of_ble_eq_true rfl) rfl rfl (by kernel_rfl) ?_
            refine (rRemove_any r R qv cq xs (f i).a _ (HP.ownM (A := [.cel l #[vI R, .slice pv3 (rmX xs (f i).a).length cp3] 96, .own (.slice pv3 (rmX xs (f i).a).length cp3) (rmX xs (f i).a).length (iL (rmX xs (f i).a)) 3 1]) (R := [.cel r #[.slice qv xs.length cq, vI R] 97, .own (.slice qv xs.length cq) xs.length (iL xs) 3 1]) (C := [.cel b69 #[vI ((f i).d), vI ((f i).a), vI ((f i).v), .bool ((f i).f), .string ((f i).s)] 30]) hH106) hR1 (by omega) hs).mono ?_
            rintro e w4 ⟨qv3, cq3, rfl, hb4⟩
            refine ⟨_, rfl, ?_⟩
            have hH108 : HP Tr w _ [.cel l #[vI R, .slice pv3 (rmX xs (f i).a).length cp3] 96, .own (.slice pv3 (rmX xs (f i).a).length cp3) (rmX xs (f i).a).length (iL (rmX xs (f i).a)) 3 1, .cel r #[.slice qv3 (rmX xs (f i).a).length cq3, vI R] 97, .own (.slice qv3 (rmX xs (f i).a).length cq3) (rmX xs (f i).a).length (iL (rmX xs (f i).a)) 3 1, .cel b69 #[vI ((f i).d), vI ((f i).a), vI ((f i).v), .bool ((f i).f), .string ((f i).s)] 30] := HP.exchM (A := [.cel l #[vI R, .slice pv3 (rmX xs (f i).a).length cp3] 96, .own (.slice pv3 (rmX xs (f i).a).length cp3) (rmX xs (f i).a).length (iL (rmX xs (f i).a)) 3 1]) (R := [.cel r #[.slice qv xs.length cq, vI R] 97, .own (.slice qv xs.length cq) xs.length (iL xs) 3 1]) (C := [.cel b69 #[vI ((f i).d), vI ((f i).a), vI ((f i).v), .bool ((f i).f), .string ((f i).s)] 30]) hH106 hb4
            refine WL.pure (v := .tuple #[vI (rmS xs (f i).a), vI (fdE xs (f i).a)]) 99 rfl (Nat.le_of_ble_eq_true rfl) rfl rfl (by kernel_rfl) ?_
            refine WL.pure (v := vI (rmS xs (f i).a)) 104 rfl (Nat.le_of_ble_eq_true rfl) rfl rfl (by kernel_rfl) ?_
            refine WL.pure (v := vI (fdE xs (f i).a)) 105 rfl (Nat.le_of_ble_eq_true rfl) rfl rfl (by kernel_rfl) ?_
            refine WL.pure (v := vI (rmS xs (f i).a)) 18 rfl (Nat.le_of_ble_eq_true rfl) rfl rfl (by kernel_rfl) ?_
            refine WL.pure (v := vI (fdE xs (f i).a)) 19 rfl (Nat.le_of_ble_eq_true rfl) rfl rfl (by kernel_rfl) ?_
            refine WL.nil ?_
            refine WQ.then ?_
            refine hK107 _ _ _ ?_
            refine WC.sub (l' := [(0, vI R), (1, .slice (some ⟨bb, oo, none⟩) n cap), (5, vP l 0), (7, vP r 0), (8, vI 0), (9, vI (i : Int)), (10, vP b69 0), (11, .bool true), (16, vI (rmS xs (f i).a)), (17, vI (fdE xs (f i).a)), (18, vI (rmS xs (f i).a)), (19, vI (fdE xs (f i).a)), (52, .bool true), (60, vI ((f i).d)), (61, .bool false), (90, .bool true)]) ⟨rfl, rfl, rfl, rfl, rfl, rfl, rfl, rfl, rfl, rfl, rfl, rfl, rfl, rfl, rfl, rfl, trivial⟩ ?_
            refine WC.region ?_
            refine WL.pure (v := vI (rmS xs (f i).a)) 106 rfl (Nat.le_of_ble_eq_true rfl) rfl rfl (by kernel_rfl) ?_
            refine WL.pure (v := vI (rmS xs (f i).a)) 107 rfl (Nat.le_of_ble_eq_true rfl) rfl rfl (by kernel_rfl) ?_
            refine WL.pure (v := .bool true) 108 rfl (Nat.le_of_ble_eq_true rfl) rfl rfl (x_eql rfl rfl rfl (dT (rfl))) ?_
            refine WL.pure (v := .bool true) 109 rfl (Nat.le_of_ble_eq_true rfl) rfl rfl (by kernel_rfl) ?_
            refine WL.pure (v := vI (fdE xs (f i).a)) 110 rfl (Nat.le_of_ble_eq_true rfl) rfl rfl (by kernel_rfl) ?_
            refine WL.pure (v := vI (fdE xs (f i).a)) 111 rfl (Nat.le_of_ble_eq_true rfl) rfl rfl (by kernel_rfl) ?_
            refine WL.pure (v := .bool true) 112 rfl (Nat.le_of_ble_eq_true rfl) rfl rfl (x_eql rfl rfl rfl (dT (rfl))) ?_
            refine WL.pure (v := .bool true) 113 rfl (Nat.le_of_ble_eq_true rfl) rfl rfl (by kernel_rfl) ?_
            refine WL.pure (v := .bool true) 114 rfl (Nat.le_of_ble_eq_true rfl) rfl rfl (by kernel_rfl) ?_
            refine WL.pure (v := vI (rmS xs (f i).a)) 115 rfl (Nat.le_of_ble_eq_true rfl) rfl rfl (by kernel_rfl) ?_
            refine WL.pure (v := vI R) 116 rfl (Nat.le_of_ble_eq_true rfl) rfl rfl (by kernel_rfl) ?_
            refine WL.call (f := 39) (args := #[vI (rmS xs (f i).a), .string (⟨#[114, 101, 109, 111, 118, 101]⟩), vI R]) 117 rfl (Nat.le_of_ble_eq_true rfl) rfl rfl (by kernel_rfl) ?_
            refine (Lc.within_any _ _ R _ (by rw [ctr_rem hrm]) (rm_bd hR2 hx hs).1 (by rw [ctr_rem hrm]; exact (rm_bd hR2 hx hs).2)).mono ?_
            rintro e w109 ⟨rfl, rfl⟩
            refine ⟨_, rfl, ?_⟩
            refine WL.pure (v := .bool true) 118 rfl (Nat.le_of_ble_eq_true rfl) rfl rfl (by kernel_rfl) ?_
            refine WL.pure (v := .bool true) 11 rfl (Nat.le_of_ble_eq_true rfl) rfl rfl (by kernel_rfl) ?_
            refine WL.nil ?_
            refine WQ.inNormal ?_
            refine WQ.then ?_
            refine hK75 _ _ _ ?_
            refine WC.sub (l' := [(0, vI R), (1, .slice (some ⟨bb, oo, none⟩) n cap), (5, vP l 0), (7, vP r 0), (8, vI 0), (9, vI (i : Int)), (10, vP b69 0), (11, .bool true), (16, vI (rmS xs (f i).a)), (17, vI (fdE xs (f i).a)), (18, vI (rmS xs (f i).a)), (19, vI (fdE xs (f i).a)), (52, .bool true), (60, vI ((f i).d)), (61, .bool false), (90, .bool true)]) ⟨rfl, rfl, rfl, rfl, rfl, rfl, rfl, rfl, rfl, rfl, rfl, rfl, rfl, rfl, rfl, rfl, trivial⟩ ?_
            refine WC.seq fun K110 hK110 => ?_
            refine WC.region ?_
            refine WL.pure (v := vP l 0) 155 rfl (Nat.le_of_ble_eq_true rfl) rfl rfl (by kernel_rfl) ?_
            have hlx : ((rmX xs (f i).a).length : Int) ≤ R := len_rm hx
            refine WL.call (f := 44) (args := #[vP l 0]) 156 rfl (Nat.le_of_ble_eq_true rfl) rfl rfl (by kernel_rfl) ?_
            refine (sItems_any l R pv3 cp3 (rmX xs (f i).a) _ (HP.ownF (A := [.cel l #[vI R, .slice pv3 (rmX xs (f i).a).length cp3] 96, .own (.slice pv3 (rmX xs (f i).a).length cp3) (rmX xs (f i).a).length (iL (rmX xs (f i).a)) 3 1]) (B := [.cel r #[.slice qv3 (rmX xs (f i).a).length cq3, vI R] 97, .own (.slice qv3 (rmX xs (f i).a).length cq3) (rmX xs (f i).a).length (iL (rmX xs (f i).a)) 3 1, .cel b69 #[vI ((f i).d), vI ((f i).a), vI ((f i).v), .bool ((f i).f), .string ((f i).s)] 30]) hH108) hR1 (by omega)).mono ?_
            rintro e w111 ⟨ia, ca, rfl, hb112⟩
            refine ⟨_, rfl, ?_⟩
            have hH113 : HP Tr w _ [.cel l #[vI R, .slice pv3 (rmX xs (f i).a).length cp3] 96, .own (.slice pv3 (rmX xs (f i).a).length cp3) (rmX xs (f i).a).length (iL (rmX xs (f i).a)) 3 1, .cel r #[.slice qv3 (rmX xs (f i).a).length cq3, vI R] 97, .own (.slice qv3 (rmX xs (f i).a).length cq3) (rmX xs (f i).a).length (iL (rmX xs (f i).a)) 3 1, .cel b69 #[vI ((f i).d), vI ((f i).a), vI ((f i).v), .bool ((f i).f), .string ((f i).s)] 30, .own (.slice ia (rmX xs (f i).a).length ca) (rmX xs (f i).a).length (iL (rmX xs (f i).a)) 3 1] := HP.trans hH108 hb112
            refine WL.pure (v := .slice ia ((rmX xs (f i).a).length) ca) 26 rfl (Nat.le_of_ble_eq_true rfl) rfl rfl (by kernel_rfl) ?_
            refine WL.nil ?_
            refine WQ.then ?_
            refine hK110 _ _ _ ?_
            refine WC.seq fun K114 hK114 => ?_
            refine WC.seq fun K115 hK115 => ?_
            refine WC.region ?_
            refine WL.pure (v := .bool true) 157 rfl (Nat.le_of_ble_eq_true rfl) rfl rfl (by kernel_rfl) ?_
            refine WL.pure (v := .bool false) 158 rfl (Nat.le_of_ble_eq_true rfl) rfl rfl (by kernel_rfl) ?_
            refine WL.pure (v := .bool false) 159 rfl (Nat.le_of_ble_eq_true rfl) rfl rfl (by kernel_rfl) ?_
            refine WL.pure (v := .slice ia ((rmX xs (f i).a).length) ca) 160 rfl (Nat.le_of_ble_eq_true rfl) rfl rfl (by kernel_rfl) ?_
            refine WL.pure (v := vP r 0) 161 rfl (Nat.le_of_ble_eq_true rfl) rfl rfl (by kernel_rfl) ?_
            refine WL.call (f := 45) (args := #[vP r 0]) 162 rfl (Nat.le_of_ble_eq_true rfl) rfl rfl (by kernel_rfl) ?_
            refine (srItems_any r R qv3 cq3 (rmX xs (f i).a) _ (HP.ownM (A := [.cel l #[vI R, .slice pv3 (rmX xs (f i).a).length cp3] 96, .own (.slice pv3 (rmX xs (f i).a).length cp3) (rmX xs (f i).a).length (iL (rmX xs (f i).a)) 3 1]) (R := [.cel r #[.slice qv3 (rmX xs (f i).a).length cq3, vI R] 97, .own (.slice qv3 (rmX xs (f i).a).length cq3) (rmX xs (f i).a).length (iL (rmX xs (f i).a)) 3 1]) (C := [.cel b69 #[vI ((f i).d), vI ((f i).a), vI ((f i).v), .bool ((f i).f), .string ((f i).s)] 30, .own (.slice ia (rmX xs (f i).a).length ca) (rmX xs (f i).a).length (iL (rmX xs (f i).a)) 3 1]) hH113) hR1 (by omega)).mono ?_
            rintro e w116 ⟨ib, cb, rfl, hb117⟩
            refine ⟨_, rfl, ?_⟩
            have hH118 : HP Tr w _ [.cel l #[vI R, .slice pv3 (rmX xs (f i).a).length cp3] 96, .own (.slice pv3 (rmX xs (f i).a).length cp3) (rmX xs (f i).a).length (iL (rmX xs (f i).a)) 3 1, .cel r #[.slice qv3 (rmX xs (f i).a).length cq3, vI R] 97, .own (.slice qv3 (rmX xs (f i).a).length cq3) (rmX xs (f i).a).length (iL (rmX xs (f i).a)) 3 1, .cel b69 #[vI ((f i).d), vI ((f i).a), vI ((f i).v), .bool ((f i).f), .string ((f i).s)] 30, .own (.slice ia (rmX xs (f i).a).length ca) (rmX xs (f i).a).length (iL (rmX xs (f i).a)) 3 1, .own (.slice ib (rmX xs (f i).a).length cb) (rmX xs (f i).a).length (iL (rmX xs (f i).a)) 3 1] := HP.trans hH113 hb117
            refine WL.call (f := 32) (args := #[.slice ia ((rmX xs (f i).a).length) ca, .slice ib ((rmX xs (f i).a).length) cb]) 163 rfl (Nat.le_of_ble_eq_true rfl) rfl rfl (by kernel_rfl) ?_
            refine (Ints_any _ _ _ _ (rmX xs (f i).a) _ (HP.get hH118 5 rfl) (HP.get hH118 6 rfl) (by omega)).mono ?_
            rintro e w119 ⟨rfl, hb120⟩
            refine ⟨_, rfl, ?_⟩
            have hH121 : HP Tr w _ [.cel l #[vI R, .slice pv3 (rmX xs (f i).a).length cp3] 96, .own (.slice pv3 (rmX xs (f i).a).length cp3) (rmX xs (f i).a).length (iL (rmX xs (f i).a)) 3 1, .cel r #[.slice qv3 (rmX xs (f i).a).length cq3, vI R] 97, .own (.slice qv3 (rmX xs (f i).a).length cq3) (rmX xs (f i).a).length (iL (rmX xs (f i).a)) 3 1, .cel b69 #[vI ((f i).d), vI ((f i).a), vI ((f i).v), .bool ((f i).f), .string ((f i).s)] 30, .own (.slice ia (rmX xs (f i).a).length ca) (rmX xs (f i).a).length (iL (rmX xs (f i).a)) 3 1, .own (.slice ib (rmX xs (f i).a).length cb) (rmX xs (f i).a).length (iL (rmX xs (f i).a)) 3 1] := HP.call hH118 hb120
            refine WL.pure (v := .bool false) 164 rfl (Nat.le_of_ble_eq_true rfl) rfl rfl (by kernel_rfl) ?_
            refine WL.pure (v := .bool false) 165 rfl (Nat.le_of_ble_eq_true rfl) rfl rfl (by kernel_rfl) ?_
            refine WL.nil ?_
            refine WQ.then ?_
            refine hK115 _ _ _ ?_
            refine WC.sub (l' := [(0, vI R), (1, .slice (some ⟨bb, oo, none⟩) n cap), (5, vP l 0), (7, vP r 0), (8, vI 0), (9, vI (i : Int)), (10, vP b69 0), (11, .bool true), (16, vI (rmS xs (f i).a)), (17, vI (fdE xs (f i).a)), (18, vI (rmS xs (f i).a)), (19, vI (fdE xs (f i).a)), (26, .slice ia ((rmX xs (f i).a).length) ca), (52, .bool true), (60, vI ((f i).d)), (61, .bool false), (90, .bool true), (165, .bool false)]) ⟨rfl, rfl, rfl, rfl, rfl, rfl, rfl, rfl, rfl, rfl, rfl, rfl, rfl, rfl, rfl, rfl, rfl, rfl, trivial⟩ ?_
            refine WC.no rfl ?_
            refine WC.skip ?_
            refine WQ.then ?_
            refine hK114 _ _ _ ?_
            refine WC.seq fun K122 hK122 => ?_
            have hss : srt (rmX xs (f i).a) := srt_rm hs
            refine WC.region ?_
            refine WL.pure (v := vI 1) 27 rfl (Nat.le_of_ble_eq_true rfl) rfl rfl (by kernel_rfl) ?_
            refine WL.nil ?_
            refine WQ.then ?_
            refine hK122 _ _ _ ?_
            refine WC.block ?_
            refine WC.loop (fun kk0 ll0 ww0 => ∃ (k : Nat), ll0 = [(0, vI R), (1, .slice (some ⟨bb, oo, none⟩) n cap), (5, vP l 0), (7, vP r 0), (8, vI 0), (9, vI (i : Int)), (26, .slice ia ((rmX xs (f i).a).length) ca), (27, vI (k : Int))] ∧ kk0 = (rmX xs (f i).a).length - k ∧ (1 ≤ k) ∧ HP Tr w ww0 [.cel l #[vI R, .slice pv3 (rmX xs (f i).a).length cp3] 96, .own (.slice pv3 (rmX xs (f i).a).length cp3) (rmX xs (f i).a).length (iL (rmX xs (f i).a)) 3 1, .cel r #[.slice qv3 (rmX xs (f i).a).length cq3, vI R] 97, .own (.slice qv3 (rmX xs (f i).a).length cq3) (rmX xs (f i).a).length (iL (rmX xs (f i).a)) 3 1, .cel b69 #[vI ((f i).d), vI ((f i).a), vI ((f i).v), .bool ((f i).f), .string ((f i).s)] 30, .own (.slice ia (rmX xs (f i).a).length ca) (rmX xs (f i).a).length (iL (rmX xs (f i).a)) 3 1, .own (.slice ib (rmX xs (f i).a).length cb) (rmX xs (f i).a).length (iL (rmX xs (f i).a)) 3 1]) ((rmX xs (f i).a).length - 1) [(0, vI R), (1, .slice (some ⟨bb, oo, none⟩) n cap), (5, vP l 0), (7, vP r 0), (8, vI 0), (9, vI (i : Int)), (26, .slice ia ((rmX xs (f i).a).length) ca), (27, vI 1)] ⟨rfl, rfl, rfl, rfl, rfl, rfl, rfl, rfl, trivial⟩ ⟨1, rfl, rfl, Nat.le_refl _, hH121⟩ ?_
            rintro kk l w124 ⟨k, rfl, hkk, hk, hH125⟩ K123 hK123
            refine WC.seq fun K126 hK126 => ?_
            refine WC.seq fun K127 hK127 => ?_
            refine WC.region ?_
            refine WL.pure (v := vI (k : Int)) 166 rfl (Nat.le_of_ble_eq_true rfl) rfl rfl (by kernel_rfl) ?_
            refine WL.pure (v := .slice ia ((rmX xs (f i).a).length) ca) 167 rfl (Nat.le_of_ble_eq_true rfl) rfl rfl (by kernel_rfl) ?_
            refine WL.pure (v := vI (((rmX xs (f i).a).length : Nat) : Int)) 168 rfl (Nat.le_of_ble_eq_true rfl) rfl rfl (by kernel_rfl) ?_
            by_cases hkl : (k : Int) < (((rmX xs (f i).a).length : Nat) : Int)
            ·
              refine WL.pure (v := .bool true) 169 rfl (Nat.le_of_ble_eq_true rfl) rfl rfl (x_lss rfl rfl rfl (dT (hkl))) ?_
              refine WL.nil ?_
              refine WQ.then ?_
              refine hK127 _ _ _ ?_
              refine WC.yes rfl ?_
              refine WC.skip ?_
              refine WQ.then ?_
              refine hK126 _ _ _ ?_
              refine WC.seq fun K128 hK128 => ?_
              refine WC.block ?_
              refine WC.seq fun K129 hK129 => ?_
              obtain ⟨g, hg, hrow⟩ := row_open (xs := (rmX xs (f i).a)) (HP.get hH125 5 rfl) (by omega)
              subst hg
              refine WC.still (by kernel_rfl) (by kernel_rfl) ?_
              have hH130 : HP Tr w _ [.cel l #[vI R, .slice pv3 (rmX xs (f i).a).length cp3] 96, .own (.slice pv3 (rmX xs (f i).a).length cp3) (rmX xs (f i).a).length (iL (rmX xs (f i).a)) 3 1, .cel r #[.slice qv3 (rmX xs (f i).a).length cq3, vI R] 97, .own (.slice qv3 (rmX xs (f i).a).length cq3) (rmX xs (f i).a).length (iL (rmX xs (f i).a)) 3 1, .cel b69 #[vI ((f i).d), vI ((f i).a), vI ((f i).v), .bool ((f i).f), .string ((f i).s)] 30, .own (.slice (some ⟨g, 0, none⟩) (rmX xs (f i).a).length ca) (rmX xs (f i).a).length (iL (rmX xs (f i).a)) 3 1, .own (.slice ib (rmX xs (f i).a).length cb) (rmX xs (f i).a).length (iL (rmX xs (f i).a)) 3 1] := HP.drew hH125
              refine WS.val (v := vS g ((rmX xs (f i).a).length) ca) 172 rfl (Nat.le_of_ble_eq_true rfl) rfl rfl (by kernel_rfl) ?_
              refine WS.val (v := vI (k : Int)) 173 rfl (Nat.le_of_ble_eq_true rfl) rfl rfl (by kernel_rfl) ?_
              refine WS.val (v := vP g k) 174 rfl (Nat.le_of_ble_eq_true rfl) rfl rfl (x_idx (k) (k) rfl rfl rfl Try.underlying58 sz3 (by omega) (by omega) (by omega)) ?_
              refine WS.val (v := vI ((rmX xs (f i).a).getD (k) 0)) 175 rfl (Nat.le_of_ble_eq_true rfl) rfl rfl (x_load rfl rfl Try.underlying3 rfl (hrow (k) (by omega))) ?_
              refine WS.val (v := vS g ((rmX xs (f i).a).length) ca) 176 rfl (Nat.le_of_ble_eq_true rfl) rfl rfl (by kernel_rfl) ?_
              refine WS.val (v := vI (k : Int)) 177 rfl (Nat.le_of_ble_eq_true rfl) rfl rfl (by kernel_rfl) ?_
              refine WS.val (v := vI ((k - 1 : Nat) : Int)) 178 rfl (Nat.le_of_ble_eq_true rfl) rfl rfl (x_sub (Z := ((k - 1 : Nat) : Int)) rfl rfl rfl (by omega) (by omega) (by omega)) ?_
              refine WS.val (v := vP g (k - 1)) 179 rfl (Nat.le_of_ble_eq_true rfl) rfl rfl (x_idx (k - 1) (k - 1) rfl rfl rfl Try.underlying58 sz3 (by omega) (by omega) (by omega)) ?_
              refine WS.val (v := vI ((rmX xs (f i).a).getD (k - 1) 0)) 180 rfl (Nat.le_of_ble_eq_true rfl) rfl rfl (x_load rfl rfl Try.underlying3 rfl (hrow (k - 1) (by omega))) ?_
              refine WS.val (v := .bool false) 181 rfl (Nat.le_of_ble_eq_true rfl) rfl rfl (x_lss rfl rfl rfl (dF (by have := hss (k - 1) k (by omega) (by omega); omega))) ?_
              refine WS.nilQ ?_
              refine WQ.then ?_
              refine hK129 _ _ _ ?_
              refine WC.sub (l' := [(0, vI R), (1, .slice (some ⟨bb, oo, none⟩) n cap), (5, vP l 0), (7, vP r 0), (8, vI 0), (9, vI (i : Int)), (26, vS g ((rmX xs (f i).a).length) ca), (27, vI (k : Int)), (169, .bool true), (181, .bool false)]) ⟨rfl, rfl, rfl, rfl, rfl, rfl, rfl, rfl, rfl, rfl, trivial⟩ ?_
              refine WC.no rfl ?_
              refine WC.skip ?_
              refine WQ.inNormal ?_
              refine WQ.then ?_
              refine hK128 _ _ _ ?_
              refine WC.region ?_
              refine WL.pure (v := vI (k : Int)) 170 rfl (Nat.le_of_ble_eq_true rfl) rfl rfl (by kernel_rfl) ?_
              refine WL.pure (v := vI ((k + 1 : Nat) : Int)) 171 rfl (Nat.le_of_ble_eq_true rfl) rfl rfl (x_add (Z := ((k + 1 : Nat) : Int)) rfl rfl rfl (by omega) (by omega) (by omega)) ?_
              refine WL.pure (v := vI ((k + 1 : Nat) : Int)) 27 rfl (Nat.le_of_ble_eq_true rfl) rfl rfl (by kernel_rfl) ?_
              refine WL.nil ?_
              refine WQ.sub (l' := [(0, vI R), (1, .slice (some ⟨bb, oo, none⟩) n cap), (5, vP l 0), (7, vP r 0), (8, vI 0), (9, vI (i : Int)), (26, vS g ((rmX xs (f i).a).length) ca), (27, vI ((k + 1 : Nat) : Int))]) ⟨rfl, rfl, rfl, rfl, rfl, rfl, rfl, rfl, trivial⟩ ?_
              refine WQ.then (hK123 _ _ _ (by omega) ⟨k + 1, rfl, rfl, by omega, hH130⟩)
            ·
              refine WL.pure (v := .bool false) 169 rfl (Nat.le_of_ble_eq_true rfl) rfl rfl (x_lss rfl rfl rfl (dF (hkl))) ?_
              refine WL.nil ?_
              refine WQ.then ?_
              refine hK127 _ _ _ ?_
              refine WC.no rfl ?_
              refine WC.exit ?_
              refine WQ.thenExit ?_
              refine WQ.thenExit ?_
              refine WQ.inExit ?_
              refine WQ.inNormal ?_
              refine WQ.then ?_
              refine hK67 _ _ _ ?_
              refine WC.region ?_
              refine WL.pure (v := vI (i : Int)) 53 rfl (Nat.le_of_ble_eq_true rfl) rfl rfl (by kernel_rfl) ?_
              refine WL.pure (v := vI ((i + 1 : Nat) : Int)) 54 rfl (Nat.le_of_ble_eq_true rfl) rfl rfl (x_add (Z := ((i + 1 : Nat) : Int)) rfl rfl rfl (by omega) (by omega) (by omega)) ?_
              refine WL.pure (v := vI ((i + 1 : Nat) : Int)) 9 rfl (Nat.le_of_ble_eq_true rfl) rfl rfl (by kernel_rfl) ?_
              refine WL.nil ?_
              refine WQ.sub (l' := [(0, vI R), (1, .slice (some ⟨bb, oo, none⟩) n cap), (5, vP l 0), (7, vP r 0), (8, vI 0), (9, vI ((i + 1 : Nat) : Int))]) ⟨rfl, rfl, rfl, rfl, rfl, rfl, trivial⟩ ?_
              refine WQ.then (hK62 _ _ _ (by omega) ⟨i + 1, (rmX xs (f i).a), pv3, cp3, qv3, cq3, rfl, rfl, by omega, len_rm hx, hss, (HP.drop (HP.drop (HP.drop hH125 6) 5) 4)⟩)
          ·
            refine WL.pure (v := .bool false) 91 rfl (Nat.le_of_ble_eq_true rfl) rfl rfl (x_eql rfl rfl rfl (dF (h2))) ?_
            refine WL.pure (v := .bool false) 90 rfl (Nat.le_of_ble_eq_true rfl) rfl rfl (by kernel_rfl) ?_
            refine WL.nil ?_
            refine WQ.then ?_
            refine hK104 _ _ _ ?_
            refine WC.no rfl ?_
            refine WC.seq fun K131 hK131 => ?_
            refine WC.region ?_
            by_cases h3 : (f i).d = 3
            ·
              refine WL.pure (v := .bool true) 120 rfl (Nat.le_of_ble_eq_true rfl) rfl rfl (x_eql rfl rfl rfl (dT (h3))) ?_
              refine WL.pure (v := .bool true) 119 rfl (Nat.le_of_ble_eq_true rfl) rfl rfl (by kernel_rfl) ?_
              refine WL.nil ?_
              refine WQ.then ?_
              refine hK131 _ _ _ ?_
              refine WC.yes rfl ?_
              refine WC.seq fun K132 hK132 => ?_
              refine WC.region ?_
              refine WL.pure (v := vP l 0) 122 rfl (Nat.le_of_ble_eq_true rfl) rfl rfl (by kernel_rfl) ?_
              refine WL.pure (v := vP b69 1) 123 rfl (Nat.le_of_ble_eq_true rfl) rfl rfl (by kernel_rfl) ?_
              refine WL.pure (v := vI ((f i).a)) 124 rfl (Nat.le_of_ble_eq_true rfl) rfl rfl (x_load rfl rfl Try.underlying3 rfl (HP.cell hH73 4 rfl rfl)) ?_
              refine WL.call (f := 42) (args := #[vP l 0, vI ((f i).a)]) 125 rfl (Nat.le_of_ble_eq_true rfl) rfl rfl (by kernel_rfl) ?_
              refine (Find_any l R pv cp xs (f i).a _ (HP.ownF (A := [.cel l #[vI R, .slice pv xs.length cp] 96, .own (.slice pv xs.length cp) xs.length (iL xs) 3 1]) (B := [.cel r #[.slice qv xs.length cq, vI R] 97, .own (.slice qv xs.length cq) xs.length (iL xs) 3 1, .cel b69 #[vI ((f i).d), vI ((f i).a), vI ((f i).v), .bool ((f i).f), .string ((f i).s)] 30]) hH73) hR1 (by omega) hs).mono ?_
              rintro e w133 ⟨rfl, hb134⟩
              refine ⟨_, rfl, ?_⟩
              have hH135 : HP Tr w _ [.cel l #[vI R, .slice pv xs.length cp] 96, .own (.slice pv xs.length cp) xs.length (iL xs) 3 1, .cel r #[.slice qv xs.length cq, vI R] 97, .own (.slice qv xs.length cq) xs.length (iL xs) 3 1, .cel b69 #[vI ((f i).d), vI ((f i).a), vI ((f i).v), .bool ((f i).f), .string ((f i).s)] 30] := HP.call hH73 hb134
              refine WL.pure (v := .tuple #[vI (fdA xs (f i).a), vI (fdS xs (f i).a), vI (fdE xs (f i).a)]) 121 rfl (Nat.le_of_ble_eq_true rfl) rfl rfl (by kernel_rfl) ?_
              refine WL.pure (v := vI (fdA xs (f i).a)) 126 rfl (Nat.le_of_ble_eq_true rfl) rfl rfl (by kernel_rfl) ?_
              refine WL.pure (v := vI (fdS xs (f i).a)) 127 rfl (Nat.le_of_ble_eq_true rfl) rfl rfl (by kernel_rfl) ?_
              refine WL.pure (v := vI (fdE xs (f i).a)) 128 rfl (Nat.le_of_ble_eq_true rfl) rfl rfl (by kernel_rfl) ?_
              refine WL.pure (v := vI (fdA xs (f i).a)) 20 rfl (Nat.le_of_ble_eq_true rfl) rfl rfl (by kernel_rfl) ?_
              refine WL.pure (v := vI (fdS xs (f i).a)) 21 rfl (Nat.le_of_ble_eq_true rfl) rfl rfl (by kernel_rfl) ?_
              refine WL.pure (v := vI (fdE xs (f i).a)) 22 rfl (Nat.le_of_ble_eq_true rfl) rfl rfl (by kernel_rfl) ?_
              refine WL.nil ?_
              refine WQ.then ?_
              refine hK132 _ _ _ ?_
              refine WC.sub (l' := [(0, vI R), (1, .slice (some ⟨bb, oo, none⟩) n cap), (5, vP l 0), (7, vP r 0), (8, vI 0), (9, vI (i : Int)), (10, vP b69 0), (11, .bool true), (20, vI (fdA xs (f i).a)), (21, vI (fdS xs (f i).a)), (22, vI (fdE xs (f i).a)), (52, .bool true), (60, vI ((f i).d)), (61, .bool false), (90, .bool false), (119, .bool true)]) ⟨rfl, rfl, rfl, rfl, rfl, rfl, rfl, rfl, rfl, rfl, rfl, rfl, rfl, rfl, rfl, rfl, trivial⟩ ?_
              refine WC.seq fun K136 hK136 => ?_
              refine WC.region ?_
              refine WL.pure (v := vP r 0) 130 rfl (Nat.le_of_ble_eq_true rfl) rfl rfl (by kernel_rfl) ?_
              refine WL.pure (v := vP b69 1) 131 rfl (Nat.le_of_ble_eq_true rfl) rfl rfl (by kernel_rfl) ?_
              refine WL.pure (v := vI ((f i).a)) 132 rfl (Nat.le_of_ble_eq_true rfl) rfl rfl (x_load rfl rfl Try.underlying3 rfl (HP.cell hH135 4 rfl rfl)) ?_
              refine WL.call (f := 43) (args := #[vP r 0, vI ((f i).a)]) 133 rfl (Nat.le_of_ble_eq_true rfl) rfl rfl (by kernel_rfl) ?_
              refine (rFind_any r R qv cq xs (f i).a _ (HP.ownM (A := [.cel l #[vI R, .slice pv xs.length cp] 96, .own (.slice pv xs.length cp) xs.length (iL xs) 3 1]) (R := [.cel r #[.slice qv xs.length cq, vI R] 97, .own (.slice qv xs.length cq) xs.length (iL xs) 3 1]) (C := [.cel b69 #[vI ((f i).d), vI ((f i).a), vI ((f i).v), .bool ((f i).f), .string ((f i).s)] 30]) hH135) hR1 (by omega) hs).mono ?_
              rintro e w137 ⟨rfl, hb138⟩
              refine ⟨_, rfl, ?_⟩
              have hH139 : HP Tr w _ [.cel l #[vI R, .slice pv xs.length cp] 96, .own (.slice pv xs.length cp) xs.length (iL xs) 3 1, .cel r #[.slice qv xs.length cq, vI R] 97, .own (.slice qv xs.length cq) xs.length (iL xs) 3 1, .cel b69 #[vI ((f i).d), vI ((f i).a), vI ((f i).v), .bool ((f i).f), .string ((f i).s)] 30] := HP.call hH135 hb138
              refine WL.pure (v := .tuple #[vI (fdA xs (f i).a), vI (fdS xs (f i).a), vI (fdE xs (f i).a)]) 129 rfl (Nat.le_of_ble_eq_true rfl) rfl rfl (by kernel_rfl) ?_
              refine WL.pure (v := vI (fdA xs (f i).a)) 134 rfl (Nat.le_of_ble_eq_true rfl) rfl rfl (by kernel_rfl) ?_
              refine WL.pure (v := vI (fdS xs (f i).a)) 135 rfl (Nat.le_of_ble_eq_true rfl) rfl rfl (by kernel_rfl) ?_
              refine WL.pure (v := vI (fdE xs (f i).a)) 136 rfl (Nat.le_of_ble_eq_true rfl) rfl rfl (by kernel_rfl) ?_
              refine WL.pure (v := vI (fdA xs (f i).a)) 23 rfl (Nat.le_of_ble_eq_true rfl) rfl rfl (by kernel_rfl) ?_
              refine WL.pure (v := vI (fdS xs (f i).a)) 24 rfl (Nat.le_of_ble_eq_true rfl) rfl rfl (by kernel_rfl) ?_
              refine WL.pure (v := vI (fdE xs (f i).a)) 25 rfl (Nat.le_of_ble_eq_true rfl) rfl rfl (by kernel_rfl) ?_
              refine WL.nil ?_
              refine WQ.then ?_
              refine hK136 _ _ _ ?_
              refine WC.sub (l' := [(0, vI R), (1, .slice (some ⟨bb, oo, none⟩) n cap), (5, vP l 0), (7, vP r 0), (8, vI 0), (9, vI (i : Int)), (10, vP b69 0), (11, .bool true), (20, vI (fdA xs (f i).a)), (21, vI (fdS xs (f i).a)), (22, vI (fdE xs (f i).a)), (23, vI (fdA xs (f i).a)), (24, vI (fdS xs (f i).a)), (25, vI (fdE xs (f i).a)), (52, .bool true), (60, vI ((f i).d)), (61, .bool false), (90, .bool false), (119, .bool true)]) ⟨rfl, rfl, rfl, rfl, rfl, rfl, rfl, rfl, rfl, rfl, rfl, rfl, rfl, rfl, rfl, rfl, rfl, rfl, rfl, trivial⟩ ?_
              refine WC.region ?_
              refine WL.pure (v := vI (fdA xs (f i).a)) 137 rfl (Nat.le_of_ble_eq_true rfl) rfl rfl (by kernel_rfl) ?_
              refine WL.pure (v := vI (fdA xs (f i).a)) 138 rfl (Nat.le_of_ble_eq_true rfl) rfl rfl (by kernel_rfl) ?_
              refine WL.pure (v := .bool true) 139 rfl (Nat.le_of_ble_eq_true rfl) rfl rfl (x_eql rfl rfl rfl (dT (rfl))) ?_
              refine WL.pure (v := .bool true) 140 rfl (Nat.le_of_ble_eq_true rfl) rfl rfl (by kernel_rfl) ?_
              refine WL.pure (v := vI (fdS xs (f i).a)) 141 rfl (Nat.le_of_ble_eq_true rfl) rfl rfl (by kernel_rfl) ?_
              refine WL.pure (v := vI (fdS xs (f i).a)) 142 rfl (Nat.le_of_ble_eq_true rfl) rfl rfl (by kernel_rfl) ?_
              refine WL.pure (v := .bool true) 143 rfl (Nat.le_of_ble_eq_true rfl) rfl rfl (x_eql rfl rfl rfl (dT (rfl))) ?_
              refine WL.pure (v := .bool true) 144 rfl (Nat.le_of_ble_eq_true rfl) rfl rfl (by kernel_rfl) ?_
              refine WL.pure (v := .bool true) 145 rfl (Nat.le_of_ble_eq_true rfl) rfl rfl (by kernel_rfl) ?_
              refine WL.pure (v := vI (fdE xs (f i).a)) 146 rfl (Nat.le_of_ble_eq_true rfl) rfl rfl (by kernel_rfl) ?_
              refine WL.pure (v := vI (fdE xs (f i).a)) 147 rfl (Nat.le_of_ble_eq_true rfl) rfl rfl (by kernel_rfl) ?_
              refine WL.pure (v := .bool true) 148 rfl (Nat.le_of_ble_eq_true rfl) rfl rfl (x_eql rfl rfl rfl (dT (rfl))) ?_
              refine WL.pure (v := .bool true) 149 rfl (Nat.le_of_ble_eq_true rfl) rfl rfl (by kernel_rfl) ?_
              refine WL.pure (v := .bool true) 150 rfl (Nat.le_of_ble_eq_true rfl) rfl rfl (by kernel_rfl) ?_
              refine WL.pure (v := vI (fdS xs (f i).a)) 151 rfl (Nat.le_of_ble_eq_true rfl) rfl rfl (by kernel_rfl) ?_
              refine WL.pure (v := vI R) 152 rfl (Nat.le_of_ble_eq_true rfl) rfl rfl (by kernel_rfl) ?_
              refine WL.call (f := 39) (args := #[vI (fdS xs (f i).a), .string (⟨#[102, 105, 110, 100]⟩), vI R]) 153 rfl (Nat.le_of_ble_eq_true rfl) rfl rfl (by kernel_rfl) ?_
              refine (Lc.within_any _ _ R _ (by rw [ctr_fnd hrm]) (fd_bd hR2 hx hs).1 (by rw [ctr_fnd hrm]; exact (fd_bd hR2 hx hs).2)).mono ?_
              rintro e w140 ⟨rfl, rfl⟩
              refine ⟨_, rfl, ?_⟩
              refine WL.pure (v := .bool true) 154 rfl (Nat.le_of_ble_eq_true rfl) rfl rfl (by kernel_rfl) ?_
              refine WL.pure (v := .bool true) 11 rfl (Nat.le_of_ble_eq_true rfl) rfl rfl (by kernel_rfl) ?_
              refine WL.nil ?_
              refine WQ.inNormal ?_
              refine WQ.then ?_
              refine hK75 _ _ _ ?_
              refine WC.sub (l' := [(0, vI R), (1, .slice (some ⟨bb, oo, none⟩) n cap), (5, vP l 0), (7, vP r 0), (8, vI 0), (9, vI (i : Int)), (10, vP b69 0), (11, .bool true), (20, vI (fdA xs (f i).a)), (21, vI (fdS xs (f i).a)), (22, vI (fdE xs (f i).a)), (23, vI (fdA xs (f i).a)), (24, vI (fdS xs (f i).a)), (25, vI (fdE xs (f i).a)), (52, .bool true), (60, vI ((f i).d)), (61, .bool false), (90, .bool false), (119, .bool true)]) ⟨rfl, rfl, rfl, rfl, rfl, rfl, rfl, rfl, rfl, rfl, rfl, rfl, rfl, rfl, rfl, rfl, rfl, rfl, rfl, trivial⟩ ?_
              refine WC.seq fun K141 hK141 => ?_
              refine WC.region ?_
              refine WL.pure (v := vP l 0) 155 rfl (Nat.le_of_ble_eq_true rfl) rfl rfl (by kernel_rfl) ?_
              have hlx : (xs.length : Int) ≤ R := hx
              refine WL.call (f := 44) (args := #[vP l 0]) 156 rfl (Nat.le_of_ble_eq_true rfl) rfl rfl (by kernel_rfl) ?_
              refine (sItems_any l R pv cp xs _ (HP.ownF (A := [.cel l #[vI R, .slice pv xs.length cp] 96, .own (.slice pv xs.length cp) xs.length (iL xs) 3 1]) (B := [.cel r #[.slice qv xs.length cq, vI R] 97, .own (.slice qv xs.length cq) xs.length (iL xs) 3 1, .cel b69 #[vI ((f i).d), vI ((f i).a), vI ((f i).v), .bool ((f i).f), .string ((f i).s)] 30]) hH139) hR1 (by omega)).mono ?_
              rintro e w142 ⟨ia, ca, rfl, hb143⟩
              refine ⟨_, rfl, ?_⟩
              have hH144 : HP Tr w _ [.cel l #[vI R, .slice pv xs.length cp] 96, .own (.slice pv xs.length cp) xs.length (iL xs) 3 1, .cel r #[.slice qv xs.length cq, vI R] 97, .own (.slice qv xs.length cq) xs.length (iL xs) 3 1, .cel b69 #[vI ((f i).d), vI ((f i).a), vI ((f i).v), .bool ((f i).f), .string ((f i).s)] 30, .own (.slice ia xs.length ca) xs.length (iL xs) 3 1] := HP.trans hH139 hb143
              refine WL.pure (v := .slice ia xs.length ca) 26 rfl (Nat.le_of_ble_eq_true rfl) rfl rfl (by kernel_rfl) ?_
              refine WL.nil ?_
              refine WQ.then ?_
              refine hK141 _ _ _ ?_
              refine WC.seq fun K145 hK145 => ?_
              refine WC.seq fun K146 hK146 => ?_
              refine WC.region ?_
              refine WL.pure (v := .bool true) 157 rfl (Nat.le_of_ble_eq_true rfl) rfl rfl (by kernel_rfl) ?_
              refine WL.pure (v := .bool false) 158 rfl (Nat.le_of_ble_eq_true rfl) rfl rfl (by kernel_rfl) ?_
              refine WL.pure (v := .bool false) 159 rfl (Nat.le_of_ble_eq_true rfl) rfl rfl (by kernel_rfl) ?_
              refine WL.pure (v := .slice ia xs.length ca) 160 rfl (Nat.le_of_ble_eq_true rfl) rfl rfl (by kernel_rfl) ?_
              refine WL.pure (v := vP r 0) 161 rfl (Nat.le_of_ble_eq_true rfl) rfl rfl (by kernel_rfl) ?_
              refine WL.call (f := 45) (args := #[vP r 0]) 162 rfl (Nat.le_of_ble_eq_true rfl) rfl rfl (by kernel_rfl) ?_
              refine (srItems_any r R qv cq xs _ (HP.ownM (A := [.cel l #[vI R, .slice pv xs.length cp] 96, .own (.slice pv xs.length cp) xs.length (iL xs) 3 1]) (R := [.cel r #[.slice qv xs.length cq, vI R] 97, .own (.slice qv xs.length cq) xs.length (iL xs) 3 1]) (C := [.cel b69 #[vI ((f i).d), vI ((f i).a), vI ((f i).v), .bool ((f i).f), .string ((f i).s)] 30, .own (.slice ia xs.length ca) xs.length (iL xs) 3 1]) hH144) hR1 (by omega)).mono ?_
              rintro e w147 ⟨ib, cb, rfl, hb148⟩
              refine ⟨_, rfl, ?_⟩
              have hH149 : HP Tr w _ [.cel l #[vI R, .slice pv xs.length cp] 96, .own (.slice pv xs.length cp) xs.length (iL xs) 3 1, .cel r #[.slice qv xs.length cq, vI R] 97, .own (.slice qv xs.length cq) xs.length (iL xs) 3 1, .cel b69 #[vI ((f i).d), vI ((f i).a), vI ((f i).v), .bool ((f i).f), .string ((f i).s)] 30, .own (.slice ia xs.length ca) xs.length (iL xs) 3 1, .own (.slice ib xs.length cb) xs.length (iL xs) 3 1] := HP.trans hH144 hb148
              refine WL.call (f := 32) (args := #[.slice ia xs.length ca, .slice ib xs.length cb]) 163 rfl (Nat.le_of_ble_eq_true rfl) rfl rfl (by kernel_rfl) ?_
              refine (Ints_any _ _ _ _ xs _ (HP.get hH149 5 rfl) (HP.get hH149 6 rfl) (by omega)).mono ?_
              rintro e w150 ⟨rfl, hb151⟩
              refine ⟨_, rfl, ?_⟩
              have hH152 : HP Tr w _ [.cel l #[vI R, .slice pv xs.length cp] 96, .own (.slice pv xs.length cp) xs.length (iL xs) 3 1, .cel r #[.slice qv xs.length cq, vI R] 97, .own (.slice qv xs.length cq) xs.length (iL xs) 3 1, .cel b69 #[vI ((f i).d), vI ((f i).a), vI ((f i).v), .bool ((f i).f), .string ((f i).s)] 30, .own (.slice ia xs.length ca) xs.length (iL xs) 3 1, .own (.slice ib xs.length cb) xs.length (iL xs) 3 1] := HP.call hH149 hb151
              refine WL.pure (v := .bool false) 164 rfl (Nat.le_of_ble_eq_true rfl) rfl rfl (by kernel_rfl) ?_
              refine WL.pure (v := .bool false) 165 rfl (Nat.le_of_ble_eq_true rfl) rfl rfl (by kernel_rfl) ?_
              refine WL.nil ?_
              refine WQ.then ?_
              refine hK146 _ _ _ ?_
              refine WC.sub (l' := [(0, vI R), (1, .slice (some ⟨bb, oo, none⟩) n cap), (5, vP l 0), (7, vP r 0), (8, vI 0), (9, vI (i : Int)), (10, vP b69 0), (11, .bool true), (20, vI (fdA xs (f i).a)), (21, vI (fdS xs (f i).a)), (22, vI (fdE xs (f i).a)), (23, vI (fdA xs (f i).a)), (24, vI (fdS xs (f i).a)), (25, vI (fdE xs (f i).a)), (26, .slice ia xs.length ca), (52, .bool true), (60, vI ((f i).d)), (61, .bool false), (90, .bool false), (119, .bool true), (165, .bool false)]) ⟨rfl, rfl, rfl, rfl, rfl, rfl, rfl, rfl, rfl, rfl, rfl, rfl, rfl, rfl, rfl, rfl, rfl, rfl, rfl, rfl, rfl, trivial⟩ ?_
              refine WC.no rfl ?_
              refine WC.skip ?_
              refine WQ.then ?_
              refine hK145 _ _ _ ?_
              refine WC.seq fun K153 hK153 => ?_
              have hss : srt xs := hs
              refine WC.region ?_
              refine WL.pure (v := vI 1) 27 rfl (Nat.le_of_ble_eq_true rfl) rfl rfl (by kernel_rfl) ?_
              refine WL.nil ?_
              refine WQ.then ?_
              refine hK153 _ _ _ ?_
              refine WC.block ?_
              refine WC.loop (fun kk0 ll0 ww0 => ∃ (k : Nat), ll0 = [(0, vI R), (1, .slice (some ⟨bb, oo, none⟩) n cap), (5, vP l 0), (7, vP r 0), (8, vI 0), (9, vI (i : Int)), (26, .slice ia xs.length ca), (27, vI (k : Int))] ∧ kk0 = xs.length - k ∧ (1 ≤ k) ∧ HP Tr w ww0 [.cel l #[vI R, .slice pv xs.length cp] 96, .own (.slice pv xs.length cp) xs.length (iL xs) 3 1, .cel r #[.slice qv xs.length cq, vI R] 97, .own (.slice qv xs.length cq) xs.length (iL xs) 3 1, .cel b69 #[vI ((f i).d), vI ((f i).a), vI ((f i).v), .bool ((f i).f), .string ((f i).s)] 30, .own (.slice ia xs.length ca) xs.length (iL xs) 3 1, .own (.slice ib xs.length cb) xs.length (iL xs) 3 1]) (xs.length - 1) [(0, vI R), (1, .slice (some ⟨bb, oo, none⟩) n cap), (5, vP l 0), (7, vP r 0), (8, vI 0), (9, vI (i : Int)), (26, .slice ia xs.length ca), (27, vI 1)] ⟨rfl, rfl, rfl, rfl, rfl, rfl, rfl, rfl, trivial⟩ ⟨1, rfl, rfl, Nat.le_refl _, hH152⟩ ?_
              rintro kk l w155 ⟨k, rfl, hkk, hk, hH156⟩ K154 hK154
              refine WC.seq fun K157 hK157 => ?_
              refine WC.seq fun K158 hK158 => ?_
              refine WC.region ?_
              refine WL.pure (v := vI (k : Int)) 166 rfl (Nat.le_of_ble_eq_true rfl) rfl rfl (by kernel_rfl) ?_
              refine WL.pure (v := .slice ia xs.length ca) 167 rfl (Nat.le_of_ble_eq_true rfl) rfl rfl (by kernel_rfl) ?_
              refine WL.pure (v := vI (xs.length : Int)) 168 rfl (Nat.le_of_ble_eq_true rfl) rfl rfl (by kernel_rfl) ?_
              by_cases hkl : (k : Int) < (xs.length : Int)
              ·
                refine WL.pure (v := .bool true) 169 rfl (Nat.le_of_ble_eq_true rfl) rfl rfl (x_lss rfl rfl rfl (dT (hkl))) ?_
                refine WL.nil ?_
                refine WQ.then ?_
                refine hK158 _ _ _ ?_
                refine WC.yes rfl ?_
                refine WC.skip ?_
                refine WQ.then ?_
                refine hK157 _ _ _ ?_
                refine WC.seq fun K159 hK159 => ?_
                refine WC.block ?_
                refine WC.seq fun K160 hK160 => ?_
                obtain ⟨g, hg, hrow⟩ := row_open (xs := xs) (HP.get hH156 5 rfl) (by omega)
                subst hg
                refine WC.still (by kernel_rfl) (by kernel_rfl) ?_
                have hH161 : HP Tr w _ [.cel l #[vI R, .slice pv xs.length cp] 96, .own (.slice pv xs.length cp) xs.length (iL xs) 3 1, .cel r #[.slice qv xs.length cq, vI R] 97, .own (.slice qv xs.length cq) xs.length (iL xs) 3 1, .cel b69 #[vI ((f i).d), vI ((f i).a), vI ((f i).v), .bool ((f i).f), .string ((f i).s)] 30, .own (.slice (some ⟨g, 0, none⟩) xs.length ca) xs.length (iL xs) 3 1, .own (.slice ib xs.length cb) xs.length (iL xs) 3 1] := HP.drew hH156
                refine WS.val (v := vS g xs.length ca) 172 rfl (Nat.le_of_ble_eq_true rfl) rfl rfl (by kernel_rfl) ?_
                refine WS.val (v := vI (k : Int)) 173 rfl (Nat.le_of_ble_eq_true rfl) rfl rfl (by kernel_rfl) ?_
                refine WS.val (v := vP g k) 174 rfl (Nat.le_of_ble_eq_true rfl) rfl rfl (x_idx (k) (k) rfl rfl rfl Try.underlying58 sz3 (by omega) (by omega) (by omega)) ?_
                refine WS.val (v := vI (xs.getD (k) 0)) 175 rfl (Nat.le_of_ble_eq_true rfl) rfl rfl (x_load rfl rfl Try.underlying3 rfl (hrow (k) (by omega))) ?_
                refine WS.val (v := vS g xs.length ca) 176 rfl (Nat.le_of_ble_eq_true rfl) rfl rfl (by kernel_rfl) ?_
                refine WS.val (v := vI (k : Int)) 177 rfl (Nat.le_of_ble_eq_true rfl) rfl rfl (by kernel_rfl) ?_
                refine WS.val (v := vI ((k - 1 : Nat) : Int)) 178 rfl (Nat.le_of_ble_eq_true rfl) rfl rfl (x_sub (Z := ((k - 1 : Nat) : Int)) rfl rfl rfl (by omega) (by omega) (by omega)) ?_
                refine WS.val (v := vP g (k - 1)) 179 rfl (Nat.le_of_ble_eq_true rfl) rfl rfl (x_idx (k - 1) (k - 1) rfl rfl rfl Try.underlying58 sz3 (by omega) (by omega) (by omega)) ?_
                refine WS.val (v := vI (xs.getD (k - 1) 0)) 180 rfl (Nat.le_of_ble_eq_true rfl) rfl rfl (x_load rfl rfl Try.underlying3 rfl (hrow (k - 1) (by omega))) ?_
                refine WS.val (v := .bool false) 181 rfl (Nat.le_of_ble_eq_true rfl) rfl rfl (x_lss rfl rfl rfl (dF (by have := hss (k - 1) k (by omega) (by omega); omega))) ?_
                refine WS.nilQ ?_
                refine WQ.then ?_
                refine hK160 _ _ _ ?_
                refine WC.sub (l' := [(0, vI R), (1, .slice (some ⟨bb, oo, none⟩) n cap), (5, vP l 0), (7, vP r 0), (8, vI 0), (9, vI (i : Int)), (26, vS g xs.length ca), (27, vI (k : Int)), (169, .bool true), (181, .bool false)]) ⟨rfl, rfl, rfl, rfl, rfl, rfl, rfl, rfl, rfl, rfl, trivial⟩ ?_
                refine WC.no rfl ?_
                refine WC.skip ?_
                refine WQ.inNormal ?_
                refine WQ.then ?_
                refine hK159 _ _ _ ?_
                refine WC.region ?_
                refine WL.pure (v := vI (k : Int)) 170 rfl (Nat.le_of_ble_eq_true rfl) rfl rfl (by kernel_rfl) ?_
                refine WL.pure (v := vI ((k + 1 : Nat) : Int)) 171 rfl (Nat.le_of_ble_eq_true rfl) rfl rfl (x_add (Z := ((k + 1 : Nat) : Int)) rfl rfl rfl (by omega) (by omega) (by omega)) ?_
                refine WL.pure (v := vI ((k + 1 : Nat) : Int)) 27 rfl (Nat.le_of_ble_eq_true rfl) rfl rfl (by kernel_rfl) ?_
                refine WL.nil ?_
                refine WQ.sub (l' := [(0, vI R), (1, .slice (some ⟨bb, oo, none⟩) n cap), (5, vP l 0), (7, vP r 0), (8, vI 0), (9, vI (i : Int)), (26, vS g xs.length ca), (27, vI ((k + 1 : Nat) : Int))]) ⟨rfl, rfl, rfl, rfl, rfl, rfl, rfl, rfl, trivial⟩ ?_
                refine WQ.then (hK154 _ _ _ (by omega) ⟨k + 1, rfl, rfl, by omega, hH161⟩)
              ·
                refine WL.pure (v := .bool false) 169 rfl (Nat.le_of_ble_eq_true rfl) rfl rfl (x_lss rfl rfl rfl (dF (hkl))) ?_
                refine WL.nil ?_
                refine WQ.then ?_
                refine hK158 _ _ _ ?_
                refine WC.no rfl ?_
                refine WC.exit ?_
                refine WQ.thenExit ?_
                refine WQ.thenExit ?_
                refine WQ.inExit ?_
                refine WQ.inNormal ?_
                refine WQ.then ?_
                refine hK67 _ _ _ ?_
                refine WC.region ?_
                refine WL.pure (v := vI (i : Int)) 53 rfl (Nat.le_of_ble_eq_true rfl) rfl rfl (by kernel_rfl) ?_
                refine WL.pure (v := vI ((i + 1 : Nat) : Int)) 54 rfl (Nat.le_of_ble_eq_true rfl) rfl rfl (x_add (Z := ((i + 1 : Nat) : Int)) rfl rfl rfl (by omega) (by omega) (by omega)) ?_
                refine WL.pure (v := vI ((i + 1 : Nat) : Int)) 9 rfl (Nat.le_of_ble_eq_true rfl) rfl rfl (by kernel_rfl) ?_
                refine WL.nil ?_
                refine WQ.sub (l' := [(0, vI R), (1, .slice (some ⟨bb, oo, none⟩) n cap), (5, vP l 0), (7, vP r 0), (8, vI 0), (9, vI ((i + 1 : Nat) : Int))]) ⟨rfl, rfl, rfl, rfl, rfl, rfl, trivial⟩ ?_
                refine WQ.then (hK62 _ _ _ (by omega) ⟨i + 1, xs, pv, cp, qv, cq, rfl, rfl, by omega, hx, hss, (HP.drop (HP.drop (HP.drop hH156 6) 5) 4)⟩)
            ·
              refine WL.pure (v := .bool false) 120 rfl (Nat.le_of_ble_eq_true rfl) rfl rfl (x_eql rfl rfl rfl (dF (h3))) ?_
              refine WL.pure (v := .bool false) 119 rfl (Nat.le_of_ble_eq_true rfl) rfl rfl (by kernel_rfl) ?_
              refine WL.nil ?_
              refine WQ.then ?_
              refine hK131 _ _ _ ?_
              refine WC.no rfl ?_
              refine WC.skip ?_
              refine WQ.inNormal ?_
              refine WQ.then ?_
              refine hK75 _ _ _ ?_
              refine WC.seq fun K162 hK162 => ?_
              refine WC.region ?_
              refine WL.pure (v := vP l 0) 155 rfl (Nat.le_of_ble_eq_true rfl) rfl rfl (by kernel_rfl) ?_
              have hlx : (xs.length : Int) ≤ R := hx
              refine WL.call (f := 44) (args := #[vP l 0]) 156 rfl (Nat.le_of_ble_eq_true rfl) rfl rfl (by kernel_rfl) ?_
              refine (sItems_any l R pv cp xs _ (HP.ownF (A := [.cel l #[vI R, .slice pv xs.length cp] 96, .own (.slice pv xs.length cp) xs.length (iL xs) 3 1]) (B := [.cel r #[.slice qv xs.length cq, vI R] 97, .own (.slice qv xs.length cq) xs.length (iL xs) 3 1, .cel b69 #[vI ((f i).d), vI ((f i).a), vI ((f i).v), .bool ((f i).f), .string ((f i).s)] 30]) hH73) hR1 (by omega)).mono ?_
              rintro e w163 ⟨ia, ca, rfl, hb164⟩
              refine ⟨_, rfl, ?_⟩
              have hH165 : HP Tr w _ [.cel l #[vI R, .slice pv xs.length cp] 96, .own (.slice pv xs.length cp) xs.length (iL xs) 3 1, .cel r #[.slice qv xs.length cq, vI R] 97, .own (.slice qv xs.length cq) xs.length (iL xs) 3 1, .cel b69 #[vI ((f i).d), vI ((f i).a), vI ((f i).v), .bool ((f i).f), .string ((f i).s)] 30, .own (.slice ia xs.length ca) xs.length (iL xs) 3 1] := HP.trans hH73 hb164
              refine WL.pure (v := .slice ia xs.length ca) 26 rfl (Nat.le_of_ble_eq_true rfl) rfl rfl (by kernel_rfl) ?_
              refine WL.nil ?_
              refine WQ.then ?_
              refine hK162 _ _ _ ?_
              refine WC.seq fun K166 hK166 => ?_
              refine WC.seq fun K167 hK167 => ?_
              refine WC.region ?_
              refine WL.pure (v := .bool true) 157 rfl (Nat.le_of_ble_eq_true rfl) rfl rfl (by kernel_rfl) ?_
              refine WL.pure (v := .bool false) 158 rfl (Nat.le_of_ble_eq_true rfl) rfl rfl (by kernel_rfl) ?_
              refine WL.pure (v := .bool false) 159 rfl (Nat.le_of_ble_eq_true rfl) rfl rfl (by kernel_rfl) ?_
              refine WL.pure (v := .slice ia xs.length ca) 160 rfl (Nat.le_of_ble_eq_true rfl) rfl rfl (by kernel_rfl) ?_
              refine WL.pure (v := vP r 0) 161 rfl (Nat.le_of_ble_eq_true rfl) rfl rfl (by kernel_rfl) ?_
              refine WL.call (f := 45) (args := #[vP r 0]) 162 rfl (Nat.le_of_ble_eq_true rfl) rfl rfl (by kernel_rfl) ?_
              refine (srItems_any r R qv cq xs _ (HP.ownM (A := [.cel l #[vI R, .slice pv xs.length cp] 96, .own (.slice pv xs.length cp) xs.length (iL xs) 3 1]) (R := [.cel r #[.slice qv xs.length cq, vI R] 97, .own (.slice qv xs.length cq) xs.length (iL xs) 3 1]) (C := [.cel b69 #[vI ((f i).d), vI ((f i).a), vI ((f i).v), .bool ((f i).f), .string ((f i).s)] 30, .own (.slice ia xs.length ca) xs.length (iL xs) 3 1]) hH165) hR1 (by omega)).mono ?_
              rintro e w168 ⟨ib, cb, rfl, hb169⟩
              refine ⟨_, rfl, ?_⟩
              have hH170 : HP Tr w _ [.cel l #[vI R, .slice pv xs.length cp] 96, .own (.slice pv xs.length cp) xs.length (iL xs) 3 1, .cel r #[.slice qv xs.length cq, vI R] 97, .own (.slice qv xs.length cq) xs.length (iL xs) 3 1, .cel b69 #[vI ((f i).d), vI ((f i).a), vI ((f i).v), .bool ((f i).f), .string ((f i).s)] 30, .own (.slice ia xs.length ca) xs.length (iL xs) 3 1, .own (.slice ib xs.length cb) xs.length (iL xs) 3 1] := HP.trans hH165 hb169
              refine WL.call (f := 32) (args := #[.slice ia xs.length ca, .slice ib xs.length cb]) 163 rfl (Nat.le_of_ble_eq_true rfl) rfl rfl (by kernel_rfl) ?_
              refine (Ints_any _ _ _ _ xs _ (HP.get hH170 5 rfl) (HP.get hH170 6 rfl) (by omega)).mono ?_
              rintro e w171 ⟨rfl, hb172⟩
              refine ⟨_, rfl, ?_⟩
              have hH173 : HP Tr w _ [.cel l #[vI R, .slice pv xs.length cp] 96, .own (.slice pv xs.length cp) xs.length (iL xs) 3 1, .cel r #[.slice qv xs.length cq, vI R] 97, .own (.slice qv xs.length cq) xs.length (iL xs) 3 1, .cel b69 #[vI ((f i).d), vI ((f i).a), vI ((f i).v), .bool ((f i).f), .string ((f i).s)] 30, .own (.slice ia xs.length ca) xs.length (iL xs) 3 1, .own (.slice ib xs.length cb) xs.length (iL xs) 3 1] := HP.call hH170 hb172
              refine WL.pure (v := .bool false) 164 rfl (Nat.le_of_ble_eq_true rfl) rfl rfl (by kernel_rfl) ?_
              refine WL.pure (v := .bool false) 165 rfl (Nat.le_of_ble_eq_true rfl) rfl rfl (by kernel_rfl) ?_
              refine WL.nil ?_
              refine WQ.then ?_
              refine hK167 _ _ _ ?_
              refine WC.sub (l' := [(0, vI R), (1, .slice (some ⟨bb, oo, none⟩) n cap), (5, vP l 0), (7, vP r 0), (8, vI 0), (9, vI (i : Int)), (10, vP b69 0), (11, .bool true), (26, .slice ia xs.length ca), (52, .bool true), (60, vI ((f i).d)), (61, .bool false), (90, .bool false), (119, .bool false), (165, .bool false)]) ⟨rfl, rfl, rfl, rfl, rfl, rfl, rfl, rfl, rfl, rfl, rfl, rfl, rfl, rfl, rfl, trivial⟩ ?_
              refine WC.no rfl ?_
              refine WC.skip ?_
              refine WQ.then ?_
              refine hK166 _ _ _ ?_
              refine WC.seq fun K174 hK174 => ?_
              have hss : srt xs := hs
              refine WC.region ?_
              refine WL.pure (v := vI 1) 27 rfl (Nat.le_of_ble_eq_true rfl) rfl rfl (by kernel_rfl) ?_
              refine WL.nil ?_
              refine WQ.then ?_
              refine hK174 _ _ _ ?_
              refine WC.block ?_
              refine WC.loop (fun kk0 ll0 ww0 => ∃ (k : Nat), ll0 = [(0, vI R), (1, .slice (some ⟨bb, oo, none⟩) n cap), (5, vP l 0), (7, vP r 0), (8, vI 0), (9, vI (i : Int)), (26, .slice ia xs.length ca), (27, vI (k : Int))] ∧ kk0 = xs.length - k ∧ (1 ≤ k) ∧ HP Tr w ww0 [.cel l #[vI R, .slice pv xs.length cp] 96, .own (.slice pv xs.length cp) xs.length (iL xs) 3 1, .cel r #[.slice qv xs.length cq, vI R] 97, .own (.slice qv xs.length cq) xs.length (iL xs) 3 1, .cel b69 #[vI ((f i).d), vI ((f i).a), vI ((f i).v), .bool ((f i).f), .string ((f i).s)] 30, .own (.slice ia xs.length ca) xs.length (iL xs) 3 1, .own (.slice ib xs.length cb) xs.length (iL xs) 3 1]) (xs.length - 1) [(0, vI R), (1, .slice (some ⟨bb, oo, none⟩) n cap), (5, vP l 0), (7, vP r 0), (8, vI 0), (9, vI (i : Int)), (26, .slice ia xs.length ca), (27, vI 1)] ⟨rfl, rfl, rfl, rfl, rfl, rfl, rfl, rfl, trivial⟩ ⟨1, rfl, rfl, Nat.le_refl _, hH173⟩ ?_
              rintro kk l w176 ⟨k, rfl, hkk, hk, hH177⟩ K175 hK175
              refine WC.seq fun K178 hK178 => ?_
              refine WC.seq fun K179 hK179 => ?_
              refine WC.region ?_
              refine WL.pure (v := vI (k : Int)) 166 rfl (Nat.le_of_ble_eq_true rfl) rfl rfl (by kernel_rfl) ?_
              refine WL.pure (v := .slice ia xs.length ca) 167 rfl (Nat.le_of_ble_eq_true rfl) rfl rfl (by kernel_rfl) ?_
              refine WL.pure (v := vI (xs.length : Int)) 168 rfl (Nat.le_of_ble_eq_true rfl) rfl rfl (by kernel_rfl) ?_
              by_cases hkl : (k : Int) < (xs.length : Int)
              ·
                refine WL.pure (v := .bool true) 169 rfl (Nat.le_of_ble_eq_true rfl) rfl rfl (x_lss rfl rfl rfl (dT (hkl))) ?_
                refine WL.nil ?_
                refine WQ.then ?_
                refine hK179 _ _ _ ?_
                refine WC.yes rfl ?_
                refine WC.skip ?_
                refine WQ.then ?_
                refine hK178 _ _ _ ?_
                refine WC.seq fun K180 hK180 => ?_
                refine WC.block ?_
                refine WC.seq fun K181 hK181 => ?_
                obtain ⟨g, hg, hrow⟩ := row_open (xs := xs) (HP.get hH177 5 rfl) (by omega)
                subst hg
                refine WC.still (by kernel_rfl) (by kernel_rfl) ?_
                have hH182 : HP Tr w _ [.cel l #[vI R, .slice pv xs.length cp] 96, .own (.slice pv xs.length cp) xs.length (iL xs) 3 1, .cel r #[.slice qv xs.length cq, vI R] 97, .own (.slice qv xs.length cq) xs.length (iL xs) 3 1, .cel b69 #[vI ((f i).d), vI ((f i).a), vI ((f i).v), .bool ((f i).f), .string ((f i).s)] 30, .own (.slice (some ⟨g, 0, none⟩) xs.length ca) xs.length (iL xs) 3 1, .own (.slice ib xs.length cb) xs.length (iL xs) 3 1] := HP.drew hH177
                refine WS.val (v := vS g xs.length ca) 172 rfl (Nat.le_of_ble_eq_true rfl) rfl rfl (by kernel_rfl) ?_
                refine WS.val (v := vI (k : Int)) 173 rfl (Nat.le_of_ble_eq_true rfl) rfl rfl (by kernel_rfl) ?_
                refine WS.val (v := vP g k) 174 rfl (Nat.le_of_ble_eq_true rfl) rfl rfl (x_idx (k) (k) rfl rfl rfl Try.underlying58 sz3 (by omega) (by omega) (by omega)) ?_
                refine WS.val (v := vI (xs.getD (k) 0)) 175 rfl (Nat.le_of_ble_eq_true rfl) rfl rfl (x_load rfl rfl Try.underlying3 rfl (hrow (k) (by omega))) ?_
                refine WS.val (v := vS g xs.length ca) 176 rfl (Nat.le_of_ble_eq_true rfl) rfl rfl (by kernel_rfl) ?_
                refine WS.val (v := vI (k : Int)) 177 rfl (Nat.le_of_ble_eq_true rfl) rfl rfl (by kernel_rfl) ?_
                refine WS.val (v := vI ((k - 1 : Nat) : Int)) 178 rfl (Nat.le_of_ble_eq_true rfl) rfl rfl (x_sub (Z := ((k - 1 : Nat) : Int)) rfl rfl rfl (by omega) (by omega) (by omega)) ?_
                refine WS.val (v := vP g (k - 1)) 179 rfl (Nat.le_of_ble_eq_true rfl) rfl rfl (x_idx (k - 1) (k - 1) rfl rfl rfl Try.underlying58 sz3 (by omega) (by omega) (by omega)) ?_
                refine WS.val (v := vI (xs.getD (k - 1) 0)) 180 rfl (Nat.le_of_ble_eq_true rfl) rfl rfl (x_load rfl rfl Try.underlying3 rfl (hrow (k - 1) (by omega))) ?_
                refine WS.val (v := .bool false) 181 rfl (Nat.le_of_ble_eq_true rfl) rfl rfl (x_lss rfl rfl rfl (dF (by have := hss (k - 1) k (by omega) (by omega); omega))) ?_
                refine WS.nilQ ?_
                refine WQ.then ?_
                refine hK181 _ _ _ ?_
                refine WC.sub (l' := [(0, vI R), (1, .slice (some ⟨bb, oo, none⟩) n cap), (5, vP l 0), (7, vP r 0), (8, vI 0), (9, vI (i : Int)), (26, vS g xs.length ca), (27, vI (k : Int)), (169, .bool true), (181, .bool false)]) ⟨rfl, rfl, rfl, rfl, rfl, rfl, rfl, rfl, rfl, rfl, trivial⟩ ?_
                refine WC.no rfl ?_
                refine WC.skip ?_
                refine WQ.inNormal ?_
                refine WQ.then ?_
                refine hK180 _ _ _ ?_
                refine WC.region ?_
                refine WL.pure (v := vI (k : Int)) 170 rfl (Nat.le_of_ble_eq_true rfl) rfl rfl (by kernel_rfl) ?_
                refine WL.pure (v := vI ((k + 1 : Nat) : Int)) 171 rfl (Nat.le_of_ble_eq_true rfl) rfl rfl (x_add (Z := ((k + 1 : Nat) : Int)) rfl rfl rfl (by omega) (by omega) (by omega)) ?_
                refine WL.pure (v := vI ((k + 1 : Nat) : Int)) 27 rfl (Nat.le_of_ble_eq_true rfl) rfl rfl (by kernel_rfl) ?_
                refine WL.nil ?_
                refine WQ.sub (l' := [(0, vI R), (1, .slice (some ⟨bb, oo, none⟩) n cap), (5, vP l 0), (7, vP r 0), (8, vI 0), (9, vI (i : Int)), (26, vS g xs.length ca), (27, vI ((k + 1 : Nat) : Int))]) ⟨rfl, rfl, rfl, rfl, rfl, rfl, rfl, rfl, trivial⟩ ?_
                refine WQ.then (hK175 _ _ _ (by omega) ⟨k + 1, rfl, rfl, by omega, hH182⟩)
              ·
                refine WL.pure (v := .bool false) 169 rfl (Nat.le_of_ble_eq_true rfl) rfl rfl (x_lss rfl rfl rfl (dF (hkl))) ?_
                refine WL.nil ?_
                refine WQ.then ?_
                refine hK179 _ _ _ ?_
                refine WC.no rfl ?_
                refine WC.exit ?_
                refine WQ.thenExit ?_
                refine WQ.thenExit ?_
                refine WQ.inExit ?_
                refine WQ.inNormal ?_
                refine WQ.then ?_
                refine hK67 _ _ _ ?_
                refine WC.region ?_
                refine WL.pure (v := vI (i : Int)) 53 rfl (Nat.le_of_ble_eq_true rfl) rfl rfl (by kernel_rfl) ?_
                refine WL.pure (v := vI ((i + 1 : Nat) : Int)) 54 rfl (Nat.le_of_ble_eq_true rfl) rfl rfl (x_add (Z := ((i + 1 : Nat) : Int)) rfl rfl rfl (by omega) (by omega) (by omega)) ?_
                refine WL.pure (v := vI ((i + 1 : Nat) : Int)) 9 rfl (Nat.le_of_ble_eq_true rfl) rfl rfl (by kernel_rfl) ?_
                refine WL.nil ?_
                refine WQ.sub (l' := [(0, vI R), (1, .slice (some ⟨bb, oo, none⟩) n cap), (5, vP l 0), (7, vP r 0), (8, vI 0), (9, vI ((i + 1 : Nat) : Int))]) ⟨rfl, rfl, rfl, rfl, rfl, rfl, trivial⟩ ?_
                refine WQ.then (hK62 _ _ _ (by omega) ⟨i + 1, xs, pv, cp, qv, cq, rfl, rfl, by omega, hx, hss, (HP.drop (HP.drop (HP.drop hH177 6) 5) 4)⟩)
      ·
        refine WL.pure (v := .bool false) 47 rfl (Nat.le_of_ble_eq_true rfl) rfl rfl (x_lss rfl rfl rfl (dF (h120))) ?_
        refine WL.pure (v := .bool false) 48 rfl (Nat.le_of_ble_eq_true rfl) rfl rfl (by kernel_rfl) ?_
        refine WL.pure (v := .bool false) 49 rfl (Nat.le_of_ble_eq_true rfl) rfl rfl (by kernel_rfl) ?_
        refine WL.pass 50 rfl (Nat.le_of_ble_eq_true rfl) rfl ?_
        refine WL.pass 51 rfl (Nat.le_of_ble_eq_true rfl) rfl ?_
        refine WL.pure (v := .bool false) 52 rfl (Nat.le_of_ble_eq_true rfl) rfl rfl (by kernel_rfl) ?_
        refine WL.nil ?_
        refine WQ.then ?_
        refine hK66 _ _ _ ?_
        refine WC.sub (l' := [(0, vI R), (1, .slice p n cap), (5, vP l 0), (7, vP r 0), (8, vI 0), (9, vI (i : Int)), (52, .bool false)]) ⟨rfl, rfl, rfl, rfl, rfl, rfl, rfl, trivial⟩ ?_
        refine WC.no rfl ?_
        refine WC.exit ?_
        refine WQ.thenExit ?_
        refine WQ.thenExit ?_
        refine WQ.inExit ?_
        refine WQ.then ?_
        refine hK60 _ _ _ ?_
        refine WC.seq fun K183 hK183 => ?_
        refine WC.region ?_
        refine WL.pure (v := vP l 0) 182 rfl (Nat.le_of_ble_eq_true rfl) rfl rfl (by kernel_rfl) ?_
        have hlx : (xs.length : Int) ≤ R := hx
        refine WL.call (f := 44) (args := #[vP l 0]) 183 rfl (Nat.le_of_ble_eq_true rfl) rfl rfl (by kernel_rfl) ?_
        refine (sItems_any l R pv cp xs _ (HP.ownF (A := [.cel l #[vI R, .slice pv xs.length cp] 96, .own (.slice pv xs.length cp) xs.length (iL xs) 3 1]) (B := [.cel r #[.slice qv xs.length cq, vI R] 97, .own (.slice qv xs.length cq) xs.length (iL xs) 3 1]) hH64) hR1 (by omega)).mono ?_
        rintro e w184 ⟨ia, ca, rfl, hb185⟩
        refine ⟨_, rfl, ?_⟩
        have hH186 : HP Tr w _ [.cel l #[vI R, .slice pv xs.length cp] 96, .own (.slice pv xs.length cp) xs.length (iL xs) 3 1, .cel r #[.slice qv xs.length cq, vI R] 97, .own (.slice qv xs.length cq) xs.length (iL xs) 3 1, .own (.slice ia xs.length ca) xs.length (iL xs) 3 1] := HP.trans hH64 hb185
        refine WL.pure (v := vP r 0) 184 rfl (Nat.le_of_ble_eq_true rfl) rfl rfl (by kernel_rfl) ?_
        refine WL.call (f := 45) (args := #[vP r 0]) 185 rfl (Nat.le_of_ble_eq_true rfl) rfl rfl (by kernel_rfl) ?_
        refine (srItems_any r R qv cq xs _ (HP.ownM (A := [.cel l #[vI R, .slice pv xs.length cp] 96, .own (.slice pv xs.length cp) xs.length (iL xs) 3 1]) (R := [.cel r #[.slice qv xs.length cq, vI R] 97, .own (.slice qv xs.length cq) xs.length (iL xs) 3 1]) (C := [.own (.slice ia xs.length ca) xs.length (iL xs) 3 1]) hH186) hR1 (by omega)).mono ?_
        rintro e w187 ⟨ib, cb, rfl, hb188⟩
        refine ⟨_, rfl, ?_⟩
        have hH189 : HP Tr w _ [.cel l #[vI R, .slice pv xs.length cp] 96, .own (.slice pv xs.length cp) xs.length (iL xs) 3 1, .cel r #[.slice qv xs.length cq, vI R] 97, .own (.slice qv xs.length cq) xs.length (iL xs) 3 1, .own (.slice ia xs.length ca) xs.length (iL xs) 3 1, .own (.slice ib xs.length cb) xs.length (iL xs) 3 1] := HP.trans hH186 hb188
        refine WL.call (f := 32) (args := #[.slice ia xs.length ca, .slice ib xs.length cb]) 186 rfl (Nat.le_of_ble_eq_true rfl) rfl rfl (by kernel_rfl) ?_
        refine (Ints_any _ _ _ _ xs _ (HP.get hH189 4 rfl) (HP.get hH189 5 rfl) (by omega)).mono ?_
        rintro e w190 ⟨rfl, hb191⟩
        refine ⟨_, rfl, ?_⟩
        have hH192 : HP Tr w _ [.cel l #[vI R, .slice pv xs.length cp] 96, .own (.slice pv xs.length cp) xs.length (iL xs) 3 1, .cel r #[.slice qv xs.length cq, vI R] 97, .own (.slice qv xs.length cq) xs.length (iL xs) 3 1, .own (.slice ia xs.length ca) xs.length (iL xs) 3 1, .own (.slice ib xs.length cb) xs.length (iL xs) 3 1] := HP.call hH189 hb191
        refine WL.pure (v := .bool true) 187 rfl (Nat.le_of_ble_eq_true rfl) rfl rfl (by kernel_rfl) ?_
        refine WL.call (f := 11) (args := #[]) 188 rfl (Nat.le_of_ble_eq_true rfl) rfl rfl (by kernel_rfl) ?_
        refine (sane_any _).mono ?_
        rintro e w193 ⟨rfl, hb194⟩
        refine ⟨_, rfl, ?_⟩
        have hH195 : HP Tr w _ [.cel l #[vI R, .slice pv xs.length cp] 96, .own (.slice pv xs.length cp) xs.length (iL xs) 3 1, .cel r #[.slice qv xs.length cq, vI R] 97, .own (.slice qv xs.length cq) xs.length (iL xs) 3 1, .own (.slice ia xs.length ca) xs.length (iL xs) 3 1, .own (.slice ib xs.length cb) xs.length (iL xs) 3 1] := HP.call hH192 hb194
        refine WL.pure (v := .bool true) 189 rfl (Nat.le_of_ble_eq_true rfl) rfl rfl (by kernel_rfl) ?_
        refine WL.pure (v := .bool true) 4 rfl (Nat.le_of_ble_eq_true rfl) rfl rfl (by kernel_rfl) ?_
        refine WL.nil ?_
        refine WQ.then ?_
        refine hK183 _ _ _ ?_
        refine WC.sub (l' := [(0, vI R), (1, .slice p n cap), (4, .bool true), (5, vP l 0), (7, vP r 0), (8, vI 0), (9, vI (i : Int)), (52, .bool false)]) ⟨rfl, rfl, rfl, rfl, rfl, rfl, rfl, rfl, trivial⟩ ?_
        refine WC.ret ?_
        refine WQ.ret1 4 rfl rfl ?_
        exact ⟨rfl, HP.below hH195⟩
    ·
      refine WL.pure (v := .bool false) 44 rfl (Nat.le_of_ble_eq_true rfl) rfl rfl (x_lss rfl rfl rfl (dF (hlt))) ?_
      refine WL.pure (v := .bool false) 45 rfl (Nat.le_of_ble_eq_true rfl) rfl rfl (by kernel_rfl) ?_
      refine WL.pass 46 rfl (Nat.le_of_ble_eq_true rfl) rfl ?_
      refine WL.pass 47 rfl (Nat.le_of_ble_eq_true rfl) rfl ?_
      refine WL.pure (v := .bool false) 48 rfl (Nat.le_of_ble_eq_true rfl) rfl rfl (by kernel_rfl) ?_
      refine WL.pure (v := .bool false) 49 rfl (Nat.le_of_ble_eq_true rfl) rfl rfl (by kernel_rfl) ?_
      refine WL.pass 50 rfl (Nat.le_of_ble_eq_true rfl) rfl ?_
      refine WL.pass 51 rfl (Nat.le_of_ble_eq_true rfl) rfl ?_
      refine WL.pure (v := .bool false) 52 rfl (Nat.le_of_ble_eq_true rfl) rfl rfl (by kernel_rfl) ?_
      refine WL.nil ?_
      refine WQ.then ?_
      refine hK66 _ _ _ ?_
      refine WC.sub (l' := [(0, vI R), (1, .slice p n cap), (5, vP l 0), (7, vP r 0), (8, vI 0), (9, vI (i : Int)), (52, .bool false)]) ⟨rfl, rfl, rfl, rfl, rfl, rfl, rfl, trivial⟩ ?_
      refine WC.no rfl ?_
      refine WC.exit ?_
      refine WQ.thenExit ?_
      refine WQ.thenExit ?_
      refine WQ.inExit ?_
      refine WQ.then ?_
      refine hK60 _ _ _ ?_
      refine WC.seq fun K196 hK196 => ?_
      refine WC.region ?_
      refine WL.pure (v := vP l 0) 182 rfl (Nat.le_of_ble_eq_true rfl) rfl rfl (by kernel_rfl) ?_
      have hlx : (xs.length : Int) ≤ R := hx
      refine WL.call (f := 44) (args := #[vP l 0]) 183 rfl (Nat.le_of_ble_eq_true rfl) rfl rfl (by kernel_rfl) ?_
      refine (sItems_any l R pv cp xs _ (HP.ownF (A := [.cel l #[vI R, .slice pv xs.length cp] 96, .own (.slice pv xs.length cp) xs.length (iL xs) 3 1]) (B := [.cel r #[.slice qv xs.length cq, vI R] 97, .own (.slice qv xs.length cq) xs.length (iL xs) 3 1]) hH64) hR1 (by omega)).mono ?_
      rintro e w197 ⟨ia, ca, rfl, hb198⟩
      refine ⟨_, rfl, ?_⟩
      have hH199 : HP Tr w _ [.cel l #[vI R, .slice pv xs.length cp] 96, .own (.slice pv xs.length cp) xs.length (iL xs) 3 1, .cel r #[.slice qv xs.length cq, vI R] 97, .own (.slice qv xs.length cq) xs.length (iL xs) 3 1, .own (.slice ia xs.length ca) xs.length (iL xs) 3 1] := HP.trans hH64 hb198
      refine WL.pure (v := vP r 0) 184 rfl (Nat.le_of_ble_eq_true rfl) rfl rfl (by kernel_rfl) ?_
      refine WL.call (f := 45) (args := #[vP r 0]) 185 rfl (Nat.le_of_ble_eq_true rfl) rfl rfl (by kernel_rfl) ?_
      refine (srItems_any r R qv cq xs _ (HP.ownM (A := [.cel l #[vI R, .slice pv xs.length cp] 96, .own (.slice pv xs.length cp) xs.length (iL xs) 3 1]) (R := [.cel r #[.slice qv xs.length cq, vI R] 97, .own (.slice qv xs.length cq) xs.length (iL xs) 3 1]) (C := [.own (.slice ia xs.length ca) xs.length (iL xs) 3 1]) hH199) hR1 (by omega)).mono ?_
      rintro e w200 ⟨ib, cb, rfl, hb201⟩
      refine ⟨_, rfl, ?_⟩
      have hH202 : HP Tr w _ [.cel l #[vI R, .slice pv xs.length cp] 96, .own (.slice pv xs.length cp) xs.length (iL xs) 3 1, .cel r #[.slice qv xs.length cq, vI R] 97, .own (.slice qv xs.length cq) xs.length (iL xs) 3 1, .own (.slice ia xs.length ca) xs.length (iL xs) 3 1, .own (.slice ib xs.length cb) xs.length (iL xs) 3 1] := HP.trans hH199 hb201
      refine WL.call (f := 32) (args := #[.slice ia xs.length ca, .slice ib xs.length cb]) 186 rfl (Nat.le_of_ble_eq_true rfl) rfl rfl (by kernel_rfl) ?_
      refine (Ints_any _ _ _ _ xs _ (HP.get hH202 4 rfl) (HP.get hH202 5 rfl) (by omega)).mono ?_
      rintro e w203 ⟨rfl, hb204⟩
      refine ⟨_, rfl, ?_⟩
      have hH205 : HP Tr w _ [.cel l #[vI R, .slice pv xs.length cp] 96, .own (.slice pv xs.length cp) xs.length (iL xs) 3 1, .cel r #[.slice qv xs.length cq, vI R] 97, .own (.slice qv xs.length cq) xs.length (iL xs) 3 1, .own (.slice ia xs.length ca) xs.length (iL xs) 3 1, .own (.slice ib xs.length cb) xs.length (iL xs) 3 1] := HP.call hH202 hb204
      refine WL.pure (v := .bool true) 187 rfl (Nat.le_of_ble_eq_true rfl) rfl rfl (by kernel_rfl) ?_
      refine WL.call (f := 11) (args := #[]) 188 rfl (Nat.le_of_ble_eq_true rfl) rfl rfl (by kernel_rfl) ?_
      refine (sane_any _).mono ?_
      rintro e w206 ⟨rfl, hb207⟩
      refine ⟨_, rfl, ?_⟩
      have hH208 : HP Tr w _ [.cel l #[vI R, .slice pv xs.length cp] 96, .own (.slice pv xs.length cp) xs.length (iL xs) 3 1, .cel r #[.slice qv xs.length cq, vI R] 97, .own (.slice qv xs.length cq) xs.length (iL xs) 3 1, .own (.slice ia xs.length ca) xs.length (iL xs) 3 1, .own (.slice ib xs.length cb) xs.length (iL xs) 3 1] := HP.call hH205 hb207
      refine WL.pure (v := .bool true) 189 rfl (Nat.le_of_ble_eq_true rfl) rfl rfl (by kernel_rfl) ?_
      refine WL.pure (v := .bool true) 4 rfl (Nat.le_of_ble_eq_true rfl) rfl rfl (by kernel_rfl) ?_
      refine WL.nil ?_
      refine WQ.then ?_
      refine hK196 _ _ _ ?_
      refine WC.sub (l' := [(0, vI R), (1, .slice p n cap), (4, .bool true), (5, vP l 0), (7, vP r 0), (8, vI 0), (9, vI (i : Int)), (52, .bool false)]) ⟨rfl, rfl, rfl, rfl, rfl, rfl, rfl, rfl, trivial⟩ ?_
      refine WC.ret ?_
      refine WQ.ret1 4 rfl rfl ?_
      exact ⟨rfl, HP.below hH208⟩

theorem own : ownKnob Try.prog.godebug = none := by kernel_rfl
theorem laidOut : laidOutB Try.prog = true := by kernel_rfl

set_option maxRecDepth 100000 in
theorem lifted (os : Os) (started : os.Started) (H : Type) (enc : TypeId × Value → H) :
    ReturnsInHanded {} Try.checked os 8 .any (Rows.libSortsSpec.pre6 enc Try.prog Try.f8 Rows.libSortsRow.domain false) (Rows.libSortsSpec.post enc Try.prog Try.f8 false true false false) := by
  refine returnsInHanded_of_change (C := Try.checked) own started (by kernel_rfl) Try.func8
    (ChangeSpec.witness6 (enc := enc) (C := Try.checked) false ⟨#[], #[.int .i64 0, .slice none 0 0], []⟩ 8 (by kernel_rfl) (by kernel_rfl) (by kernel_rfl) (by kernel_rfl)) ?_
  intro W base args ds gs before hval0 hW hcnd _
  have hval : ∀ (j : Nat) t v, Try.f8.params[j]? = some t → args[j]? = some v → Value.okWide Try.prog W .any base t v := hval0
  have hW' := hW
  obtain ⟨p, q, hA0, hV, rfl, hfz, hnd⟩ := hW
  have hA : DataW.TrodAll enc Try.prog W 0 (fun _ => true) true Try.f8.params.toList args.toList ds p := hA0
  rw [Try.params8] at hA hval
  obtain ⟨v0, vs0, d0, ds0, p0, q0, hargs, rfl, rfl, h0, r0⟩ := trodAll_cons hA
  obtain ⟨v1, vs1, d1, ds1, p1, q1, rfl, rfl, rfl, h1, r1⟩ := trodAll_cons r0
  obtain ⟨rfl, rfl, rfl⟩ := trodAll_nil r1
  obtain rfl : args = #[v0, v1] := by cases args; simp_all
  obtain ⟨rfl, rfl⟩ := trodVars_none hV
  obtain ⟨a0, rfl, rfl, rfl, w0⟩ := open_int Try.underlying3 (hval 0 3 v0 rfl rfl) h0
  have k1 := h1
  have lt1 : ∀ x ∈ p1, x.block < W.heap.size := by obtain ⟨m, hm⟩ := k1; exact DataW.trod_lt m _ _ _ hm
  obtain ⟨b1, n1, cap1, rfl⟩ := okWide_slice Try.underlying22 (hval 1 22 v1 rfl rfl)
  obtain ⟨f1, hrow1⟩ := rows5 h1 lt1
  clear hA0 hval0
  refine (walk a0 b1 n1 cap1 f1 W w0 hrow1).mono fun e W' ⟨he, bel⟩ => ?_
  subst he
  exact ⟨_, rfl, _, _, _, [], _, [], hW', trodAll_mk1 (shut_bool Try.underlying4 _), (trodAll_cons_mk (shut_int Try.underlying3 w0) (trodAll_cons_mk (Below.trod laidOut (by kernel_rfl) (of_decide_eq_true (by kernel_rfl)) k1 bel lt1) trodAll_mk0)), rfl, bel.frame _, fun h => by cases h⟩

theorem over : Rows.libSortsRow.holds Try.pinned (OpenSpec.ofChange Rows.libSortsSpec) :=
  OpenClaim.holds_of_wide 8 Try.f8 rfl rfl rfl rfl rfl rfl rfl ⟨rfl, rfl, rfl, rfl, rfl⟩ rfl rfl rfl rfl rfl (by kernel_rfl) Try.func8 (by kernel_rfl)
    (of_decide_eq_true (by kernel_rfl)) (by unfold Func.isWrapper; first | (rw [if_pos (by decide +kernel)]; kernel_rfl) | (rw [if_neg (by decide +kernel)]; exact ⟨rfl, rfl⟩))
    (fun os started H enc _ => lifted os started H enc)

/-- the statement -/
theorem proved : Rows.LibSortsSaid := over
end Go.Proofs.Ytgdfbpphfanocaa.libSorts
