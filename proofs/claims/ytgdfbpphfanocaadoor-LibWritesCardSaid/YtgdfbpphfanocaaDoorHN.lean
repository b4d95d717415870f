/- Nil containers, and zero ones. -/
import Derived.Test.YtgdfbpphfanocaaDoorFU
import Derived.Test.YtgdfbpphfanocaaDoorCY
import Derived.Test.YtgdfbpphfanocaaDoorHI
import Derived.Lib.AppendIntMem
set_option linter.unusedVariables false
set_option linter.unusedSimpArgs false
namespace Go.Proofs.YtgdfbpphfanocaaDoor
open Go.RowKit Fw
namespace Ln
theorem below_same (w : World) : Below w.heap.size w w := Below.refl _ _
theorem itoa_any (n : Int) (w : World) (h : -9223372036854775808 ≤ n ∧ n ≤ 9223372036854775807) (htab : Lib.TabIs Tryd.prog w "internal/strconv.uint64pow10" .u64 Lib.pow10Tab) :
    Calls Tryd.prog 30 #[vI n] w fun e w' => e = .returned (.string ⟨(Lib.itoa n).toArray⟩) ∧ Below w.heap.size w w' := by
  refine (Tryd.strconv_Itoa n h.1 h.2 w htab).mono ?_
  rintro e w' ⟨rfl, k, os, rfl⟩
  exact ⟨rfl, Lib.below_grow _ _ (Nat.le_refl _) _ _⟩
set_option maxRecDepth 20000 in
set_option maxHeartbeats 4000000 in
theorem tnone_nil (w : World) :
    Calls Tryd.prog 32 #[.pointer none] w fun e w' => e = .returned (.bool true) ∧ Below w.heap.size w w' := by
  refine calls_of Tryd.func32 rfl (m := 13) rfl [(0, .pointer none)] (Fr_enter [.pointer none] 13 (Nat.le_of_ble_eq_true rfl)) ?_
  have hH1 : HP Tr w w [] := HP.refl w
  refine WC.seq fun K2 hK2 => ?_
  refine WC.region ?_
  refine WL.pure (v := .bool false) 2 rfl (Nat.le_of_ble_eq_true rfl) rfl rfl (by kernel_rfl) ?_
  refine WL.nil ?_
  refine WQ.then ?_
  refine hK2 _ _ _ ?_
  refine WC.seq fun K3 hK3 => ?_
  refine WC.region ?_
  refine WL.pure (v := .pointer none) 3 rfl (Nat.le_of_ble_eq_true rfl) rfl rfl (by kernel_rfl) ?_
  refine WL.pure (v := .bool true) 4 rfl (Nat.le_of_ble_eq_true rfl) rfl rfl (by kernel_rfl) ?_
  refine WL.pure (v := .bool true) 5 rfl (Nat.le_of_ble_eq_true rfl) rfl rfl (by kernel_rfl) ?_
  refine WL.pass 6 rfl (Nat.le_of_ble_eq_true rfl) rfl ?_
  refine WL.pass 7 rfl (Nat.le_of_ble_eq_true rfl) rfl ?_
  refine WL.pass 8 rfl (Nat.le_of_ble_eq_true rfl) rfl ?_
  refine WL.pass 9 rfl (Nat.le_of_ble_eq_true rfl) rfl ?_
  refine WL.pass 10 rfl (Nat.le_of_ble_eq_true rfl) rfl ?_
  refine WL.pass 11 rfl (Nat.le_of_ble_eq_true rfl) rfl ?_
  refine WL.pure (v := .bool true) 12 rfl (Nat.le_of_ble_eq_true rfl) rfl rfl (by kernel_rfl) ?_
  refine WL.pure (v := .bool true) 2 rfl (Nat.le_of_ble_eq_true rfl) rfl rfl (by kernel_rfl) ?_
  refine WL.nil ?_
  refine WQ.then ?_
  refine hK3 _ _ _ ?_
  refine WC.sub (l' := [(0, .pointer none), (2, .bool true)]) ⟨rfl, rfl, trivial⟩ ?_
  refine WC.ret ?_
  refine WQ.ret1 2 rfl rfl ?_
  exact ⟨rfl, HP.below hH1⟩
set_option maxRecDepth 20000 in
set_option maxHeartbeats 4000000 in
theorem tnone_zero (t : Nat) (w : World) (hc : w.cell? ⟨t, 0, none⟩ = some (.slice none 0 0)) :
    Calls Tryd.prog 32 #[vP t 0] w fun e w' => e = .returned (.bool true) ∧ Below w.heap.size w w' := by
  refine calls_of Tryd.func32 rfl (m := 13) rfl [(0, vP t 0)] (Fr_enter [vP t 0] 13 (Nat.le_of_ble_eq_true rfl)) ?_
  have hH1 : HP Tr w w [] := HP.refl w
  refine WC.seq fun K2 hK2 => ?_
  refine WC.region ?_
  refine WL.pure (v := .bool false) 2 rfl (Nat.le_of_ble_eq_true rfl) rfl rfl (by kernel_rfl) ?_
  refine WL.nil ?_
  refine WQ.then ?_
  refine hK2 _ _ _ ?_
  refine WC.seq fun K3 hK3 => ?_
  refine WC.region ?_
  refine WL.pure (v := vP t 0) 3 rfl (Nat.le_of_ble_eq_true rfl) rfl rfl (by kernel_rfl) ?_
  refine WL.pure (v := .bool false) 4 rfl (Nat.le_of_ble_eq_true rfl) rfl rfl (by kernel_rfl) ?_
  refine WL.pure (v := .bool false) 5 rfl (Nat.le_of_ble_eq_true rfl) rfl rfl (by kernel_rfl) ?_
  refine WL.pure (v := vP t 0) 6 rfl (Nat.le_of_ble_eq_true rfl) rfl rfl (by kernel_rfl) ?_
  refine WL.pure (v := vP t 0) 7 rfl (Nat.le_of_ble_eq_true rfl) rfl rfl (by kernel_rfl) ?_
  refine WL.pure (v := vP t 0) 8 rfl (Nat.le_of_ble_eq_true rfl) rfl rfl (by kernel_rfl) ?_
  refine WL.pure (v := .slice none 0 0) 9 rfl (Nat.le_of_ble_eq_true rfl) rfl rfl (x_load rfl rfl Tryd.underlying52 rfl (HP.old hH1 trivial hc)) ?_
  refine WL.pure (v := vI 0) 10 rfl (Nat.le_of_ble_eq_true rfl) rfl rfl (by kernel_rfl) ?_
  refine WL.pure (v := .bool true) 11 rfl (Nat.le_of_ble_eq_true rfl) rfl rfl (x_eql rfl rfl rfl (by decide)) ?_
  refine WL.pure (v := .bool true) 12 rfl (Nat.le_of_ble_eq_true rfl) rfl rfl (by kernel_rfl) ?_
  refine WL.pure (v := .bool true) 2 rfl (Nat.le_of_ble_eq_true rfl) rfl rfl (by kernel_rfl) ?_
  refine WL.nil ?_
  refine WQ.then ?_
  refine hK3 _ _ _ ?_
  refine WC.sub (l' := [(0, vP t 0), (2, .bool true)]) ⟨rfl, rfl, trivial⟩ ?_
  refine WC.ret ?_
  refine WQ.ret1 2 rfl rfl ?_
  exact ⟨rfl, HP.below hH1⟩
set_option maxRecDepth 20000 in
set_option maxHeartbeats 4000000 in
theorem wnone_nil (w : World) :
    Calls Tryd.prog 46 #[.pointer none] w fun e w' => e = .returned (.bool true) ∧ Below w.heap.size w w' := by
  refine calls_of Tryd.func46 rfl (m := 12) rfl [(0, .pointer none)] (Fr_enter [.pointer none] 12 (Nat.le_of_ble_eq_true rfl)) ?_
  have hH1 : HP Tr w w [] := HP.refl w
  refine WC.seq fun K2 hK2 => ?_
  refine WC.region ?_
  refine WL.pure (v := .bool false) 2 rfl (Nat.le_of_ble_eq_true rfl) rfl rfl (by kernel_rfl) ?_
  refine WL.nil ?_
  refine WQ.then ?_
  refine hK2 _ _ _ ?_
  refine WC.seq fun K3 hK3 => ?_
  refine WC.region ?_
  refine WL.pure (v := .pointer none) 3 rfl (Nat.le_of_ble_eq_true rfl) rfl rfl (by kernel_rfl) ?_
  refine WL.pure (v := .bool true) 4 rfl (Nat.le_of_ble_eq_true rfl) rfl rfl (by kernel_rfl) ?_
  refine WL.pure (v := .bool true) 5 rfl (Nat.le_of_ble_eq_true rfl) rfl rfl (by kernel_rfl) ?_
  refine WL.pass 6 rfl (Nat.le_of_ble_eq_true rfl) rfl ?_
  refine WL.pass 7 rfl (Nat.le_of_ble_eq_true rfl) rfl ?_
  refine WL.pass 8 rfl (Nat.le_of_ble_eq_true rfl) rfl ?_
  refine WL.pass 9 rfl (Nat.le_of_ble_eq_true rfl) rfl ?_
  refine WL.pass 10 rfl (Nat.le_of_ble_eq_true rfl) rfl ?_
  refine WL.pure (v := .bool true) 11 rfl (Nat.le_of_ble_eq_true rfl) rfl rfl (by kernel_rfl) ?_
  refine WL.pure (v := .bool true) 2 rfl (Nat.le_of_ble_eq_true rfl) rfl rfl (by kernel_rfl) ?_
  refine WL.nil ?_
  refine WQ.then ?_
  refine hK3 _ _ _ ?_
  refine WC.sub (l' := [(0, .pointer none), (2, .bool true)]) ⟨rfl, rfl, trivial⟩ ?_
  refine WC.ret ?_
  refine WQ.ret1 2 rfl rfl ?_
  exact ⟨rfl, HP.below hH1⟩
set_option maxRecDepth 20000 in
set_option maxHeartbeats 4000000 in
theorem wnone_zero (t : Nat) (w : World) (hc : w.cell? ⟨t, 0, none⟩ = some (vI 0)) :
    Calls Tryd.prog 46 #[vP t 0] w fun e w' => e = .returned (.bool true) ∧ Below w.heap.size w w' := by
  refine calls_of Tryd.func46 rfl (m := 12) rfl [(0, vP t 0)] (Fr_enter [vP t 0] 12 (Nat.le_of_ble_eq_true rfl)) ?_
  have hH1 : HP Tr w w [] := HP.refl w
  refine WC.seq fun K2 hK2 => ?_
  refine WC.region ?_
  refine WL.pure (v := .bool false) 2 rfl (Nat.le_of_ble_eq_true rfl) rfl rfl (by kernel_rfl) ?_
  refine WL.nil ?_
  refine WQ.then ?_
  refine hK2 _ _ _ ?_
  refine WC.seq fun K3 hK3 => ?_
  refine WC.region ?_
  refine WL.pure (v := vP t 0) 3 rfl (Nat.le_of_ble_eq_true rfl) rfl rfl (by kernel_rfl) ?_
  refine WL.pure (v := .bool false) 4 rfl (Nat.le_of_ble_eq_true rfl) rfl rfl (by kernel_rfl) ?_
  refine WL.pure (v := .bool false) 5 rfl (Nat.le_of_ble_eq_true rfl) rfl rfl (by kernel_rfl) ?_
  refine WL.pure (v := vP t 0) 6 rfl (Nat.le_of_ble_eq_true rfl) rfl rfl (by kernel_rfl) ?_
  refine WL.pure (v := vP t 0) 7 rfl (Nat.le_of_ble_eq_true rfl) rfl rfl (by kernel_rfl) ?_
  refine WL.pure (v := vP t 0) 8 rfl (Nat.le_of_ble_eq_true rfl) rfl rfl (by kernel_rfl) ?_
  refine WL.pure (v := vI 0) 9 rfl (Nat.le_of_ble_eq_true rfl) rfl rfl (x_load rfl rfl Tryd.underlying3 rfl (HP.old hH1 trivial hc)) ?_
  refine WL.pure (v := .bool true) 10 rfl (Nat.le_of_ble_eq_true rfl) rfl rfl (x_eql rfl rfl rfl (by decide)) ?_
  refine WL.pure (v := .bool true) 11 rfl (Nat.le_of_ble_eq_true rfl) rfl rfl (by kernel_rfl) ?_
  refine WL.pure (v := .bool true) 2 rfl (Nat.le_of_ble_eq_true rfl) rfl rfl (by kernel_rfl) ?_
  refine WL.nil ?_
  refine WQ.then ?_
  refine hK3 _ _ _ ?_
  refine WC.sub (l' := [(0, vP t 0), (2, .bool true)]) ⟨rfl, rfl, trivial⟩ ?_
  refine WC.ret ?_
  refine WQ.ret1 2 rfl rfl ?_
  exact ⟨rfl, HP.below hH1⟩
set_option maxRecDepth 20000 in
set_option maxHeartbeats 4000000 in
theorem bnone_nil (w : World) :
    Calls Tryd.prog 29 #[.pointer none] w fun e w' => e = .returned (.bool true) ∧ Below w.heap.size w w' := by
  refine calls_of Tryd.func29 rfl (m := 12) rfl [(0, .pointer none)] (Fr_enter [.pointer none] 12 (Nat.le_of_ble_eq_true rfl)) ?_
  have hH1 : HP Tr w w [] := HP.refl w
  refine WC.seq fun K2 hK2 => ?_
  refine WC.region ?_
  refine WL.pure (v := .bool false) 2 rfl (Nat.le_of_ble_eq_true rfl) rfl rfl (by kernel_rfl) ?_
  refine WL.nil ?_
  refine WQ.then ?_
  refine hK2 _ _ _ ?_
  refine WC.seq fun K3 hK3 => ?_
  refine WC.region ?_
  refine WL.pure (v := .pointer none) 3 rfl (Nat.le_of_ble_eq_true rfl) rfl rfl (by kernel_rfl) ?_
  refine WL.pure (v := .bool true) 4 rfl (Nat.le_of_ble_eq_true rfl) rfl rfl (by kernel_rfl) ?_
  refine WL.pure (v := .bool true) 5 rfl (Nat.le_of_ble_eq_true rfl) rfl rfl (by kernel_rfl) ?_
  refine WL.pass 6 rfl (Nat.le_of_ble_eq_true rfl) rfl ?_
  refine WL.pass 7 rfl (Nat.le_of_ble_eq_true rfl) rfl ?_
  refine WL.pass 8 rfl (Nat.le_of_ble_eq_true rfl) rfl ?_
  refine WL.pass 9 rfl (Nat.le_of_ble_eq_true rfl) rfl ?_
  refine WL.pass 10 rfl (Nat.le_of_ble_eq_true rfl) rfl ?_
  refine WL.pure (v := .bool true) 11 rfl (Nat.le_of_ble_eq_true rfl) rfl rfl (by kernel_rfl) ?_
  refine WL.pure (v := .bool true) 2 rfl (Nat.le_of_ble_eq_true rfl) rfl rfl (by kernel_rfl) ?_
  refine WL.nil ?_
  refine WQ.then ?_
  refine hK3 _ _ _ ?_
  refine WC.sub (l' := [(0, .pointer none), (2, .bool true)]) ⟨rfl, rfl, trivial⟩ ?_
  refine WC.ret ?_
  refine WQ.ret1 2 rfl rfl ?_
  exact ⟨rfl, HP.below hH1⟩
set_option maxRecDepth 20000 in
set_option maxHeartbeats 4000000 in
theorem bnone_zero (t : Nat) (w : World) (hc : w.cell? ⟨t, 0, none⟩ = some (vI 0)) :
    Calls Tryd.prog 29 #[vP t 0] w fun e w' => e = .returned (.bool true) ∧ Below w.heap.size w w' := by
  refine calls_of Tryd.func29 rfl (m := 12) rfl [(0, vP t 0)] (Fr_enter [vP t 0] 12 (Nat.le_of_ble_eq_true rfl)) ?_
  have hH1 : HP Tr w w [] := HP.refl w
  refine WC.seq fun K2 hK2 => ?_
  refine WC.region ?_
  refine WL.pure (v := .bool false) 2 rfl (Nat.le_of_ble_eq_true rfl) rfl rfl (by kernel_rfl) ?_
  refine WL.nil ?_
  refine WQ.then ?_
  refine hK2 _ _ _ ?_
  refine WC.seq fun K3 hK3 => ?_
  refine WC.region ?_
  refine WL.pure (v := vP t 0) 3 rfl (Nat.le_of_ble_eq_true rfl) rfl rfl (by kernel_rfl) ?_
  refine WL.pure (v := .bool false) 4 rfl (Nat.le_of_ble_eq_true rfl) rfl rfl (by kernel_rfl) ?_
  refine WL.pure (v := .bool false) 5 rfl (Nat.le_of_ble_eq_true rfl) rfl rfl (by kernel_rfl) ?_
  refine WL.pure (v := vP t 0) 6 rfl (Nat.le_of_ble_eq_true rfl) rfl rfl (by kernel_rfl) ?_
  refine WL.pure (v := vP t 0) 7 rfl (Nat.le_of_ble_eq_true rfl) rfl rfl (by kernel_rfl) ?_
  refine WL.pure (v := vP t 0) 8 rfl (Nat.le_of_ble_eq_true rfl) rfl rfl (by kernel_rfl) ?_
  refine WL.pure (v := vI 0) 9 rfl (Nat.le_of_ble_eq_true rfl) rfl rfl (x_load rfl rfl Tryd.underlying3 rfl (HP.old hH1 trivial hc)) ?_
  refine WL.pure (v := .bool true) 10 rfl (Nat.le_of_ble_eq_true rfl) rfl rfl (x_eql rfl rfl rfl (by decide)) ?_
  refine WL.pure (v := .bool true) 11 rfl (Nat.le_of_ble_eq_true rfl) rfl rfl (by kernel_rfl) ?_
  refine WL.pure (v := .bool true) 2 rfl (Nat.le_of_ble_eq_true rfl) rfl rfl (by kernel_rfl) ?_
  refine WL.nil ?_
  refine WQ.then ?_
  refine hK3 _ _ _ ?_
  refine WC.sub (l' := [(0, vP t 0), (2, .bool true)]) ⟨rfl, rfl, trivial⟩ ?_
  refine WC.ret ?_
  refine WQ.ret1 2 rfl rfl ?_
  exact ⟨rfl, HP.below hH1⟩
set_option maxRecDepth 20000 in
set_option maxHeartbeats 4000000 in
theorem lnone_nil (w : World) :
    Calls Tryd.prog 36 #[.pointer none] w fun e w' => e = .returned (.bool true) ∧ Below w.heap.size w w' := by
  refine calls_of Tryd.func36 rfl (m := 11) rfl [(0, .pointer none)] (Fr_enter [.pointer none] 11 (Nat.le_of_ble_eq_true rfl)) ?_
  have hH1 : HP Tr w w [] := HP.refl w
  refine WC.seq fun K2 hK2 => ?_
  refine WC.region ?_
  refine WL.pure (v := .bool false) 2 rfl (Nat.le_of_ble_eq_true rfl) rfl rfl (by kernel_rfl) ?_
  refine WL.nil ?_
  refine WQ.then ?_
  refine hK2 _ _ _ ?_
  refine WC.seq fun K3 hK3 => ?_
  refine WC.region ?_
  refine WL.pure (v := .pointer none) 3 rfl (Nat.le_of_ble_eq_true rfl) rfl rfl (by kernel_rfl) ?_
  refine WL.pure (v := .bool true) 4 rfl (Nat.le_of_ble_eq_true rfl) rfl rfl (by kernel_rfl) ?_
  refine WL.pure (v := .bool true) 5 rfl (Nat.le_of_ble_eq_true rfl) rfl rfl (by kernel_rfl) ?_
  refine WL.pass 6 rfl (Nat.le_of_ble_eq_true rfl) rfl ?_
  refine WL.pass 7 rfl (Nat.le_of_ble_eq_true rfl) rfl ?_
  refine WL.pass 8 rfl (Nat.le_of_ble_eq_true rfl) rfl ?_
  refine WL.pass 9 rfl (Nat.le_of_ble_eq_true rfl) rfl ?_
  refine WL.pure (v := .bool true) 10 rfl (Nat.le_of_ble_eq_true rfl) rfl rfl (by kernel_rfl) ?_
  refine WL.pure (v := .bool true) 2 rfl (Nat.le_of_ble_eq_true rfl) rfl rfl (by kernel_rfl) ?_
  refine WL.nil ?_
  refine WQ.then ?_
  refine hK3 _ _ _ ?_
  refine WC.sub (l' := [(0, .pointer none), (2, .bool true)]) ⟨rfl, rfl, trivial⟩ ?_
  refine WC.ret ?_
  refine WQ.ret1 2 rfl rfl ?_
  exact ⟨rfl, HP.below hH1⟩
set_option maxRecDepth 20000 in
set_option maxHeartbeats 4000000 in
theorem lnone_zero (t : Nat) (w : World) (hc : w.cell? ⟨t, 0, none⟩ = some (vI 0)) :
    Calls Tryd.prog 36 #[vP t 0] w fun e w' => e = .returned (.bool true) ∧ Below w.heap.size w w' := by
  refine calls_of Tryd.func36 rfl (m := 11) rfl [(0, vP t 0)] (Fr_enter [vP t 0] 11 (Nat.le_of_ble_eq_true rfl)) ?_
  have hH1 : HP Tr w w [] := HP.refl w
  refine WC.seq fun K2 hK2 => ?_
  refine WC.region ?_
  refine WL.pure (v := .bool false) 2 rfl (Nat.le_of_ble_eq_true rfl) rfl rfl (by kernel_rfl) ?_
  refine WL.nil ?_
  refine WQ.then ?_
  refine hK2 _ _ _ ?_
  refine WC.seq fun K3 hK3 => ?_
  refine WC.region ?_
  refine WL.pure (v := vP t 0) 3 rfl (Nat.le_of_ble_eq_true rfl) rfl rfl (by kernel_rfl) ?_
  refine WL.pure (v := .bool false) 4 rfl (Nat.le_of_ble_eq_true rfl) rfl rfl (by kernel_rfl) ?_
  refine WL.pure (v := .bool false) 5 rfl (Nat.le_of_ble_eq_true rfl) rfl rfl (by kernel_rfl) ?_
  refine WL.pure (v := vP t 0) 6 rfl (Nat.le_of_ble_eq_true rfl) rfl rfl (by kernel_rfl) ?_
  refine WL.pure (v := vP t 0) 7 rfl (Nat.le_of_ble_eq_true rfl) rfl rfl (by kernel_rfl) ?_
  refine WL.pure (v := vP t 0) 8 rfl (Nat.le_of_ble_eq_true rfl) rfl rfl (by kernel_rfl) ?_
  refine WL.call (f := 46) (args := #[vP t 0]) 9 rfl (Nat.le_of_ble_eq_true rfl) rfl rfl (by kernel_rfl) ?_
  refine (wnone_zero t _ (HP.old hH1 trivial hc)).mono ?_
  rintro e w4 ⟨rfl, hb5⟩
  refine ⟨_, rfl, ?_⟩
  have hH6 : HP Tr w _ [] := HP.call hH1 hb5
  refine WL.pure (v := .bool true) 10 rfl (Nat.le_of_ble_eq_true rfl) rfl rfl (by kernel_rfl) ?_
  refine WL.pure (v := .bool true) 2 rfl (Nat.le_of_ble_eq_true rfl) rfl rfl (by kernel_rfl) ?_
  refine WL.nil ?_
  refine WQ.then ?_
  refine hK3 _ _ _ ?_
  refine WC.sub (l' := [(0, vP t 0), (2, .bool true)]) ⟨rfl, rfl, trivial⟩ ?_
  refine WC.ret ?_
  refine WQ.ret1 2 rfl rfl ?_
  exact ⟨rfl, HP.below hH6⟩
set_option maxRecDepth 20000 in
set_option maxHeartbeats 4000000 in
theorem snone_nil (w : World) :
    Calls Tryd.prog 38 #[.pointer none] w fun e w' => e = .returned (.bool true) ∧ Below w.heap.size w w' := by
  refine calls_of Tryd.func38 rfl (m := 11) rfl [(0, .pointer none)] (Fr_enter [.pointer none] 11 (Nat.le_of_ble_eq_true rfl)) ?_
  have hH1 : HP Tr w w [] := HP.refl w
  refine WC.seq fun K2 hK2 => ?_
  refine WC.region ?_
  refine WL.pure (v := .bool false) 2 rfl (Nat.le_of_ble_eq_true rfl) rfl rfl (by kernel_rfl) ?_
  refine WL.nil ?_
  refine WQ.then ?_
  refine hK2 _ _ _ ?_
  refine WC.seq fun K3 hK3 => ?_
  refine WC.region ?_
  refine WL.pure (v := .pointer none) 3 rfl (Nat.le_of_ble_eq_true rfl) rfl rfl (by kernel_rfl) ?_
  refine WL.pure (v := .bool true) 4 rfl (Nat.le_of_ble_eq_true rfl) rfl rfl (by kernel_rfl) ?_
  refine WL.pure (v := .bool true) 5 rfl (Nat.le_of_ble_eq_true rfl) rfl rfl (by kernel_rfl) ?_
  refine WL.pass 6 rfl (Nat.le_of_ble_eq_true rfl) rfl ?_
  refine WL.pass 7 rfl (Nat.le_of_ble_eq_true rfl) rfl ?_
  refine WL.pass 8 rfl (Nat.le_of_ble_eq_true rfl) rfl ?_
  refine WL.pass 9 rfl (Nat.le_of_ble_eq_true rfl) rfl ?_
  refine WL.pure (v := .bool true) 10 rfl (Nat.le_of_ble_eq_true rfl) rfl rfl (by kernel_rfl) ?_
  refine WL.pure (v := .bool true) 2 rfl (Nat.le_of_ble_eq_true rfl) rfl rfl (by kernel_rfl) ?_
  refine WL.nil ?_
  refine WQ.then ?_
  refine hK3 _ _ _ ?_
  refine WC.sub (l' := [(0, .pointer none), (2, .bool true)]) ⟨rfl, rfl, trivial⟩ ?_
  refine WC.ret ?_
  refine WQ.ret1 2 rfl rfl ?_
  exact ⟨rfl, HP.below hH1⟩
set_option maxRecDepth 20000 in
set_option maxHeartbeats 4000000 in
theorem snone_zero (t : Nat) (w : World) (hc : w.cell? ⟨t, 0, none⟩ = some (vI 0)) :
    Calls Tryd.prog 38 #[vP t 0] w fun e w' => e = .returned (.bool true) ∧ Below w.heap.size w w' := by
  refine calls_of Tryd.func38 rfl (m := 11) rfl [(0, vP t 0)] (Fr_enter [vP t 0] 11 (Nat.le_of_ble_eq_true rfl)) ?_
  have hH1 : HP Tr w w [] := HP.refl w
  refine WC.seq fun K2 hK2 => ?_
  refine WC.region ?_
  refine WL.pure (v := .bool false) 2 rfl (Nat.le_of_ble_eq_true rfl) rfl rfl (by kernel_rfl) ?_
  refine WL.nil ?_
  refine WQ.then ?_
  refine hK2 _ _ _ ?_
  refine WC.seq fun K3 hK3 => ?_
  refine WC.region ?_
  refine WL.pure (v := vP t 0) 3 rfl (Nat.le_of_ble_eq_true rfl) rfl rfl (by kernel_rfl) ?_
  refine WL.pure (v := .bool false) 4 rfl (Nat.le_of_ble_eq_true rfl) rfl rfl (by kernel_rfl) ?_
  refine WL.pure (v := .bool false) 5 rfl (Nat.le_of_ble_eq_true rfl) rfl rfl (by kernel_rfl) ?_
  refine WL.pure (v := vP t 0) 6 rfl (Nat.le_of_ble_eq_true rfl) rfl rfl (by kernel_rfl) ?_
  refine WL.pure (v := vP t 0) 7 rfl (Nat.le_of_ble_eq_true rfl) rfl rfl (by kernel_rfl) ?_
  refine WL.pure (v := vP t 0) 8 rfl (Nat.le_of_ble_eq_true rfl) rfl rfl (by kernel_rfl) ?_
  refine WL.call (f := 46) (args := #[vP t 0]) 9 rfl (Nat.le_of_ble_eq_true rfl) rfl rfl (by kernel_rfl) ?_
  refine (wnone_zero t _ (HP.old hH1 trivial hc)).mono ?_
  rintro e w4 ⟨rfl, hb5⟩
  refine ⟨_, rfl, ?_⟩
  have hH6 : HP Tr w _ [] := HP.call hH1 hb5
  refine WL.pure (v := .bool true) 10 rfl (Nat.le_of_ble_eq_true rfl) rfl rfl (by kernel_rfl) ?_
  refine WL.pure (v := .bool true) 2 rfl (Nat.le_of_ble_eq_true rfl) rfl rfl (by kernel_rfl) ?_
  refine WL.nil ?_
  refine WQ.then ?_
  refine hK3 _ _ _ ?_
  refine WC.sub (l' := [(0, vP t 0), (2, .bool true)]) ⟨rfl, rfl, trivial⟩ ?_
  refine WC.ret ?_
  refine WQ.ret1 2 rfl rfl ?_
  exact ⟨rfl, HP.below hH6⟩
set_option maxRecDepth 20000 in
set_option maxHeartbeats 4000000 in
theorem tput_nil (a v : Int) (w : World) :
    Calls Tryd.prog 14 #[.pointer none, vI a, vI v] w fun e w' => e = .returned (.tuple #[vI 0, vI 1]) ∧ Below w.heap.size w w' := by
  refine calls_of Tryd.func14 rfl (m := 40) rfl [(0, .pointer none), (1, vI a), (2, vI v)] (Fr_enter [.pointer none, vI a, vI v] 40 (Nat.le_of_ble_eq_true rfl)) ?_
  have hH1 : HP Tr w w [] := HP.refl w
  refine WC.seq fun K2 hK2 => ?_
  refine WC.region ?_
  refine WL.pure (v := vI 0) 6 rfl (Nat.le_of_ble_eq_true rfl) rfl rfl (by kernel_rfl) ?_
  refine WL.pure (v := vI 0) 7 rfl (Nat.le_of_ble_eq_true rfl) rfl rfl (by kernel_rfl) ?_
  refine WL.nil ?_
  refine WQ.then ?_
  refine hK2 _ _ _ ?_
  refine WC.seq fun K3 hK3 => ?_
  refine WC.seq fun K4 hK4 => ?_
  refine WC.region ?_
  refine WL.pure (v := .pointer none) 9 rfl (Nat.le_of_ble_eq_true rfl) rfl rfl (by kernel_rfl) ?_
  refine WL.call (f := 32) (args := #[.pointer none]) 10 rfl (Nat.le_of_ble_eq_true rfl) rfl rfl (by kernel_rfl) ?_
  refine (tnone_nil _).mono ?_
  rintro e w5 ⟨rfl, hb6⟩
  refine ⟨_, rfl, ?_⟩
  have hH7 : HP Tr w _ [] := HP.call hH1 hb6
  refine WL.pure (v := .bool true) 11 rfl (Nat.le_of_ble_eq_true rfl) rfl rfl (by kernel_rfl) ?_
  refine WL.pass 12 rfl (Nat.le_of_ble_eq_true rfl) rfl ?_
  refine WL.pass 13 rfl (Nat.le_of_ble_eq_true rfl) rfl ?_
  refine WL.pass 14 rfl (Nat.le_of_ble_eq_true rfl) rfl ?_
  refine WL.pure (v := .bool true) 15 rfl (Nat.le_of_ble_eq_true rfl) rfl rfl (by kernel_rfl) ?_
  refine WL.pure (v := .bool true) 16 rfl (Nat.le_of_ble_eq_true rfl) rfl rfl (by kernel_rfl) ?_
  refine WL.pass 17 rfl (Nat.le_of_ble_eq_true rfl) rfl ?_
  refine WL.pass 18 rfl (Nat.le_of_ble_eq_true rfl) rfl ?_
  refine WL.pass 19 rfl (Nat.le_of_ble_eq_true rfl) rfl ?_
  refine WL.pure (v := .bool true) 20 rfl (Nat.le_of_ble_eq_true rfl) rfl rfl (by kernel_rfl) ?_
  refine WL.nil ?_
  refine WQ.then ?_
  refine hK4 _ _ _ ?_
  refine WC.sub (l' := [(0, .pointer none), (1, vI a), (2, vI v), (6, vI 0), (7, vI 0), (20, .bool true)]) ⟨rfl, rfl, rfl, rfl, rfl, rfl, trivial⟩ ?_
  refine WC.yes rfl ?_
  refine WC.seq fun K8 hK8 => ?_
  refine WC.region ?_
  refine WL.pure (v := vI 0) 6 rfl (Nat.le_of_ble_eq_true rfl) rfl rfl (by kernel_rfl) ?_
  refine WL.pure (v := vI 1) 7 rfl (Nat.le_of_ble_eq_true rfl) rfl rfl (by kernel_rfl) ?_
  refine WL.nil ?_
  refine WQ.then ?_
  refine hK8 _ _ _ ?_
  refine WC.ret ?_
  refine WQ.thenRet ?_
  refine WQ.ret2 6 7 rfl rfl rfl ?_
  exact ⟨rfl, HP.below hH7⟩
set_option maxRecDepth 20000 in
set_option maxHeartbeats 4000000 in
theorem tput_zero (t : Nat) (a v : Int) (w : World) (hc : w.cell? ⟨t, 0, none⟩ = some (.slice none 0 0)) :
    Calls Tryd.prog 14 #[vP t 0, vI a, vI v] w fun e w' => e = .returned (.tuple #[vI 0, vI 1]) ∧ Below w.heap.size w w' := by
  refine calls_of Tryd.func14 rfl (m := 40) rfl [(0, vP t 0), (1, vI a), (2, vI v)] (Fr_enter [vP t 0, vI a, vI v] 40 (Nat.le_of_ble_eq_true rfl)) ?_
  have hH1 : HP Tr w w [] := HP.refl w
  refine WC.seq fun K2 hK2 => ?_
  refine WC.region ?_
  refine WL.pure (v := vI 0) 6 rfl (Nat.le_of_ble_eq_true rfl) rfl rfl (by kernel_rfl) ?_
  refine WL.pure (v := vI 0) 7 rfl (Nat.le_of_ble_eq_true rfl) rfl rfl (by kernel_rfl) ?_
  refine WL.nil ?_
  refine WQ.then ?_
  refine hK2 _ _ _ ?_
  refine WC.seq fun K3 hK3 => ?_
  refine WC.seq fun K4 hK4 => ?_
  refine WC.region ?_
  refine WL.pure (v := vP t 0) 9 rfl (Nat.le_of_ble_eq_true rfl) rfl rfl (by kernel_rfl) ?_
  refine WL.call (f := 32) (args := #[vP t 0]) 10 rfl (Nat.le_of_ble_eq_true rfl) rfl rfl (by kernel_rfl) ?_
  refine (tnone_zero t _ (HP.old hH1 trivial hc)).mono ?_
  rintro e w5 ⟨rfl, hb6⟩
  refine ⟨_, rfl, ?_⟩
  have hH7 : HP Tr w _ [] := HP.call hH1 hb6
  refine WL.pure (v := .bool true) 11 rfl (Nat.le_of_ble_eq_true rfl) rfl rfl (by kernel_rfl) ?_
  refine WL.pass 12 rfl (Nat.le_of_ble_eq_true rfl) rfl ?_
  refine WL.pass 13 rfl (Nat.le_of_ble_eq_true rfl) rfl ?_
  refine WL.pass 14 rfl (Nat.le_of_ble_eq_true rfl) rfl ?_
  refine WL.pure (v := .bool true) 15 rfl (Nat.le_of_ble_eq_true rfl) rfl rfl (by kernel_rfl) ?_
  refine WL.pure (v := .bool true) 16 rfl (Nat.le_of_ble_eq_true rfl) rfl rfl (by kernel_rfl) ?_
  refine WL.pass 17 rfl (Nat.le_of_ble_eq_true rfl) rfl ?_
  refine WL.pass 18 rfl (Nat.le_of_ble_eq_true rfl) rfl ?_
  refine WL.pass 19 rfl (Nat.le_of_ble_eq_true rfl) rfl ?_
  refine WL.pure (v := .bool true) 20 rfl (Nat.le_of_ble_eq_true rfl) rfl rfl (by kernel_rfl) ?_
  refine WL.nil ?_
  refine WQ.then ?_
  refine hK4 _ _ _ ?_
  refine WC.sub (l' := [(0, vP t 0), (1, vI a), (2, vI v), (6, vI 0), (7, vI 0), (20, .bool true)]) ⟨rfl, rfl, rfl, rfl, rfl, rfl, trivial⟩ ?_
  refine WC.yes rfl ?_
  refine WC.seq fun K8 hK8 => ?_
  refine WC.region ?_
  refine WL.pure (v := vI 0) 6 rfl (Nat.le_of_ble_eq_true rfl) rfl rfl (by kernel_rfl) ?_
  refine WL.pure (v := vI 1) 7 rfl (Nat.le_of_ble_eq_true rfl) rfl rfl (by kernel_rfl) ?_
  refine WL.nil ?_
  refine WQ.then ?_
  refine hK8 _ _ _ ?_
  refine WC.ret ?_
  refine WQ.thenRet ?_
  refine WQ.ret2 6 7 rfl rfl rfl ?_
  exact ⟨rfl, HP.below hH7⟩
set_option maxRecDepth 20000 in
set_option maxHeartbeats 4000000 in
theorem tget_nil (a : Int) (w : World) :
    Calls Tryd.prog 15 #[.pointer none, vI a] w fun e w' => e = .returned (.tuple #[vI 0, vI 0, vI 1]) ∧ Below w.heap.size w w' := by
  refine calls_of Tryd.func15 rfl (m := 44) rfl [(0, .pointer none), (1, vI a)] (Fr_enter [.pointer none, vI a] 44 (Nat.le_of_ble_eq_true rfl)) ?_
  have hH1 : HP Tr w w [] := HP.refl w
  refine WC.seq fun K2 hK2 => ?_
  refine WC.region ?_
  refine WL.pure (v := vI 0) 4 rfl (Nat.le_of_ble_eq_true rfl) rfl rfl (by kernel_rfl) ?_
  refine WL.pure (v := vI 0) 5 rfl (Nat.le_of_ble_eq_true rfl) rfl rfl (by kernel_rfl) ?_
  refine WL.pure (v := vI 0) 6 rfl (Nat.le_of_ble_eq_true rfl) rfl rfl (by kernel_rfl) ?_
  refine WL.nil ?_
  refine WQ.then ?_
  refine hK2 _ _ _ ?_
  refine WC.seq fun K3 hK3 => ?_
  refine WC.seq fun K4 hK4 => ?_
  refine WC.region ?_
  refine WL.pure (v := .pointer none) 8 rfl (Nat.le_of_ble_eq_true rfl) rfl rfl (by kernel_rfl) ?_
  refine WL.call (f := 32) (args := #[.pointer none]) 9 rfl (Nat.le_of_ble_eq_true rfl) rfl rfl (by kernel_rfl) ?_
  refine (tnone_nil _).mono ?_
  rintro e w5 ⟨rfl, hb6⟩
  refine ⟨_, rfl, ?_⟩
  have hH7 : HP Tr w _ [] := HP.call hH1 hb6
  refine WL.pure (v := .bool true) 10 rfl (Nat.le_of_ble_eq_true rfl) rfl rfl (by kernel_rfl) ?_
  refine WL.pass 11 rfl (Nat.le_of_ble_eq_true rfl) rfl ?_
  refine WL.pass 12 rfl (Nat.le_of_ble_eq_true rfl) rfl ?_
  refine WL.pass 13 rfl (Nat.le_of_ble_eq_true rfl) rfl ?_
  refine WL.pure (v := .bool true) 14 rfl (Nat.le_of_ble_eq_true rfl) rfl rfl (by kernel_rfl) ?_
  refine WL.nil ?_
  refine WQ.then ?_
  refine hK4 _ _ _ ?_
  refine WC.sub (l' := [(0, .pointer none), (1, vI a), (4, vI 0), (5, vI 0), (6, vI 0), (14, .bool true)]) ⟨rfl, rfl, rfl, rfl, rfl, rfl, trivial⟩ ?_
  refine WC.yes rfl ?_
  refine WC.seq fun K8 hK8 => ?_
  refine WC.region ?_
  refine WL.pure (v := vI 0) 4 rfl (Nat.le_of_ble_eq_true rfl) rfl rfl (by kernel_rfl) ?_
  refine WL.pure (v := vI 0) 5 rfl (Nat.le_of_ble_eq_true rfl) rfl rfl (by kernel_rfl) ?_
  refine WL.pure (v := vI 1) 6 rfl (Nat.le_of_ble_eq_true rfl) rfl rfl (by kernel_rfl) ?_
  refine WL.nil ?_
  refine WQ.then ?_
  refine hK8 _ _ _ ?_
  refine WC.ret ?_
  refine WQ.thenRet ?_
  refine WQ.ret3 4 5 6 rfl rfl rfl rfl ?_
  exact ⟨rfl, HP.below hH7⟩
set_option maxRecDepth 20000 in
set_option maxHeartbeats 4000000 in
theorem tget_zero (t : Nat) (a : Int) (w : World) (hc : w.cell? ⟨t, 0, none⟩ = some (.slice none 0 0)) :
    Calls Tryd.prog 15 #[vP t 0, vI a] w fun e w' => e = .returned (.tuple #[vI 0, vI 0, vI 1]) ∧ Below w.heap.size w w' := by
  refine calls_of Tryd.func15 rfl (m := 44) rfl [(0, vP t 0), (1, vI a)] (Fr_enter [vP t 0, vI a] 44 (Nat.le_of_ble_eq_true rfl)) ?_
  have hH1 : HP Tr w w [] := HP.refl w
  refine WC.seq fun K2 hK2 => ?_
  refine WC.region ?_
  refine WL.pure (v := vI 0) 4 rfl (Nat.le_of_ble_eq_true rfl) rfl rfl (by kernel_rfl) ?_
  refine WL.pure (v := vI 0) 5 rfl (Nat.le_of_ble_eq_true rfl) rfl rfl (by kernel_rfl) ?_
  refine WL.pure (v := vI 0) 6 rfl (Nat.le_of_ble_eq_true rfl) rfl rfl (by kernel_rfl) ?_
  refine WL.nil ?_
  refine WQ.then ?_
  refine hK2 _ _ _ ?_
  refine WC.seq fun K3 hK3 => ?_
  refine WC.seq fun K4 hK4 => ?_
  refine WC.region ?_
  refine WL.pure (v := vP t 0) 8 rfl (Nat.le_of_ble_eq_true rfl) rfl rfl (by kernel_rfl) ?_
  refine WL.call (f := 32) (args := #[vP t 0]) 9 rfl (Nat.le_of_ble_eq_true rfl) rfl rfl (by kernel_rfl) ?_
  refine (tnone_zero t _ (HP.old hH1 trivial hc)).mono ?_
  rintro e w5 ⟨rfl, hb6⟩
  refine ⟨_, rfl, ?_⟩
  have hH7 : HP Tr w _ [] := HP.call hH1 hb6
  refine WL.pure (v := .bool true) 10 rfl (Nat.le_of_ble_eq_true rfl) rfl rfl (by kernel_rfl) ?_
  refine WL.pass 11 rfl (Nat.le_of_ble_eq_true rfl) rfl ?_
  refine WL.pass 12 rfl (Nat.le_of_ble_eq_true rfl) rfl ?_
  refine WL.pass 13 rfl (Nat.le_of_ble_eq_true rfl) rfl ?_
  refine WL.pure (v := .bool true) 14 rfl (Nat.le_of_ble_eq_true rfl) rfl rfl (by kernel_rfl) ?_
  refine WL.nil ?_
  refine WQ.then ?_
  refine hK4 _ _ _ ?_
  refine WC.sub (l' := [(0, vP t 0), (1, vI a), (4, vI 0), (5, vI 0), (6, vI 0), (14, .bool true)]) ⟨rfl, rfl, rfl, rfl, rfl, rfl, trivial⟩ ?_
  refine WC.yes rfl ?_
  refine WC.seq fun K8 hK8 => ?_
  refine WC.region ?_
  refine WL.pure (v := vI 0) 4 rfl (Nat.le_of_ble_eq_true rfl) rfl rfl (by kernel_rfl) ?_
  refine WL.pure (v := vI 0) 5 rfl (Nat.le_of_ble_eq_true rfl) rfl rfl (by kernel_rfl) ?_
  refine WL.pure (v := vI 1) 6 rfl (Nat.le_of_ble_eq_true rfl) rfl rfl (by kernel_rfl) ?_
  refine WL.nil ?_
  refine WQ.then ?_
  refine hK8 _ _ _ ?_
  refine WC.ret ?_
  refine WQ.thenRet ?_
  refine WQ.ret3 4 5 6 rfl rfl rfl rfl ?_
  exact ⟨rfl, HP.below hH7⟩
set_option maxRecDepth 20000 in
set_option maxHeartbeats 4000000 in
theorem tdel_nil (a : Int) (w : World) :
    Calls Tryd.prog 16 #[.pointer none, vI a] w fun e w' => e = .returned (.tuple #[vI 0, vI 1]) ∧ Below w.heap.size w w' := by
  refine calls_of Tryd.func16 rfl (m := 114) rfl [(0, .pointer none), (1, vI a)] (Fr_enter [.pointer none, vI a] 114 (Nat.le_of_ble_eq_true rfl)) ?_
  have hH1 : HP Tr w w [] := HP.refl w
  refine WC.seq fun K2 hK2 => ?_
  refine WC.region ?_
  refine WL.pure (v := vI 0) 4 rfl (Nat.le_of_ble_eq_true rfl) rfl rfl (by kernel_rfl) ?_
  refine WL.pure (v := vI 0) 5 rfl (Nat.le_of_ble_eq_true rfl) rfl rfl (by kernel_rfl) ?_
  refine WL.nil ?_
  refine WQ.then ?_
  refine hK2 _ _ _ ?_
  refine WC.seq fun K3 hK3 => ?_
  refine WC.seq fun K4 hK4 => ?_
  refine WC.region ?_
  refine WL.pure (v := .pointer none) 13 rfl (Nat.le_of_ble_eq_true rfl) rfl rfl (by kernel_rfl) ?_
  refine WL.call (f := 32) (args := #[.pointer none]) 14 rfl (Nat.le_of_ble_eq_true rfl) rfl rfl (by kernel_rfl) ?_
  refine (tnone_nil _).mono ?_
  rintro e w5 ⟨rfl, hb6⟩
  refine ⟨_, rfl, ?_⟩
  have hH7 : HP Tr w _ [] := HP.call hH1 hb6
  refine WL.pure (v := .bool true) 15 rfl (Nat.le_of_ble_eq_true rfl) rfl rfl (by kernel_rfl) ?_
  refine WL.pass 16 rfl (Nat.le_of_ble_eq_true rfl) rfl ?_
  refine WL.pass 17 rfl (Nat.le_of_ble_eq_true rfl) rfl ?_
  refine WL.pass 18 rfl (Nat.le_of_ble_eq_true rfl) rfl ?_
  refine WL.pure (v := .bool true) 19 rfl (Nat.le_of_ble_eq_true rfl) rfl rfl (by kernel_rfl) ?_
  refine WL.nil ?_
  refine WQ.then ?_
  refine hK4 _ _ _ ?_
  refine WC.sub (l' := [(0, .pointer none), (1, vI a), (4, vI 0), (5, vI 0), (19, .bool true)]) ⟨rfl, rfl, rfl, rfl, rfl, trivial⟩ ?_
  refine WC.yes rfl ?_
  refine WC.seq fun K8 hK8 => ?_
  refine WC.region ?_
  refine WL.pure (v := vI 0) 4 rfl (Nat.le_of_ble_eq_true rfl) rfl rfl (by kernel_rfl) ?_
  refine WL.pure (v := vI 1) 5 rfl (Nat.le_of_ble_eq_true rfl) rfl rfl (by kernel_rfl) ?_
  refine WL.nil ?_
  refine WQ.then ?_
  refine hK8 _ _ _ ?_
  refine WC.ret ?_
  refine WQ.thenRet ?_
  refine WQ.ret2 4 5 rfl rfl rfl ?_
  exact ⟨rfl, HP.below hH7⟩
set_option maxRecDepth 20000 in
set_option maxHeartbeats 4000000 in
theorem tdel_zero (t : Nat) (a : Int) (w : World) (hc : w.cell? ⟨t, 0, none⟩ = some (.slice none 0 0)) :
    Calls Tryd.prog 16 #[vP t 0, vI a] w fun e w' => e = .returned (.tuple #[vI 0, vI 1]) ∧ Below w.heap.size w w' := by
  refine calls_of Tryd.func16 rfl (m := 114) rfl [(0, vP t 0), (1, vI a)] (Fr_enter [vP t 0, vI a] 114 (Nat.le_of_ble_eq_true rfl)) ?_
  have hH1 : HP Tr w w [] := HP.refl w
  refine WC.seq fun K2 hK2 => ?_
  refine WC.region ?_
  refine WL.pure (v := vI 0) 4 rfl (Nat.le_of_ble_eq_true rfl) rfl rfl (by kernel_rfl) ?_
  refine WL.pure (v := vI 0) 5 rfl (Nat.le_of_ble_eq_true rfl) rfl rfl (by kernel_rfl) ?_
  refine WL.nil ?_
  refine WQ.then ?_
  refine hK2 _ _ _ ?_
  refine WC.seq fun K3 hK3 => ?_
  refine WC.seq fun K4 hK4 => ?_
  refine WC.region ?_
  refine WL.pure (v := vP t 0) 13 rfl (Nat.le_of_ble_eq_true rfl) rfl rfl (by kernel_rfl) ?_
  refine WL.call (f := 32) (args := #[vP t 0]) 14 rfl (Nat.le_of_ble_eq_true rfl) rfl rfl (by kernel_rfl) ?_
  refine (tnone_zero t _ (HP.old hH1 trivial hc)).mono ?_
  rintro e w5 ⟨rfl, hb6⟩
  refine ⟨_, rfl, ?_⟩
  have hH7 : HP Tr w _ [] := HP.call hH1 hb6
  refine WL.pure (v := .bool true) 15 rfl (Nat.le_of_ble_eq_true rfl) rfl rfl (by kernel_rfl) ?_
  refine WL.pass 16 rfl (Nat.le_of_ble_eq_true rfl) rfl ?_
  refine WL.pass 17 rfl (Nat.le_of_ble_eq_true rfl) rfl ?_
  refine WL.pass 18 rfl (Nat.le_of_ble_eq_true rfl) rfl ?_
  refine WL.pure (v := .bool true) 19 rfl (Nat.le_of_ble_eq_true rfl) rfl rfl (by kernel_rfl) ?_
  refine WL.nil ?_
  refine WQ.then ?_
  refine hK4 _ _ _ ?_
  refine WC.sub (l' := [(0, vP t 0), (1, vI a), (4, vI 0), (5, vI 0), (19, .bool true)]) ⟨rfl, rfl, rfl, rfl, rfl, trivial⟩ ?_
  refine WC.yes rfl ?_
  refine WC.seq fun K8 hK8 => ?_
  refine WC.region ?_
  refine WL.pure (v := vI 0) 4 rfl (Nat.le_of_ble_eq_true rfl) rfl rfl (by kernel_rfl) ?_
  refine WL.pure (v := vI 1) 5 rfl (Nat.le_of_ble_eq_true rfl) rfl rfl (by kernel_rfl) ?_
  refine WL.nil ?_
  refine WQ.then ?_
  refine hK8 _ _ _ ?_
  refine WC.ret ?_
  refine WQ.thenRet ?_
  refine WQ.ret2 4 5 rfl rfl rfl ?_
  exact ⟨rfl, HP.below hH7⟩
set_option maxRecDepth 20000 in
set_option maxHeartbeats 4000000 in
theorem lpop_nil (f : Bool) (w : World) :
    Calls Tryd.prog 17 #[.pointer none, .bool f] w fun e w' => e = .returned (.tuple #[vI 0, vI 1]) ∧ Below w.heap.size w w' := by
  refine calls_of Tryd.func17 rfl (m := 49) rfl [(0, .pointer none), (1, .bool f)] (Fr_enter [.pointer none, .bool f] 49 (Nat.le_of_ble_eq_true rfl)) ?_
  have hH1 : HP Tr w w [] := HP.refl w
  refine WC.seq fun K2 hK2 => ?_
  refine WC.region ?_
  refine WL.pure (v := vI 0) 4 rfl (Nat.le_of_ble_eq_true rfl) rfl rfl (by kernel_rfl) ?_
  refine WL.pure (v := vI 0) 5 rfl (Nat.le_of_ble_eq_true rfl) rfl rfl (by kernel_rfl) ?_
  refine WL.nil ?_
  refine WQ.then ?_
  refine hK2 _ _ _ ?_
  refine WC.seq fun K3 hK3 => ?_
  refine WC.block ?_
  refine WC.seq fun K4 hK4 => ?_
  refine WC.region ?_
  refine WL.pure (v := .pointer none) 9 rfl (Nat.le_of_ble_eq_true rfl) rfl rfl (by kernel_rfl) ?_
  refine WL.call (f := 36) (args := #[.pointer none]) 10 rfl (Nat.le_of_ble_eq_true rfl) rfl rfl (by kernel_rfl) ?_
  refine (lnone_nil _).mono ?_
  rintro e w5 ⟨rfl, hb6⟩
  refine ⟨_, rfl, ?_⟩
  have hH7 : HP Tr w _ [] := HP.call hH1 hb6
  refine WL.pure (v := .bool true) 8 rfl (Nat.le_of_ble_eq_true rfl) rfl rfl (by kernel_rfl) ?_
  refine WL.nil ?_
  refine WQ.then ?_
  refine hK4 _ _ _ ?_
  refine WC.yes rfl ?_
  refine WC.seq fun K8 hK8 => ?_
  refine WC.region ?_
  refine WL.pure (v := vI 0) 4 rfl (Nat.le_of_ble_eq_true rfl) rfl rfl (by kernel_rfl) ?_
  refine WL.pure (v := vI 1) 5 rfl (Nat.le_of_ble_eq_true rfl) rfl rfl (by kernel_rfl) ?_
  refine WL.nil ?_
  refine WQ.then ?_
  refine hK8 _ _ _ ?_
  refine WC.ret ?_
  refine WQ.inRet ?_
  refine WQ.thenRet ?_
  refine WQ.ret2 4 5 rfl rfl rfl ?_
  exact ⟨rfl, HP.below hH7⟩
set_option maxRecDepth 20000 in
set_option maxHeartbeats 4000000 in
theorem lpop_zero (t : Nat) (f : Bool) (w : World) (hc : w.cell? ⟨t, 0, none⟩ = some (vI 0)) :
    Calls Tryd.prog 17 #[vP t 0, .bool f] w fun e w' => e = .returned (.tuple #[vI 0, vI 1]) ∧ Below w.heap.size w w' := by
  refine calls_of Tryd.func17 rfl (m := 49) rfl [(0, vP t 0), (1, .bool f)] (Fr_enter [vP t 0, .bool f] 49 (Nat.le_of_ble_eq_true rfl)) ?_
  have hH1 : HP Tr w w [] := HP.refl w
  refine WC.seq fun K2 hK2 => ?_
  refine WC.region ?_
  refine WL.pure (v := vI 0) 4 rfl (Nat.le_of_ble_eq_true rfl) rfl rfl (by kernel_rfl) ?_
  refine WL.pure (v := vI 0) 5 rfl (Nat.le_of_ble_eq_true rfl) rfl rfl (by kernel_rfl) ?_
  refine WL.nil ?_
  refine WQ.then ?_
  refine hK2 _ _ _ ?_
  refine WC.seq fun K3 hK3 => ?_
  refine WC.block ?_
  refine WC.seq fun K4 hK4 => ?_
  refine WC.region ?_
  refine WL.pure (v := vP t 0) 9 rfl (Nat.le_of_ble_eq_true rfl) rfl rfl (by kernel_rfl) ?_
  refine WL.call (f := 36) (args := #[vP t 0]) 10 rfl (Nat.le_of_ble_eq_true rfl) rfl rfl (by kernel_rfl) ?_
  refine (lnone_zero t _ (HP.old hH1 trivial hc)).mono ?_
  rintro e w5 ⟨rfl, hb6⟩
  refine ⟨_, rfl, ?_⟩
  have hH7 : HP Tr w _ [] := HP.call hH1 hb6
  refine WL.pure (v := .bool true) 8 rfl (Nat.le_of_ble_eq_true rfl) rfl rfl (by kernel_rfl) ?_
  refine WL.nil ?_
  refine WQ.then ?_
  refine hK4 _ _ _ ?_
  refine WC.yes rfl ?_
  refine WC.seq fun K8 hK8 => ?_
  refine WC.region ?_
  refine WL.pure (v := vI 0) 4 rfl (Nat.le_of_ble_eq_true rfl) rfl rfl (by kernel_rfl) ?_
  refine WL.pure (v := vI 1) 5 rfl (Nat.le_of_ble_eq_true rfl) rfl rfl (by kernel_rfl) ?_
  refine WL.nil ?_
  refine WQ.then ?_
  refine hK8 _ _ _ ?_
  refine WC.ret ?_
  refine WQ.inRet ?_
  refine WQ.thenRet ?_
  refine WQ.ret2 4 5 rfl rfl rfl ?_
  exact ⟨rfl, HP.below hH7⟩
set_option maxRecDepth 20000 in
set_option maxHeartbeats 4000000 in
theorem lat_nil (a : Int) (w : World) :
    Calls Tryd.prog 18 #[.pointer none, vI a] w fun e w' => e = .returned (.tuple #[vI 0, vI 1]) ∧ Below w.heap.size w w' := by
  refine calls_of Tryd.func18 rfl (m := 30) rfl [(0, .pointer none), (1, vI a)] (Fr_enter [.pointer none, vI a] 30 (Nat.le_of_ble_eq_true rfl)) ?_
  have hH1 : HP Tr w w [] := HP.refl w
  refine WC.seq fun K2 hK2 => ?_
  refine WC.region ?_
  refine WL.pure (v := vI 0) 4 rfl (Nat.le_of_ble_eq_true rfl) rfl rfl (by kernel_rfl) ?_
  refine WL.pure (v := vI 0) 5 rfl (Nat.le_of_ble_eq_true rfl) rfl rfl (by kernel_rfl) ?_
  refine WL.nil ?_
  refine WQ.then ?_
  refine hK2 _ _ _ ?_
  refine WC.seq fun K3 hK3 => ?_
  refine WC.block ?_
  refine WC.seq fun K4 hK4 => ?_
  refine WC.region ?_
  refine WL.pure (v := .pointer none) 7 rfl (Nat.le_of_ble_eq_true rfl) rfl rfl (by kernel_rfl) ?_
  refine WL.call (f := 36) (args := #[.pointer none]) 8 rfl (Nat.le_of_ble_eq_true rfl) rfl rfl (by kernel_rfl) ?_
  refine (lnone_nil _).mono ?_
  rintro e w5 ⟨rfl, hb6⟩
  refine ⟨_, rfl, ?_⟩
  have hH7 : HP Tr w _ [] := HP.call hH1 hb6
  refine WL.pure (v := .bool true) 6 rfl (Nat.le_of_ble_eq_true rfl) rfl rfl (by kernel_rfl) ?_
  refine WL.nil ?_
  refine WQ.then ?_
  refine hK4 _ _ _ ?_
  refine WC.yes rfl ?_
  refine WC.seq fun K8 hK8 => ?_
  refine WC.region ?_
  refine WL.pure (v := vI 0) 4 rfl (Nat.le_of_ble_eq_true rfl) rfl rfl (by kernel_rfl) ?_
  refine WL.pure (v := vI 1) 5 rfl (Nat.le_of_ble_eq_true rfl) rfl rfl (by kernel_rfl) ?_
  refine WL.nil ?_
  refine WQ.then ?_
  refine hK8 _ _ _ ?_
  refine WC.ret ?_
  refine WQ.inRet ?_
  refine WQ.thenRet ?_
  refine WQ.ret2 4 5 rfl rfl rfl ?_
  exact ⟨rfl, HP.below hH7⟩
set_option maxRecDepth 20000 in
set_option maxHeartbeats 4000000 in
theorem lat_zero (t : Nat) (a : Int) (w : World) (hc : w.cell? ⟨t, 0, none⟩ = some (vI 0)) :
    Calls Tryd.prog 18 #[vP t 0, vI a] w fun e w' => e = .returned (.tuple #[vI 0, vI 1]) ∧ Below w.heap.size w w' := by
  refine calls_of Tryd.func18 rfl (m := 30) rfl [(0, vP t 0), (1, vI a)] (Fr_enter [vP t 0, vI a] 30 (Nat.le_of_ble_eq_true rfl)) ?_
  have hH1 : HP Tr w w [] := HP.refl w
  refine WC.seq fun K2 hK2 => ?_
  refine WC.region ?_
  refine WL.pure (v := vI 0) 4 rfl (Nat.le_of_ble_eq_true rfl) rfl rfl (by kernel_rfl) ?_
  refine WL.pure (v := vI 0) 5 rfl (Nat.le_of_ble_eq_true rfl) rfl rfl (by kernel_rfl) ?_
  refine WL.nil ?_
  refine WQ.then ?_
  refine hK2 _ _ _ ?_
  refine WC.seq fun K3 hK3 => ?_
  refine WC.block ?_
  refine WC.seq fun K4 hK4 => ?_
  refine WC.region ?_
  refine WL.pure (v := vP t 0) 7 rfl (Nat.le_of_ble_eq_true rfl) rfl rfl (by kernel_rfl) ?_
  refine WL.call (f := 36) (args := #[vP t 0]) 8 rfl (Nat.le_of_ble_eq_true rfl) rfl rfl (by kernel_rfl) ?_
  refine (lnone_zero t _ (HP.old hH1 trivial hc)).mono ?_
  rintro e w5 ⟨rfl, hb6⟩
  refine ⟨_, rfl, ?_⟩
  have hH7 : HP Tr w _ [] := HP.call hH1 hb6
  refine WL.pure (v := .bool true) 6 rfl (Nat.le_of_ble_eq_true rfl) rfl rfl (by kernel_rfl) ?_
  refine WL.nil ?_
  refine WQ.then ?_
  refine hK4 _ _ _ ?_
  refine WC.yes rfl ?_
  refine WC.seq fun K8 hK8 => ?_
  refine WC.region ?_
  refine WL.pure (v := vI 0) 4 rfl (Nat.le_of_ble_eq_true rfl) rfl rfl (by kernel_rfl) ?_
  refine WL.pure (v := vI 1) 5 rfl (Nat.le_of_ble_eq_true rfl) rfl rfl (by kernel_rfl) ?_
  refine WL.nil ?_
  refine WQ.then ?_
  refine hK8 _ _ _ ?_
  refine WC.ret ?_
  refine WQ.inRet ?_
  refine WQ.thenRet ?_
  refine WQ.ret2 4 5 rfl rfl rfl ?_
  exact ⟨rfl, HP.below hH7⟩
set_option maxRecDepth 20000 in
set_option maxHeartbeats 4000000 in
theorem sins_nil (a : Int) (w : World) :
    Calls Tryd.prog 19 #[.pointer none, vI a] w fun e w' => e = .returned (.tuple #[vI 0, vI 1]) ∧ Below w.heap.size w w' := by
  refine calls_of Tryd.func19 rfl (m := 50) rfl [(0, .pointer none), (1, vI a)] (Fr_enter [.pointer none, vI a] 50 (Nat.le_of_ble_eq_true rfl)) ?_
  have hH1 : HP Tr w w [] := HP.refl w
  refine WC.seq fun K2 hK2 => ?_
  refine WC.region ?_
  refine WL.alloc (c := #[vI a]) (T := 3) hH1 3 rfl (by decide) rfl rfl (fun b3 => vP b3 0) (by kernel_rfl) (fun b3 w4 hw4 => ?_)
  have hH5 : HP Tr w w4 [.cel b3 #[vI a] 3] := hw4.2
  have nb3 := hw4.1
  clear hw4
  refine WL.pure (v := vI 0) 4 rfl (Nat.le_of_ble_eq_true rfl) rfl rfl (by kernel_rfl) ?_
  refine WL.pure (v := vI 0) 5 rfl (Nat.le_of_ble_eq_true rfl) rfl rfl (by kernel_rfl) ?_
  refine WL.nil ?_
  refine WQ.then ?_
  refine hK2 _ _ _ ?_
  refine WC.seq fun K6 hK6 => ?_
  refine WC.block ?_
  refine WC.seq fun K7 hK7 => ?_
  refine WC.region ?_
  refine WL.pure (v := .pointer none) 8 rfl (Nat.le_of_ble_eq_true rfl) rfl rfl (by kernel_rfl) ?_
  refine WL.call (f := 38) (args := #[.pointer none]) 9 rfl (Nat.le_of_ble_eq_true rfl) rfl rfl (by kernel_rfl) ?_
  refine (snone_nil _).mono ?_
  rintro e w8 ⟨rfl, hb9⟩
  refine ⟨_, rfl, ?_⟩
  have hH10 : HP Tr w _ [.cel b3 #[vI a] 3] := HP.call hH5 hb9
  refine WL.pure (v := .bool true) 10 rfl (Nat.le_of_ble_eq_true rfl) rfl rfl (by kernel_rfl) ?_
  refine WL.pass 11 rfl (Nat.le_of_ble_eq_true rfl) rfl ?_
  refine WL.pass 12 rfl (Nat.le_of_ble_eq_true rfl) rfl ?_
  refine WL.pass 13 rfl (Nat.le_of_ble_eq_true rfl) rfl ?_
  refine WL.pure (v := .bool true) 14 rfl (Nat.le_of_ble_eq_true rfl) rfl rfl (by kernel_rfl) ?_
  refine WL.pure (v := .bool true) 7 rfl (Nat.le_of_ble_eq_true rfl) rfl rfl (by kernel_rfl) ?_
  refine WL.nil ?_
  refine WQ.then ?_
  refine hK7 _ _ _ ?_
  refine WC.sub (l' := [(0, .pointer none), (1, vI a), (3, vP b3 0), (4, vI 0), (5, vI 0), (7, .bool true)]) ⟨rfl, rfl, rfl, rfl, rfl, rfl, trivial⟩ ?_
  refine WC.yes rfl ?_
  refine WC.seq fun K11 hK11 => ?_
  refine WC.region ?_
  refine WL.pure (v := vI 0) 4 rfl (Nat.le_of_ble_eq_true rfl) rfl rfl (by kernel_rfl) ?_
  refine WL.pure (v := vI 1) 5 rfl (Nat.le_of_ble_eq_true rfl) rfl rfl (by kernel_rfl) ?_
  refine WL.nil ?_
  refine WQ.then ?_
  refine hK11 _ _ _ ?_
  refine WC.ret ?_
  refine WQ.inRet ?_
  refine WQ.thenRet ?_
  refine WQ.ret2 4 5 rfl rfl rfl ?_
  exact ⟨rfl, HP.below hH10⟩
set_option maxRecDepth 20000 in
set_option maxHeartbeats 4000000 in
theorem sins_zero (t : Nat) (a : Int) (w : World) (hc : w.cell? ⟨t, 0, none⟩ = some (vI 0)) :
    Calls Tryd.prog 19 #[vP t 0, vI a] w fun e w' => e = .returned (.tuple #[vI 0, vI 1]) ∧ Below w.heap.size w w' := by
  refine calls_of Tryd.func19 rfl (m := 50) rfl [(0, vP t 0), (1, vI a)] (Fr_enter [vP t 0, vI a] 50 (Nat.le_of_ble_eq_true rfl)) ?_
  have hH1 : HP Tr w w [] := HP.refl w
  refine WC.seq fun K2 hK2 => ?_
  refine WC.region ?_
  refine WL.alloc (c := #[vI a]) (T := 3) hH1 3 rfl (by decide) rfl rfl (fun b3 => vP b3 0) (by kernel_rfl) (fun b3 w4 hw4 => ?_)
  have hH5 : HP Tr w w4 [.cel b3 #[vI a] 3] := hw4.2
  have nb3 := hw4.1
  clear hw4
  refine WL.pure (v := vI 0) 4 rfl (Nat.le_of_ble_eq_true rfl) rfl rfl (by kernel_rfl) ?_
  refine WL.pure (v := vI 0) 5 rfl (Nat.le_of_ble_eq_true rfl) rfl rfl (by kernel_rfl) ?_
  refine WL.nil ?_
  refine WQ.then ?_
  refine hK2 _ _ _ ?_
  refine WC.seq fun K6 hK6 => ?_
  refine WC.block ?_
  refine WC.seq fun K7 hK7 => ?_
  refine WC.region ?_
  refine WL.pure (v := vP t 0) 8 rfl (Nat.le_of_ble_eq_true rfl) rfl rfl (by kernel_rfl) ?_
  refine WL.call (f := 38) (args := #[vP t 0]) 9 rfl (Nat.le_of_ble_eq_true rfl) rfl rfl (by kernel_rfl) ?_
  refine (snone_zero t _ (HP.old hH5 trivial hc)).mono ?_
  rintro e w8 ⟨rfl, hb9⟩
  refine ⟨_, rfl, ?_⟩
  have hH10 : HP Tr w _ [.cel b3 #[vI a] 3] := HP.call hH5 hb9
  refine WL.pure (v := .bool true) 10 rfl (Nat.le_of_ble_eq_true rfl) rfl rfl (by kernel_rfl) ?_
  refine WL.pass 11 rfl (Nat.le_of_ble_eq_true rfl) rfl ?_
  refine WL.pass 12 rfl (Nat.le_of_ble_eq_true rfl) rfl ?_
  refine WL.pass 13 rfl (Nat.le_of_ble_eq_true rfl) rfl ?_
  refine WL.pure (v := .bool true) 14 rfl (Nat.le_of_ble_eq_true rfl) rfl rfl (by kernel_rfl) ?_
  refine WL.pure (v := .bool true) 7 rfl (Nat.le_of_ble_eq_true rfl) rfl rfl (by kernel_rfl) ?_
  refine WL.nil ?_
  refine WQ.then ?_
  refine hK7 _ _ _ ?_
  refine WC.sub (l' := [(0, vP t 0), (1, vI a), (3, vP b3 0), (4, vI 0), (5, vI 0), (7, .bool true)]) ⟨rfl, rfl, rfl, rfl, rfl, rfl, trivial⟩ ?_
  refine WC.yes rfl ?_
  refine WC.seq fun K11 hK11 => ?_
  refine WC.region ?_
  refine WL.pure (v := vI 0) 4 rfl (Nat.le_of_ble_eq_true rfl) rfl rfl (by kernel_rfl) ?_
  refine WL.pure (v := vI 1) 5 rfl (Nat.le_of_ble_eq_true rfl) rfl rfl (by kernel_rfl) ?_
  refine WL.nil ?_
  refine WQ.then ?_
  refine hK11 _ _ _ ?_
  refine WC.ret ?_
  refine WQ.inRet ?_
  refine WQ.thenRet ?_
  refine WQ.ret2 4 5 rfl rfl rfl ?_
  exact ⟨rfl, HP.below hH10⟩
set_option maxRecDepth 20000 in
set_option maxHeartbeats 4000000 in
theorem sfnd_nil (a : Int) (w : World) :
    Calls Tryd.prog 21 #[.pointer none, vI a] w fun e w' => e = .returned (.tuple #[vI 0, vI 0, vI 1]) ∧ Below w.heap.size w w' := by
  refine calls_of Tryd.func21 rfl (m := 43) rfl [(0, .pointer none), (1, vI a)] (Fr_enter [.pointer none, vI a] 43 (Nat.le_of_ble_eq_true rfl)) ?_
  have hH1 : HP Tr w w [] := HP.refl w
  refine WC.seq fun K2 hK2 => ?_
  refine WC.region ?_
  refine WL.alloc (c := #[vI a]) (T := 3) hH1 3 rfl (by decide) rfl rfl (fun b3 => vP b3 0) (by kernel_rfl) (fun b3 w4 hw4 => ?_)
  have hH5 : HP Tr w w4 [.cel b3 #[vI a] 3] := hw4.2
  have nb3 := hw4.1
  clear hw4
  refine WL.pure (v := vI 0) 4 rfl (Nat.le_of_ble_eq_true rfl) rfl rfl (by kernel_rfl) ?_
  refine WL.pure (v := vI 0) 5 rfl (Nat.le_of_ble_eq_true rfl) rfl rfl (by kernel_rfl) ?_
  refine WL.pure (v := vI 0) 6 rfl (Nat.le_of_ble_eq_true rfl) rfl rfl (by kernel_rfl) ?_
  refine WL.nil ?_
  refine WQ.then ?_
  refine hK2 _ _ _ ?_
  refine WC.seq fun K6 hK6 => ?_
  refine WC.seq fun K7 hK7 => ?_
  refine WC.region ?_
  refine WL.pure (v := .pointer none) 7 rfl (Nat.le_of_ble_eq_true rfl) rfl rfl (by kernel_rfl) ?_
  refine WL.call (f := 38) (args := #[.pointer none]) 8 rfl (Nat.le_of_ble_eq_true rfl) rfl rfl (by kernel_rfl) ?_
  refine (snone_nil _).mono ?_
  rintro e w8 ⟨rfl, hb9⟩
  refine ⟨_, rfl, ?_⟩
  have hH10 : HP Tr w _ [.cel b3 #[vI a] 3] := HP.call hH5 hb9
  refine WL.pure (v := .bool true) 9 rfl (Nat.le_of_ble_eq_true rfl) rfl rfl (by kernel_rfl) ?_
  refine WL.pass 10 rfl (Nat.le_of_ble_eq_true rfl) rfl ?_
  refine WL.pass 11 rfl (Nat.le_of_ble_eq_true rfl) rfl ?_
  refine WL.pass 12 rfl (Nat.le_of_ble_eq_true rfl) rfl ?_
  refine WL.pure (v := .bool true) 13 rfl (Nat.le_of_ble_eq_true rfl) rfl rfl (by kernel_rfl) ?_
  refine WL.nil ?_
  refine WQ.then ?_
  refine hK7 _ _ _ ?_
  refine WC.sub (l' := [(0, .pointer none), (1, vI a), (3, vP b3 0), (4, vI 0), (5, vI 0), (6, vI 0), (13, .bool true)]) ⟨rfl, rfl, rfl, rfl, rfl, rfl, rfl, trivial⟩ ?_
  refine WC.yes rfl ?_
  refine WC.seq fun K11 hK11 => ?_
  refine WC.region ?_
  refine WL.pure (v := vI 0) 4 rfl (Nat.le_of_ble_eq_true rfl) rfl rfl (by kernel_rfl) ?_
  refine WL.pure (v := vI 0) 5 rfl (Nat.le_of_ble_eq_true rfl) rfl rfl (by kernel_rfl) ?_
  refine WL.pure (v := vI 1) 6 rfl (Nat.le_of_ble_eq_true rfl) rfl rfl (by kernel_rfl) ?_
  refine WL.nil ?_
  refine WQ.then ?_
  refine hK11 _ _ _ ?_
  refine WC.ret ?_
  refine WQ.thenRet ?_
  refine WQ.ret3 4 5 6 rfl rfl rfl rfl ?_
  exact ⟨rfl, HP.below hH10⟩
set_option maxRecDepth 20000 in
set_option maxHeartbeats 4000000 in
theorem sfnd_zero (t : Nat) (a : Int) (w : World) (hc : w.cell? ⟨t, 0, none⟩ = some (vI 0)) :
    Calls Tryd.prog 21 #[vP t 0, vI a] w fun e w' => e = .returned (.tuple #[vI 0, vI 0, vI 1]) ∧ Below w.heap.size w w' := by
  refine calls_of Tryd.func21 rfl (m := 43) rfl [(0, vP t 0), (1, vI a)] (Fr_enter [vP t 0, vI a] 43 (Nat.le_of_ble_eq_true rfl)) ?_
  have hH1 : HP Tr w w [] := HP.refl w
  refine WC.seq fun K2 hK2 => ?_
  refine WC.region ?_
  refine WL.alloc (c := #[vI a]) (T := 3) hH1 3 rfl (by decide) rfl rfl (fun b3 => vP b3 0) (by kernel_rfl) (fun b3 w4 hw4 => ?_)
  have hH5 : HP Tr w w4 [.cel b3 #[vI a] 3] := hw4.2
  have nb3 := hw4.1
  clear hw4
  refine WL.pure (v := vI 0) 4 rfl (Nat.le_of_ble_eq_true rfl) rfl rfl (by kernel_rfl) ?_
  refine WL.pure (v := vI 0) 5 rfl (Nat.le_of_ble_eq_true rfl) rfl rfl (by kernel_rfl) ?_
  refine WL.pure (v := vI 0) 6 rfl (Nat.le_of_ble_eq_true rfl) rfl rfl (by kernel_rfl) ?_
  refine WL.nil ?_
  refine WQ.then ?_
  refine hK2 _ _ _ ?_
  refine WC.seq fun K6 hK6 => ?_
  refine WC.seq fun K7 hK7 => ?_
  refine WC.region ?_
  refine WL.pure (v := vP t 0) 7 rfl (Nat.le_of_ble_eq_true rfl) rfl rfl (by kernel_rfl) ?_
  refine WL.call (f := 38) (args := #[vP t 0]) 8 rfl (Nat.le_of_ble_eq_true rfl) rfl rfl (by kernel_rfl) ?_
  refine (snone_zero t _ (HP.old hH5 trivial hc)).mono ?_
  rintro e w8 ⟨rfl, hb9⟩
  refine ⟨_, rfl, ?_⟩
  have hH10 : HP Tr w _ [.cel b3 #[vI a] 3] := HP.call hH5 hb9
  refine WL.pure (v := .bool true) 9 rfl (Nat.le_of_ble_eq_true rfl) rfl rfl (by kernel_rfl) ?_
  refine WL.pass 10 rfl (Nat.le_of_ble_eq_true rfl) rfl ?_
  refine WL.pass 11 rfl (Nat.le_of_ble_eq_true rfl) rfl ?_
  refine WL.pass 12 rfl (Nat.le_of_ble_eq_true rfl) rfl ?_
  refine WL.pure (v := .bool true) 13 rfl (Nat.le_of_ble_eq_true rfl) rfl rfl (by kernel_rfl) ?_
  refine WL.nil ?_
  refine WQ.then ?_
  refine hK7 _ _ _ ?_
  refine WC.sub (l' := [(0, vP t 0), (1, vI a), (3, vP b3 0), (4, vI 0), (5, vI 0), (6, vI 0), (13, .bool true)]) ⟨rfl, rfl, rfl, rfl, rfl, rfl, rfl, trivial⟩ ?_
  refine WC.yes rfl ?_
  refine WC.seq fun K11 hK11 => ?_
  refine WC.region ?_
  refine WL.pure (v := vI 0) 4 rfl (Nat.le_of_ble_eq_true rfl) rfl rfl (by kernel_rfl) ?_
  refine WL.pure (v := vI 0) 5 rfl (Nat.le_of_ble_eq_true rfl) rfl rfl (by kernel_rfl) ?_
  refine WL.pure (v := vI 1) 6 rfl (Nat.le_of_ble_eq_true rfl) rfl rfl (by kernel_rfl) ?_
  refine WL.nil ?_
  refine WQ.then ?_
  refine hK11 _ _ _ ?_
  refine WC.ret ?_
  refine WQ.thenRet ?_
  refine WQ.ret3 4 5 6 rfl rfl rfl rfl ?_
  exact ⟨rfl, HP.below hH10⟩
set_option maxRecDepth 20000 in
set_option maxHeartbeats 4000000 in
theorem srem_nil (a : Int) (w : World) :
    Calls Tryd.prog 20 #[.pointer none, vI a] w fun e w' => e = .returned (.tuple #[vI 0, vI 1]) ∧ Below w.heap.size w w' := by
  refine calls_of Tryd.func20 rfl (m := 42) rfl [(0, .pointer none), (1, vI a)] (Fr_enter [.pointer none, vI a] 42 (Nat.le_of_ble_eq_true rfl)) ?_
  have hH1 : HP Tr w w [] := HP.refl w
  refine WC.seq fun K2 hK2 => ?_
  refine WC.region ?_
  refine WL.pure (v := vI 0) 4 rfl (Nat.le_of_ble_eq_true rfl) rfl rfl (by kernel_rfl) ?_
  refine WL.pure (v := vI 0) 5 rfl (Nat.le_of_ble_eq_true rfl) rfl rfl (by kernel_rfl) ?_
  refine WL.nil ?_
  refine WQ.then ?_
  refine hK2 _ _ _ ?_
  refine WC.seq fun K3 hK3 => ?_
  refine WC.region ?_
  refine WL.pure (v := .pointer none) 9 rfl (Nat.le_of_ble_eq_true rfl) rfl rfl (by kernel_rfl) ?_
  refine WL.pure (v := vI a) 10 rfl (Nat.le_of_ble_eq_true rfl) rfl rfl (by kernel_rfl) ?_
  refine WL.call (f := 21) (args := #[.pointer none, vI a]) 11 rfl (Nat.le_of_ble_eq_true rfl) rfl rfl (by kernel_rfl) ?_
  refine (sfnd_nil a _).mono ?_
  rintro e w4 ⟨rfl, hb5⟩
  refine ⟨_, rfl, ?_⟩
  have hH6 : HP Tr w _ [] := HP.call hH1 hb5
  refine WL.pure (v := .tuple #[vI 0, vI 0, vI 1]) 8 rfl (Nat.le_of_ble_eq_true rfl) rfl rfl (by kernel_rfl) ?_
  refine WL.pure (v := vI 0) 12 rfl (Nat.le_of_ble_eq_true rfl) rfl rfl (by kernel_rfl) ?_
  refine WL.pure (v := vI 0) 13 rfl (Nat.le_of_ble_eq_true rfl) rfl rfl (by kernel_rfl) ?_
  refine WL.pure (v := vI 1) 14 rfl (Nat.le_of_ble_eq_true rfl) rfl rfl (by kernel_rfl) ?_
  refine WL.pure (v := vI 0) 6 rfl (Nat.le_of_ble_eq_true rfl) rfl rfl (by kernel_rfl) ?_
  refine WL.pure (v := vI 0) 4 rfl (Nat.le_of_ble_eq_true rfl) rfl rfl (by kernel_rfl) ?_
  refine WL.pure (v := vI 1) 7 rfl (Nat.le_of_ble_eq_true rfl) rfl rfl (by kernel_rfl) ?_
  refine WL.nil ?_
  refine WQ.then ?_
  refine hK3 _ _ _ ?_
  refine WC.sub (l' := [(0, .pointer none), (1, vI a), (4, vI 0), (5, vI 0), (6, vI 0), (7, vI 1)]) ⟨rfl, rfl, rfl, rfl, rfl, rfl, trivial⟩ ?_
  refine WC.seq fun K7 hK7 => ?_
  refine WC.seq fun K8 hK8 => ?_
  refine WC.region ?_
  refine WL.pure (v := vI 1) 15 rfl (Nat.le_of_ble_eq_true rfl) rfl rfl (by kernel_rfl) ?_
  refine WL.pure (v := .bool true) 16 rfl (Nat.le_of_ble_eq_true rfl) rfl rfl (x_neq rfl rfl rfl (by decide)) ?_
  refine WL.nil ?_
  refine WQ.then ?_
  refine hK8 _ _ _ ?_
  refine WC.yes rfl ?_
  refine WC.seq fun K9 hK9 => ?_
  refine WC.region ?_
  refine WL.pure (v := vI 0) 17 rfl (Nat.le_of_ble_eq_true rfl) rfl rfl (by kernel_rfl) ?_
  refine WL.pure (v := vI 1) 18 rfl (Nat.le_of_ble_eq_true rfl) rfl rfl (by kernel_rfl) ?_
  refine WL.pure (v := vI 0) 4 rfl (Nat.le_of_ble_eq_true rfl) rfl rfl (by kernel_rfl) ?_
  refine WL.pure (v := vI 1) 5 rfl (Nat.le_of_ble_eq_true rfl) rfl rfl (by kernel_rfl) ?_
  refine WL.nil ?_
  refine WQ.then ?_
  refine hK9 _ _ _ ?_
  refine WC.ret ?_
  refine WQ.thenRet ?_
  refine WQ.ret2 4 5 rfl rfl rfl ?_
  exact ⟨rfl, HP.below hH6⟩
set_option maxRecDepth 20000 in
set_option maxHeartbeats 4000000 in
theorem srem_zero (t : Nat) (a : Int) (w : World) (hc : w.cell? ⟨t, 0, none⟩ = some (vI 0)) :
    Calls Tryd.prog 20 #[vP t 0, vI a] w fun e w' => e = .returned (.tuple #[vI 0, vI 1]) ∧ Below w.heap.size w w' := by
  refine calls_of Tryd.func20 rfl (m := 42) rfl [(0, vP t 0), (1, vI a)] (Fr_enter [vP t 0, vI a] 42 (Nat.le_of_ble_eq_true rfl)) ?_
  have hH1 : HP Tr w w [] := HP.refl w
  refine WC.seq fun K2 hK2 => ?_
  refine WC.region ?_
  refine WL.pure (v := vI 0) 4 rfl (Nat.le_of_ble_eq_true rfl) rfl rfl (by kernel_rfl) ?_
  refine WL.pure (v := vI 0) 5 rfl (Nat.le_of_ble_eq_true rfl) rfl rfl (by kernel_rfl) ?_
  refine WL.nil ?_
  refine WQ.then ?_
  refine hK2 _ _ _ ?_
  refine WC.seq fun K3 hK3 => ?_
  refine WC.region ?_
  refine WL.pure (v := vP t 0) 9 rfl (Nat.le_of_ble_eq_true rfl) rfl rfl (by kernel_rfl) ?_
  refine WL.pure (v := vI a) 10 rfl (Nat.le_of_ble_eq_true rfl) rfl rfl (by kernel_rfl) ?_
  refine WL.call (f := 21) (args := #[vP t 0, vI a]) 11 rfl (Nat.le_of_ble_eq_true rfl) rfl rfl (by kernel_rfl) ?_
  refine (sfnd_zero t a _ (HP.old hH1 trivial hc)).mono ?_
  rintro e w4 ⟨rfl, hb5⟩
  refine ⟨_, rfl, ?_⟩
  have hH6 : HP Tr w _ [] := HP.call hH1 hb5
  refine WL.pure (v := .tuple #[vI 0, vI 0, vI 1]) 8 rfl (Nat.le_of_ble_eq_true rfl) rfl rfl (by kernel_rfl) ?_
  refine WL.pure (v := vI 0) 12 rfl (Nat.le_of_ble_eq_true rfl) rfl rfl (by kernel_rfl) ?_
  refine WL.pure (v := vI 0) 13 rfl (Nat.le_of_ble_eq_true rfl) rfl rfl (by kernel_rfl) ?_
  refine WL.pure (v := vI 1) 14 rfl (Nat.le_of_ble_eq_true rfl) rfl rfl (by kernel_rfl) ?_
  refine WL.pure (v := vI 0) 6 rfl (Nat.le_of_ble_eq_true rfl) rfl rfl (by kernel_rfl) ?_
  refine WL.pure (v := vI 0) 4 rfl (Nat.le_of_ble_eq_true rfl) rfl rfl (by kernel_rfl) ?_
  refine WL.pure (v := vI 1) 7 rfl (Nat.le_of_ble_eq_true rfl) rfl rfl (by kernel_rfl) ?_
  refine WL.nil ?_
  refine WQ.then ?_
  refine hK3 _ _ _ ?_
  refine WC.sub (l' := [(0, vP t 0), (1, vI a), (4, vI 0), (5, vI 0), (6, vI 0), (7, vI 1)]) ⟨rfl, rfl, rfl, rfl, rfl, rfl, trivial⟩ ?_
  refine WC.seq fun K7 hK7 => ?_
  refine WC.seq fun K8 hK8 => ?_
  refine WC.region ?_
  refine WL.pure (v := vI 1) 15 rfl (Nat.le_of_ble_eq_true rfl) rfl rfl (by kernel_rfl) ?_
  refine WL.pure (v := .bool true) 16 rfl (Nat.le_of_ble_eq_true rfl) rfl rfl (x_neq rfl rfl rfl (by decide)) ?_
  refine WL.nil ?_
  refine WQ.then ?_
  refine hK8 _ _ _ ?_
  refine WC.yes rfl ?_
  refine WC.seq fun K9 hK9 => ?_
  refine WC.region ?_
  refine WL.pure (v := vI 0) 17 rfl (Nat.le_of_ble_eq_true rfl) rfl rfl (by kernel_rfl) ?_
  refine WL.pure (v := vI 1) 18 rfl (Nat.le_of_ble_eq_true rfl) rfl rfl (by kernel_rfl) ?_
  refine WL.pure (v := vI 0) 4 rfl (Nat.le_of_ble_eq_true rfl) rfl rfl (by kernel_rfl) ?_
  refine WL.pure (v := vI 1) 5 rfl (Nat.le_of_ble_eq_true rfl) rfl rfl (by kernel_rfl) ?_
  refine WL.nil ?_
  refine WQ.then ?_
  refine hK9 _ _ _ ?_
  refine WC.ret ?_
  refine WQ.thenRet ?_
  refine WQ.ret2 4 5 rfl rfl rfl ?_
  exact ⟨rfl, HP.below hH6⟩
set_option maxRecDepth 20000 in
set_option maxHeartbeats 4000000 in
theorem lpush_nil (a : Int) (f : Bool) (w : World) :
    Calls Tryd.prog 22 #[.pointer none, vI a, .bool f] w fun e w' => e = .returned (vI 1) ∧ Below w.heap.size w w' := by
  refine calls_of Tryd.func22 rfl (m := 46) rfl [(0, .pointer none), (1, vI a), (2, .bool f)] (Fr_enter [.pointer none, vI a, .bool f] 46 (Nat.le_of_ble_eq_true rfl)) ?_
  have hH1 : HP Tr w w [] := HP.refl w
  refine WC.seq fun K2 hK2 => ?_
  refine WC.region ?_
  refine WL.pure (v := vI 0) 6 rfl (Nat.le_of_ble_eq_true rfl) rfl rfl (by kernel_rfl) ?_
  refine WL.nil ?_
  refine WQ.then ?_
  refine hK2 _ _ _ ?_
  refine WC.seq fun K3 hK3 => ?_
  refine WC.block ?_
  refine WC.seq fun K4 hK4 => ?_
  refine WC.region ?_
  refine WL.pure (v := .pointer none) 20 rfl (Nat.le_of_ble_eq_true rfl) rfl rfl (by kernel_rfl) ?_
  refine WL.call (f := 36) (args := #[.pointer none]) 21 rfl (Nat.le_of_ble_eq_true rfl) rfl rfl (by kernel_rfl) ?_
  refine (lnone_nil _).mono ?_
  rintro e w5 ⟨rfl, hb6⟩
  refine ⟨_, rfl, ?_⟩
  have hH7 : HP Tr w _ [] := HP.call hH1 hb6
  refine WL.pure (v := .bool true) 22 rfl (Nat.le_of_ble_eq_true rfl) rfl rfl (by kernel_rfl) ?_
  refine WL.pass 23 rfl (Nat.le_of_ble_eq_true rfl) rfl ?_
  refine WL.pass 24 rfl (Nat.le_of_ble_eq_true rfl) rfl ?_
  refine WL.pass 25 rfl (Nat.le_of_ble_eq_true rfl) rfl ?_
  refine WL.pure (v := .bool true) 26 rfl (Nat.le_of_ble_eq_true rfl) rfl rfl (by kernel_rfl) ?_
  refine WL.pure (v := .bool true) 19 rfl (Nat.le_of_ble_eq_true rfl) rfl rfl (by kernel_rfl) ?_
  refine WL.nil ?_
  refine WQ.then ?_
  refine hK4 _ _ _ ?_
  refine WC.sub (l' := [(0, .pointer none), (1, vI a), (2, .bool f), (6, vI 0), (19, .bool true)]) ⟨rfl, rfl, rfl, rfl, rfl, trivial⟩ ?_
  refine WC.yes rfl ?_
  refine WC.seq fun K8 hK8 => ?_
  refine WC.region ?_
  refine WL.pure (v := vI 1) 6 rfl (Nat.le_of_ble_eq_true rfl) rfl rfl (by kernel_rfl) ?_
  refine WL.nil ?_
  refine WQ.then ?_
  refine hK8 _ _ _ ?_
  refine WC.ret ?_
  refine WQ.inRet ?_
  refine WQ.thenRet ?_
  refine WQ.ret1 6 rfl rfl ?_
  exact ⟨rfl, HP.below hH7⟩
set_option maxRecDepth 20000 in
set_option maxHeartbeats 4000000 in
theorem lpush_zero (t : Nat) (a : Int) (f : Bool) (w : World) (hc : w.cell? ⟨t, 0, none⟩ = some (vI 0)) :
    Calls Tryd.prog 22 #[vP t 0, vI a, .bool f] w fun e w' => e = .returned (vI 1) ∧ Below w.heap.size w w' := by
  refine calls_of Tryd.func22 rfl (m := 46) rfl [(0, vP t 0), (1, vI a), (2, .bool f)] (Fr_enter [vP t 0, vI a, .bool f] 46 (Nat.le_of_ble_eq_true rfl)) ?_
  have hH1 : HP Tr w w [] := HP.refl w
  refine WC.seq fun K2 hK2 => ?_
  refine WC.region ?_
  refine WL.pure (v := vI 0) 6 rfl (Nat.le_of_ble_eq_true rfl) rfl rfl (by kernel_rfl) ?_
  refine WL.nil ?_
  refine WQ.then ?_
  refine hK2 _ _ _ ?_
  refine WC.seq fun K3 hK3 => ?_
  refine WC.block ?_
  refine WC.seq fun K4 hK4 => ?_
  refine WC.region ?_
  refine WL.pure (v := vP t 0) 20 rfl (Nat.le_of_ble_eq_true rfl) rfl rfl (by kernel_rfl) ?_
  refine WL.call (f := 36) (args := #[vP t 0]) 21 rfl (Nat.le_of_ble_eq_true rfl) rfl rfl (by kernel_rfl) ?_
  refine (lnone_zero t _ (HP.old hH1 trivial hc)).mono ?_
  rintro e w5 ⟨rfl, hb6⟩
  refine ⟨_, rfl, ?_⟩
  have hH7 : HP Tr w _ [] := HP.call hH1 hb6
  refine WL.pure (v := .bool true) 22 rfl (Nat.le_of_ble_eq_true rfl) rfl rfl (by kernel_rfl) ?_
  refine WL.pass 23 rfl (Nat.le_of_ble_eq_true rfl) rfl ?_
  refine WL.pass 24 rfl (Nat.le_of_ble_eq_true rfl) rfl ?_
  refine WL.pass 25 rfl (Nat.le_of_ble_eq_true rfl) rfl ?_
  refine WL.pure (v := .bool true) 26 rfl (Nat.le_of_ble_eq_true rfl) rfl rfl (by kernel_rfl) ?_
  refine WL.pure (v := .bool true) 19 rfl (Nat.le_of_ble_eq_true rfl) rfl rfl (by kernel_rfl) ?_
  refine WL.nil ?_
  refine WQ.then ?_
  refine hK4 _ _ _ ?_
  refine WC.sub (l' := [(0, vP t 0), (1, vI a), (2, .bool f), (6, vI 0), (19, .bool true)]) ⟨rfl, rfl, rfl, rfl, rfl, trivial⟩ ?_
  refine WC.yes rfl ?_
  refine WC.seq fun K8 hK8 => ?_
  refine WC.region ?_
  refine WL.pure (v := vI 1) 6 rfl (Nat.le_of_ble_eq_true rfl) rfl rfl (by kernel_rfl) ?_
  refine WL.nil ?_
  refine WQ.then ?_
  refine hK8 _ _ _ ?_
  refine WC.ret ?_
  refine WQ.inRet ?_
  refine WQ.thenRet ?_
  refine WQ.ret1 6 rfl rfl ?_
  exact ⟨rfl, HP.below hH7⟩
set_option maxRecDepth 20000 in
set_option maxHeartbeats 4000000 in
theorem bwrite_nil (s : ByteArray) (w : World) :
    Calls Tryd.prog 7 #[.pointer none, .string s] w fun e w' => e = .returned (vI 1) ∧ Below w.heap.size w w' := by
  refine calls_of Tryd.func7 rfl (m := 31) rfl [(0, .pointer none), (1, .string s)] (Fr_enter [.pointer none, .string s] 31 (Nat.le_of_ble_eq_true rfl)) ?_
  have hH1 : HP Tr w w [] := HP.refl w
  refine WC.seq fun K2 hK2 => ?_
  refine WC.region ?_
  refine WL.pure (v := vI 0) 4 rfl (Nat.le_of_ble_eq_true rfl) rfl rfl (by kernel_rfl) ?_
  refine WL.nil ?_
  refine WQ.then ?_
  refine hK2 _ _ _ ?_
  refine WC.seq fun K3 hK3 => ?_
  refine WC.block ?_
  refine WC.seq fun K4 hK4 => ?_
  refine WC.region ?_
  refine WL.pure (v := .pointer none) 6 rfl (Nat.le_of_ble_eq_true rfl) rfl rfl (by kernel_rfl) ?_
  refine WL.call (f := 29) (args := #[.pointer none]) 7 rfl (Nat.le_of_ble_eq_true rfl) rfl rfl (by kernel_rfl) ?_
  refine (bnone_nil _).mono ?_
  rintro e w5 ⟨rfl, hb6⟩
  refine ⟨_, rfl, ?_⟩
  have hH7 : HP Tr w _ [] := HP.call hH1 hb6
  refine WL.pure (v := .bool true) 5 rfl (Nat.le_of_ble_eq_true rfl) rfl rfl (by kernel_rfl) ?_
  refine WL.nil ?_
  refine WQ.then ?_
  refine hK4 _ _ _ ?_
  refine WC.yes rfl ?_
  refine WC.seq fun K8 hK8 => ?_
  refine WC.region ?_
  refine WL.pure (v := vI 1) 4 rfl (Nat.le_of_ble_eq_true rfl) rfl rfl (by kernel_rfl) ?_
  refine WL.nil ?_
  refine WQ.then ?_
  refine hK8 _ _ _ ?_
  refine WC.ret ?_
  refine WQ.inRet ?_
  refine WQ.thenRet ?_
  refine WQ.ret1 4 rfl rfl ?_
  exact ⟨rfl, HP.below hH7⟩
set_option maxRecDepth 20000 in
set_option maxHeartbeats 4000000 in
theorem bwrite_zero (t : Nat) (s : ByteArray) (w : World) (hc : w.cell? ⟨t, 0, none⟩ = some (vI 0)) :
    Calls Tryd.prog 7 #[vP t 0, .string s] w fun e w' => e = .returned (vI 1) ∧ Below w.heap.size w w' := by
  refine calls_of Tryd.func7 rfl (m := 31) rfl [(0, vP t 0), (1, .string s)] (Fr_enter [vP t 0, .string s] 31 (Nat.le_of_ble_eq_true rfl)) ?_
  have hH1 : HP Tr w w [] := HP.refl w
  refine WC.seq fun K2 hK2 => ?_
  refine WC.region ?_
  refine WL.pure (v := vI 0) 4 rfl (Nat.le_of_ble_eq_true rfl) rfl rfl (by kernel_rfl) ?_
  refine WL.nil ?_
  refine WQ.then ?_
  refine hK2 _ _ _ ?_
  refine WC.seq fun K3 hK3 => ?_
  refine WC.block ?_
  refine WC.seq fun K4 hK4 => ?_
  refine WC.region ?_
  refine WL.pure (v := vP t 0) 6 rfl (Nat.le_of_ble_eq_true rfl) rfl rfl (by kernel_rfl) ?_
  refine WL.call (f := 29) (args := #[vP t 0]) 7 rfl (Nat.le_of_ble_eq_true rfl) rfl rfl (by kernel_rfl) ?_
  refine (bnone_zero t _ (HP.old hH1 trivial hc)).mono ?_
  rintro e w5 ⟨rfl, hb6⟩
  refine ⟨_, rfl, ?_⟩
  have hH7 : HP Tr w _ [] := HP.call hH1 hb6
  refine WL.pure (v := .bool true) 5 rfl (Nat.le_of_ble_eq_true rfl) rfl rfl (by kernel_rfl) ?_
  refine WL.nil ?_
  refine WQ.then ?_
  refine hK4 _ _ _ ?_
  refine WC.yes rfl ?_
  refine WC.seq fun K8 hK8 => ?_
  refine WC.region ?_
  refine WL.pure (v := vI 1) 4 rfl (Nat.le_of_ble_eq_true rfl) rfl rfl (by kernel_rfl) ?_
  refine WL.nil ?_
  refine WQ.then ?_
  refine hK8 _ _ _ ?_
  refine WC.ret ?_
  refine WQ.inRet ?_
  refine WQ.thenRet ?_
  refine WQ.ret1 4 rfl rfl ?_
  exact ⟨rfl, HP.below hH7⟩
set_option maxRecDepth 20000 in
set_option maxHeartbeats 4000000 in
theorem bint_nil (a : Int) (w : World) (h : -9223372036854775808 ≤ a ∧ a ≤ 9223372036854775807) (htab : Lib.TabIs Tryd.prog w "internal/strconv.uint64pow10" .u64 Lib.pow10Tab) :
    Calls Tryd.prog 9 #[.pointer none, vI a] w fun e w' => e = .returned (vI 1) ∧ Below w.heap.size w w' := by
  refine calls_of Tryd.func9 rfl (m := 9) rfl [(0, .pointer none), (1, vI a)] (Fr_enter [.pointer none, vI a] 9 (Nat.le_of_ble_eq_true rfl)) ?_
  have hH1 : HP Tr w w [] := HP.refl w
  refine WC.seq fun K2 hK2 => ?_
  refine WC.region ?_
  refine WL.pure (v := vI 0) 4 rfl (Nat.le_of_ble_eq_true rfl) rfl rfl (by kernel_rfl) ?_
  refine WL.nil ?_
  refine WQ.then ?_
  refine hK2 _ _ _ ?_
  refine WC.seq fun K3 hK3 => ?_
  refine WC.region ?_
  refine WL.pure (v := .pointer none) 5 rfl (Nat.le_of_ble_eq_true rfl) rfl rfl (by kernel_rfl) ?_
  refine WL.pure (v := vI a) 6 rfl (Nat.le_of_ble_eq_true rfl) rfl rfl (by kernel_rfl) ?_
  refine WL.call (f := 30) (args := #[vI a]) 7 rfl (Nat.le_of_ble_eq_true rfl) rfl rfl (by kernel_rfl) ?_
  refine (itoa_any a _ h htab).mono ?_
  rintro e w4 ⟨rfl, hb5⟩
  refine ⟨_, rfl, ?_⟩
  have hH6 : HP Tr w _ [] := HP.call hH1 hb5
  refine WL.call (f := 7) (args := #[.pointer none, .string (⟨(Lib.itoa a).toArray⟩)]) 8 rfl (Nat.le_of_ble_eq_true rfl) rfl rfl (by kernel_rfl) ?_
  refine (bwrite_nil _ _).mono ?_
  rintro e w7 ⟨rfl, hb8⟩
  refine ⟨_, rfl, ?_⟩
  have hH9 : HP Tr w _ [] := HP.call hH6 hb8
  refine WL.pure (v := vI 1) 4 rfl (Nat.le_of_ble_eq_true rfl) rfl rfl (by kernel_rfl) ?_
  refine WL.nil ?_
  refine WQ.then ?_
  refine hK3 _ _ _ ?_
  refine WC.ret ?_
  refine WQ.ret1 4 rfl rfl ?_
  exact ⟨rfl, HP.below hH9⟩
set_option maxRecDepth 20000 in
set_option maxHeartbeats 4000000 in
theorem bint_zero (t : Nat) (a : Int) (w : World) (hc : w.cell? ⟨t, 0, none⟩ = some (vI 0)) (h : -9223372036854775808 ≤ a ∧ a ≤ 9223372036854775807) (htab : Lib.TabIs Tryd.prog w "internal/strconv.uint64pow10" .u64 Lib.pow10Tab) :
    Calls Tryd.prog 9 #[vP t 0, vI a] w fun e w' => e = .returned (vI 1) ∧ Below w.heap.size w w' := by
  refine calls_of Tryd.func9 rfl (m := 9) rfl [(0, vP t 0), (1, vI a)] (Fr_enter [vP t 0, vI a] 9 (Nat.le_of_ble_eq_true rfl)) ?_
  have hH1 : HP Tr w w [] := HP.refl w
  refine WC.seq fun K2 hK2 => ?_
  refine WC.region ?_
  refine WL.pure (v := vI 0) 4 rfl (Nat.le_of_ble_eq_true rfl) rfl rfl (by kernel_rfl) ?_
  refine WL.nil ?_
  refine WQ.then ?_
  refine hK2 _ _ _ ?_
  refine WC.seq fun K3 hK3 => ?_
  refine WC.region ?_
  refine WL.pure (v := vP t 0) 5 rfl (Nat.le_of_ble_eq_true rfl) rfl rfl (by kernel_rfl) ?_
  refine WL.pure (v := vI a) 6 rfl (Nat.le_of_ble_eq_true rfl) rfl rfl (by kernel_rfl) ?_
  refine WL.call (f := 30) (args := #[vI a]) 7 rfl (Nat.le_of_ble_eq_true rfl) rfl rfl (by kernel_rfl) ?_
  refine (itoa_any a _ h htab).mono ?_
  rintro e w4 ⟨rfl, hb5⟩
  refine ⟨_, rfl, ?_⟩
  have hH6 : HP Tr w _ [] := HP.call hH1 hb5
  refine WL.call (f := 7) (args := #[vP t 0, .string (⟨(Lib.itoa a).toArray⟩)]) 8 rfl (Nat.le_of_ble_eq_true rfl) rfl rfl (by kernel_rfl) ?_
  refine (bwrite_zero t _ _ (HP.old hH6 trivial hc)).mono ?_
  rintro e w7 ⟨rfl, hb8⟩
  refine ⟨_, rfl, ?_⟩
  have hH9 : HP Tr w _ [] := HP.call hH6 hb8
  refine WL.pure (v := vI 1) 4 rfl (Nat.le_of_ble_eq_true rfl) rfl rfl (by kernel_rfl) ?_
  refine WL.nil ?_
  refine WQ.then ?_
  refine hK3 _ _ _ ?_
  refine WC.ret ?_
  refine WQ.ret1 4 rfl rfl ?_
  exact ⟨rfl, HP.below hH9⟩
set_option maxRecDepth 20000 in
set_option maxHeartbeats 4000000 in
theorem tcells_nil (w : World) :
    Calls Tryd.prog 24 #[.pointer none] w fun e w' => e = .returned (.slice none 0 0) ∧ Below w.heap.size w w' := by
  refine calls_of Tryd.func24 rfl (m := 33) rfl [(0, .pointer none)] (Fr_enter [.pointer none] 33 (Nat.le_of_ble_eq_true rfl)) ?_
  have hH1 : HP Tr w w [] := HP.refl w
  refine WC.seq fun K2 hK2 => ?_
  refine WC.region ?_
  refine WL.pure (v := .slice none 0 0) 2 rfl (Nat.le_of_ble_eq_true rfl) rfl rfl (by kernel_rfl) ?_
  refine WL.nil ?_
  refine WQ.then ?_
  refine hK2 _ _ _ ?_
  refine WC.seq fun K3 hK3 => ?_
  refine WC.seq fun K4 hK4 => ?_
  refine WC.region ?_
  refine WL.pure (v := .pointer none) 6 rfl (Nat.le_of_ble_eq_true rfl) rfl rfl (by kernel_rfl) ?_
  refine WL.call (f := 32) (args := #[.pointer none]) 7 rfl (Nat.le_of_ble_eq_true rfl) rfl rfl (by kernel_rfl) ?_
  refine (tnone_nil _).mono ?_
  rintro e w5 ⟨rfl, hb6⟩
  refine ⟨_, rfl, ?_⟩
  have hH7 : HP Tr w _ [] := HP.call hH1 hb6
  refine WL.nil ?_
  refine WQ.then ?_
  refine hK4 _ _ _ ?_
  refine WC.yes rfl ?_
  refine WC.seq fun K8 hK8 => ?_
  refine WC.region ?_
  refine WL.pure (v := .slice none 0 0) 2 rfl (Nat.le_of_ble_eq_true rfl) rfl rfl (by kernel_rfl) ?_
  refine WL.nil ?_
  refine WQ.then ?_
  refine hK8 _ _ _ ?_
  refine WC.ret ?_
  refine WQ.thenRet ?_
  refine WQ.ret1 2 rfl rfl ?_
  exact ⟨rfl, HP.below hH7⟩
set_option maxRecDepth 20000 in
set_option maxHeartbeats 4000000 in
theorem tcells_zero (t : Nat) (w : World) (hc : w.cell? ⟨t, 0, none⟩ = some (.slice none 0 0)) :
    Calls Tryd.prog 24 #[vP t 0] w fun e w' => e = .returned (.slice none 0 0) ∧ Below w.heap.size w w' := by
  refine calls_of Tryd.func24 rfl (m := 33) rfl [(0, vP t 0)] (Fr_enter [vP t 0] 33 (Nat.le_of_ble_eq_true rfl)) ?_
  have hH1 : HP Tr w w [] := HP.refl w
  refine WC.seq fun K2 hK2 => ?_
  refine WC.region ?_
  refine WL.pure (v := .slice none 0 0) 2 rfl (Nat.le_of_ble_eq_true rfl) rfl rfl (by kernel_rfl) ?_
  refine WL.nil ?_
  refine WQ.then ?_
  refine hK2 _ _ _ ?_
  refine WC.seq fun K3 hK3 => ?_
  refine WC.seq fun K4 hK4 => ?_
  refine WC.region ?_
  refine WL.pure (v := vP t 0) 6 rfl (Nat.le_of_ble_eq_true rfl) rfl rfl (by kernel_rfl) ?_
  refine WL.call (f := 32) (args := #[vP t 0]) 7 rfl (Nat.le_of_ble_eq_true rfl) rfl rfl (by kernel_rfl) ?_
  refine (tnone_zero t _ (HP.old hH1 trivial hc)).mono ?_
  rintro e w5 ⟨rfl, hb6⟩
  refine ⟨_, rfl, ?_⟩
  have hH7 : HP Tr w _ [] := HP.call hH1 hb6
  refine WL.nil ?_
  refine WQ.then ?_
  refine hK4 _ _ _ ?_
  refine WC.yes rfl ?_
  refine WC.seq fun K8 hK8 => ?_
  refine WC.region ?_
  refine WL.pure (v := .slice none 0 0) 2 rfl (Nat.le_of_ble_eq_true rfl) rfl rfl (by kernel_rfl) ?_
  refine WL.nil ?_
  refine WQ.then ?_
  refine hK8 _ _ _ ?_
  refine WC.ret ?_
  refine WQ.thenRet ?_
  refine WQ.ret1 2 rfl rfl ?_
  exact ⟨rfl, HP.below hH7⟩
set_option maxRecDepth 20000 in
set_option maxHeartbeats 4000000 in
theorem tlen_nil (w : World) :
    Calls Tryd.prog 23 #[.pointer none] w fun e w' => e = .returned (vI 0) ∧ Below w.heap.size w w' := by
  refine calls_of Tryd.func23 rfl (m := 19) rfl [(0, .pointer none)] (Fr_enter [.pointer none] 19 (Nat.le_of_ble_eq_true rfl)) ?_
  have hH1 : HP Tr w w [] := HP.refl w
  refine WC.seq fun K2 hK2 => ?_
  refine WC.region ?_
  refine WL.pure (v := vI 0) 2 rfl (Nat.le_of_ble_eq_true rfl) rfl rfl (by kernel_rfl) ?_
  refine WL.nil ?_
  refine WQ.then ?_
  refine hK2 _ _ _ ?_
  refine WC.seq fun K3 hK3 => ?_
  refine WC.region ?_
  refine WL.pure (v := vI 0) 3 rfl (Nat.le_of_ble_eq_true rfl) rfl rfl (by kernel_rfl) ?_
  refine WL.nil ?_
  refine WQ.then ?_
  refine hK3 _ _ _ ?_
  refine WC.seq fun K4 hK4 => ?_
  refine WC.seq fun K5 hK5 => ?_
  refine WC.region ?_
  refine WL.pure (v := .pointer none) 6 rfl (Nat.le_of_ble_eq_true rfl) rfl rfl (by kernel_rfl) ?_
  refine WL.call (f := 24) (args := #[.pointer none]) 7 rfl (Nat.le_of_ble_eq_true rfl) rfl rfl (by kernel_rfl) ?_
  refine (tcells_nil _).mono ?_
  rintro e w6 ⟨rfl, hb7⟩
  refine ⟨_, rfl, ?_⟩
  have hH8 : HP Tr w _ [] := HP.call hH1 hb7
  refine WL.pure (v := vI 0) 8 rfl (Nat.le_of_ble_eq_true rfl) rfl rfl (by kernel_rfl) ?_
  refine WL.pure (v := vI 0) 9 rfl (Nat.le_of_ble_eq_true rfl) rfl rfl (by kernel_rfl) ?_
  refine WL.nil ?_
  refine WQ.then ?_
  refine hK5 _ _ _ ?_
  refine WC.block ?_
  refine WC.loop (fun kk0 ll0 ww0 => ll0 = [(0, .pointer none), (3, vI 0), (7, .slice none 0 0), (8, vI 0), (9, vI 0)] ∧ kk0 = 0 ∧ HP Tr w ww0 []) (0) [(0, .pointer none), (3, vI 0), (7, .slice none 0 0), (8, vI 0), (9, vI 0)] ⟨rfl, rfl, rfl, rfl, rfl, trivial⟩ ⟨rfl, rfl, hH8⟩ ?_
  rintro kk l w10 ⟨rfl, hkk, hH11⟩ K9 hK9
  refine WC.seq fun K12 hK12 => ?_
  refine WC.region ?_
  refine WL.pure (v := .bool false) 10 rfl (Nat.le_of_ble_eq_true rfl) rfl rfl (x_lss rfl rfl rfl (by decide)) ?_
  refine WL.nil ?_
  refine WQ.then ?_
  refine hK12 _ _ _ ?_
  refine WC.seq fun K13 hK13 => ?_
  refine WC.no rfl ?_
  refine WC.exit ?_
  refine WQ.thenExit ?_
  refine WQ.thenExit ?_
  refine WQ.inExit ?_
  refine WQ.then ?_
  refine hK4 _ _ _ ?_
  refine WC.seq fun K14 hK14 => ?_
  refine WC.region ?_
  refine WL.pure (v := vI 0) 18 rfl (Nat.le_of_ble_eq_true rfl) rfl rfl (by kernel_rfl) ?_
  refine WL.pure (v := vI 0) 2 rfl (Nat.le_of_ble_eq_true rfl) rfl rfl (by kernel_rfl) ?_
  refine WL.nil ?_
  refine WQ.then ?_
  refine hK14 _ _ _ ?_
  refine WC.ret ?_
  refine WQ.ret1 2 rfl rfl ?_
  exact ⟨rfl, HP.below hH11⟩
set_option maxRecDepth 20000 in
set_option maxHeartbeats 4000000 in
theorem tlen_zero (t : Nat) (w : World) (hc : w.cell? ⟨t, 0, none⟩ = some (.slice none 0 0)) :
    Calls Tryd.prog 23 #[vP t 0] w fun e w' => e = .returned (vI 0) ∧ Below w.heap.size w w' := by
  refine calls_of Tryd.func23 rfl (m := 19) rfl [(0, vP t 0)] (Fr_enter [vP t 0] 19 (Nat.le_of_ble_eq_true rfl)) ?_
  have hH1 : HP Tr w w [] := HP.refl w
  refine WC.seq fun K2 hK2 => ?_
  refine WC.region ?_
  refine WL.pure (v := vI 0) 2 rfl (Nat.le_of_ble_eq_true rfl) rfl rfl (by kernel_rfl) ?_
  refine WL.nil ?_
  refine WQ.then ?_
  refine hK2 _ _ _ ?_
  refine WC.seq fun K3 hK3 => ?_
  refine WC.region ?_
  refine WL.pure (v := vI 0) 3 rfl (Nat.le_of_ble_eq_true rfl) rfl rfl (by kernel_rfl) ?_
  refine WL.nil ?_
  refine WQ.then ?_
  refine hK3 _ _ _ ?_
  refine WC.seq fun K4 hK4 => ?_
  refine WC.seq fun K5 hK5 => ?_
  refine WC.region ?_
  refine WL.pure (v := vP t 0) 6 rfl (Nat.le_of_ble_eq_true rfl) rfl rfl (by kernel_rfl) ?_
  refine WL.call (f := 24) (args := #[vP t 0]) 7 rfl (Nat.le_of_ble_eq_true rfl) rfl rfl (by kernel_rfl) ?_
  refine (tcells_zero t _ (HP.old hH1 trivial hc)).mono ?_
  rintro e w6 ⟨rfl, hb7⟩
  refine ⟨_, rfl, ?_⟩
  have hH8 : HP Tr w _ [] := HP.call hH1 hb7
  refine WL.pure (v := vI 0) 8 rfl (Nat.le_of_ble_eq_true rfl) rfl rfl (by kernel_rfl) ?_
  refine WL.pure (v := vI 0) 9 rfl (Nat.le_of_ble_eq_true rfl) rfl rfl (by kernel_rfl) ?_
  refine WL.nil ?_
  refine WQ.then ?_
  refine hK5 _ _ _ ?_
  refine WC.block ?_
  refine WC.loop (fun kk0 ll0 ww0 => ll0 = [(0, vP t 0), (3, vI 0), (7, .slice none 0 0), (8, vI 0), (9, vI 0)] ∧ kk0 = 0 ∧ HP Tr w ww0 []) (0) [(0, vP t 0), (3, vI 0), (7, .slice none 0 0), (8, vI 0), (9, vI 0)] ⟨rfl, rfl, rfl, rfl, rfl, trivial⟩ ⟨rfl, rfl, hH8⟩ ?_
  rintro kk l w10 ⟨rfl, hkk, hH11⟩ K9 hK9
  refine WC.seq fun K12 hK12 => ?_
  refine WC.region ?_
  refine WL.pure (v := .bool false) 10 rfl (Nat.le_of_ble_eq_true rfl) rfl rfl (x_lss rfl rfl rfl (by decide)) ?_
  refine WL.nil ?_
  refine WQ.then ?_
  refine hK12 _ _ _ ?_
  refine WC.seq fun K13 hK13 => ?_
  refine WC.no rfl ?_
  refine WC.exit ?_
  refine WQ.thenExit ?_
  refine WQ.thenExit ?_
  refine WQ.inExit ?_
  refine WQ.then ?_
  refine hK4 _ _ _ ?_
  refine WC.seq fun K14 hK14 => ?_
  refine WC.region ?_
  refine WL.pure (v := vI 0) 18 rfl (Nat.le_of_ble_eq_true rfl) rfl rfl (by kernel_rfl) ?_
  refine WL.pure (v := vI 0) 2 rfl (Nat.le_of_ble_eq_true rfl) rfl rfl (by kernel_rfl) ?_
  refine WL.nil ?_
  refine WQ.then ?_
  refine hK14 _ _ _ ?_
  refine WC.ret ?_
  refine WQ.ret1 2 rfl rfl ?_
  exact ⟨rfl, HP.below hH11⟩
set_option maxRecDepth 20000 in
set_option maxHeartbeats 4000000 in
theorem litems_nil (w : World) :
    Calls Tryd.prog 25 #[.pointer none] w fun e w' => e = .returned (.slice none 0 0) ∧ Below w.heap.size w w' := by
  refine calls_of Tryd.func25 rfl (m := 9) rfl [(0, .pointer none)] (Fr_enter [.pointer none] 9 (Nat.le_of_ble_eq_true rfl)) ?_
  have hH1 : HP Tr w w [] := HP.refl w
  refine WC.seq fun K2 hK2 => ?_
  refine WC.region ?_
  refine WL.pure (v := .slice none 0 0) 2 rfl (Nat.le_of_ble_eq_true rfl) rfl rfl (by kernel_rfl) ?_
  refine WL.nil ?_
  refine WQ.then ?_
  refine hK2 _ _ _ ?_
  refine WC.seq fun K3 hK3 => ?_
  refine WC.seq fun K4 hK4 => ?_
  refine WC.region ?_
  refine WL.pure (v := .pointer none) 3 rfl (Nat.le_of_ble_eq_true rfl) rfl rfl (by kernel_rfl) ?_
  refine WL.call (f := 36) (args := #[.pointer none]) 4 rfl (Nat.le_of_ble_eq_true rfl) rfl rfl (by kernel_rfl) ?_
  refine (lnone_nil _).mono ?_
  rintro e w5 ⟨rfl, hb6⟩
  refine ⟨_, rfl, ?_⟩
  have hH7 : HP Tr w _ [] := HP.call hH1 hb6
  refine WL.nil ?_
  refine WQ.then ?_
  refine hK4 _ _ _ ?_
  refine WC.yes rfl ?_
  refine WC.seq fun K8 hK8 => ?_
  refine WC.region ?_
  refine WL.pure (v := .slice none 0 0) 2 rfl (Nat.le_of_ble_eq_true rfl) rfl rfl (by kernel_rfl) ?_
  refine WL.nil ?_
  refine WQ.then ?_
  refine hK8 _ _ _ ?_
  refine WC.ret ?_
  refine WQ.thenRet ?_
  refine WQ.ret1 2 rfl rfl ?_
  exact ⟨rfl, HP.below hH7⟩
set_option maxRecDepth 20000 in
set_option maxHeartbeats 4000000 in
theorem litems_zero (t : Nat) (w : World) (hc : w.cell? ⟨t, 0, none⟩ = some (vI 0)) :
    Calls Tryd.prog 25 #[vP t 0] w fun e w' => e = .returned (.slice none 0 0) ∧ Below w.heap.size w w' := by
  refine calls_of Tryd.func25 rfl (m := 9) rfl [(0, vP t 0)] (Fr_enter [vP t 0] 9 (Nat.le_of_ble_eq_true rfl)) ?_
  have hH1 : HP Tr w w [] := HP.refl w
  refine WC.seq fun K2 hK2 => ?_
  refine WC.region ?_
  refine WL.pure (v := .slice none 0 0) 2 rfl (Nat.le_of_ble_eq_true rfl) rfl rfl (by kernel_rfl) ?_
  refine WL.nil ?_
  refine WQ.then ?_
  refine hK2 _ _ _ ?_
  refine WC.seq fun K3 hK3 => ?_
  refine WC.seq fun K4 hK4 => ?_
  refine WC.region ?_
  refine WL.pure (v := vP t 0) 3 rfl (Nat.le_of_ble_eq_true rfl) rfl rfl (by kernel_rfl) ?_
  refine WL.call (f := 36) (args := #[vP t 0]) 4 rfl (Nat.le_of_ble_eq_true rfl) rfl rfl (by kernel_rfl) ?_
  refine (lnone_zero t _ (HP.old hH1 trivial hc)).mono ?_
  rintro e w5 ⟨rfl, hb6⟩
  refine ⟨_, rfl, ?_⟩
  have hH7 : HP Tr w _ [] := HP.call hH1 hb6
  refine WL.nil ?_
  refine WQ.then ?_
  refine hK4 _ _ _ ?_
  refine WC.yes rfl ?_
  refine WC.seq fun K8 hK8 => ?_
  refine WC.region ?_
  refine WL.pure (v := .slice none 0 0) 2 rfl (Nat.le_of_ble_eq_true rfl) rfl rfl (by kernel_rfl) ?_
  refine WL.nil ?_
  refine WQ.then ?_
  refine hK8 _ _ _ ?_
  refine WC.ret ?_
  refine WQ.thenRet ?_
  refine WQ.ret1 2 rfl rfl ?_
  exact ⟨rfl, HP.below hH7⟩
set_option maxRecDepth 20000 in
set_option maxHeartbeats 4000000 in
theorem sitems_nil (w : World) :
    Calls Tryd.prog 26 #[.pointer none] w fun e w' => e = .returned (.slice none 0 0) ∧ Below w.heap.size w w' := by
  refine calls_of Tryd.func26 rfl (m := 9) rfl [(0, .pointer none)] (Fr_enter [.pointer none] 9 (Nat.le_of_ble_eq_true rfl)) ?_
  have hH1 : HP Tr w w [] := HP.refl w
  refine WC.seq fun K2 hK2 => ?_
  refine WC.region ?_
  refine WL.pure (v := .slice none 0 0) 2 rfl (Nat.le_of_ble_eq_true rfl) rfl rfl (by kernel_rfl) ?_
  refine WL.nil ?_
  refine WQ.then ?_
  refine hK2 _ _ _ ?_
  refine WC.seq fun K3 hK3 => ?_
  refine WC.seq fun K4 hK4 => ?_
  refine WC.region ?_
  refine WL.pure (v := .pointer none) 3 rfl (Nat.le_of_ble_eq_true rfl) rfl rfl (by kernel_rfl) ?_
  refine WL.call (f := 38) (args := #[.pointer none]) 4 rfl (Nat.le_of_ble_eq_true rfl) rfl rfl (by kernel_rfl) ?_
  refine (snone_nil _).mono ?_
  rintro e w5 ⟨rfl, hb6⟩
  refine ⟨_, rfl, ?_⟩
  have hH7 : HP Tr w _ [] := HP.call hH1 hb6
  refine WL.nil ?_
  refine WQ.then ?_
  refine hK4 _ _ _ ?_
  refine WC.yes rfl ?_
  refine WC.seq fun K8 hK8 => ?_
  refine WC.region ?_
  refine WL.pure (v := .slice none 0 0) 2 rfl (Nat.le_of_ble_eq_true rfl) rfl rfl (by kernel_rfl) ?_
  refine WL.nil ?_
  refine WQ.then ?_
  refine hK8 _ _ _ ?_
  refine WC.ret ?_
  refine WQ.thenRet ?_
  refine WQ.ret1 2 rfl rfl ?_
  exact ⟨rfl, HP.below hH7⟩
set_option maxRecDepth 20000 in
set_option maxHeartbeats 4000000 in
theorem sitems_zero (t : Nat) (w : World) (hc : w.cell? ⟨t, 0, none⟩ = some (vI 0)) :
    Calls Tryd.prog 26 #[vP t 0] w fun e w' => e = .returned (.slice none 0 0) ∧ Below w.heap.size w w' := by
  refine calls_of Tryd.func26 rfl (m := 9) rfl [(0, vP t 0)] (Fr_enter [vP t 0] 9 (Nat.le_of_ble_eq_true rfl)) ?_
  have hH1 : HP Tr w w [] := HP.refl w
  refine WC.seq fun K2 hK2 => ?_
  refine WC.region ?_
  refine WL.pure (v := .slice none 0 0) 2 rfl (Nat.le_of_ble_eq_true rfl) rfl rfl (by kernel_rfl) ?_
  refine WL.nil ?_
  refine WQ.then ?_
  refine hK2 _ _ _ ?_
  refine WC.seq fun K3 hK3 => ?_
  refine WC.seq fun K4 hK4 => ?_
  refine WC.region ?_
  refine WL.pure (v := vP t 0) 3 rfl (Nat.le_of_ble_eq_true rfl) rfl rfl (by kernel_rfl) ?_
  refine WL.call (f := 38) (args := #[vP t 0]) 4 rfl (Nat.le_of_ble_eq_true rfl) rfl rfl (by kernel_rfl) ?_
  refine (snone_zero t _ (HP.old hH1 trivial hc)).mono ?_
  rintro e w5 ⟨rfl, hb6⟩
  refine ⟨_, rfl, ?_⟩
  have hH7 : HP Tr w _ [] := HP.call hH1 hb6
  refine WL.nil ?_
  refine WQ.then ?_
  refine hK4 _ _ _ ?_
  refine WC.yes rfl ?_
  refine WC.seq fun K8 hK8 => ?_
  refine WC.region ?_
  refine WL.pure (v := .slice none 0 0) 2 rfl (Nat.le_of_ble_eq_true rfl) rfl rfl (by kernel_rfl) ?_
  refine WL.nil ?_
  refine WQ.then ?_
  refine hK8 _ _ _ ?_
  refine WC.ret ?_
  refine WQ.thenRet ?_
  refine WQ.ret1 2 rfl rfl ?_
  exact ⟨rfl, HP.below hH7⟩
set_option maxRecDepth 20000 in
set_option maxHeartbeats 4000000 in
theorem btext_nil (w : World) :
    Calls Tryd.prog 11 #[.pointer none] w fun e w' => e = .returned (.string (⟨#[]⟩)) ∧ Below w.heap.size w w' := by
  refine calls_of Tryd.func11 rfl (m := 10) rfl [(0, .pointer none)] (Fr_enter [.pointer none] 10 (Nat.le_of_ble_eq_true rfl)) ?_
  have hH1 : HP Tr w w [] := HP.refl w
  refine WC.seq fun K2 hK2 => ?_
  refine WC.region ?_
  refine WL.pure (v := .string (⟨#[]⟩)) 2 rfl (Nat.le_of_ble_eq_true rfl) rfl rfl (by kernel_rfl) ?_
  refine WL.nil ?_
  refine WQ.then ?_
  refine hK2 _ _ _ ?_
  refine WC.seq fun K3 hK3 => ?_
  refine WC.seq fun K4 hK4 => ?_
  refine WC.region ?_
  refine WL.pure (v := .pointer none) 3 rfl (Nat.le_of_ble_eq_true rfl) rfl rfl (by kernel_rfl) ?_
  refine WL.call (f := 29) (args := #[.pointer none]) 4 rfl (Nat.le_of_ble_eq_true rfl) rfl rfl (by kernel_rfl) ?_
  refine (bnone_nil _).mono ?_
  rintro e w5 ⟨rfl, hb6⟩
  refine ⟨_, rfl, ?_⟩
  have hH7 : HP Tr w _ [] := HP.call hH1 hb6
  refine WL.nil ?_
  refine WQ.then ?_
  refine hK4 _ _ _ ?_
  refine WC.yes rfl ?_
  refine WC.seq fun K8 hK8 => ?_
  refine WC.region ?_
  refine WL.pure (v := .string (⟨#[]⟩)) 2 rfl (Nat.le_of_ble_eq_true rfl) rfl rfl (by kernel_rfl) ?_
  refine WL.nil ?_
  refine WQ.then ?_
  refine hK8 _ _ _ ?_
  refine WC.ret ?_
  refine WQ.thenRet ?_
  refine WQ.ret1 2 rfl rfl ?_
  exact ⟨rfl, HP.below hH7⟩
set_option maxRecDepth 20000 in
set_option maxHeartbeats 4000000 in
theorem btext_zero (t : Nat) (w : World) (hc : w.cell? ⟨t, 0, none⟩ = some (vI 0)) :
    Calls Tryd.prog 11 #[vP t 0] w fun e w' => e = .returned (.string (⟨#[]⟩)) ∧ Below w.heap.size w w' := by
  refine calls_of Tryd.func11 rfl (m := 10) rfl [(0, vP t 0)] (Fr_enter [vP t 0] 10 (Nat.le_of_ble_eq_true rfl)) ?_
  have hH1 : HP Tr w w [] := HP.refl w
  refine WC.seq fun K2 hK2 => ?_
  refine WC.region ?_
  refine WL.pure (v := .string (⟨#[]⟩)) 2 rfl (Nat.le_of_ble_eq_true rfl) rfl rfl (by kernel_rfl) ?_
  refine WL.nil ?_
  refine WQ.then ?_
  refine hK2 _ _ _ ?_
  refine WC.seq fun K3 hK3 => ?_
  refine WC.seq fun K4 hK4 => ?_
  refine WC.region ?_
  refine WL.pure (v := vP t 0) 3 rfl (Nat.le_of_ble_eq_true rfl) rfl rfl (by kernel_rfl) ?_
  refine WL.call (f := 29) (args := #[vP t 0]) 4 rfl (Nat.le_of_ble_eq_true rfl) rfl rfl (by kernel_rfl) ?_
  refine (bnone_zero t _ (HP.old hH1 trivial hc)).mono ?_
  rintro e w5 ⟨rfl, hb6⟩
  refine ⟨_, rfl, ?_⟩
  have hH7 : HP Tr w _ [] := HP.call hH1 hb6
  refine WL.nil ?_
  refine WQ.then ?_
  refine hK4 _ _ _ ?_
  refine WC.yes rfl ?_
  refine WC.seq fun K8 hK8 => ?_
  refine WC.region ?_
  refine WL.pure (v := .string (⟨#[]⟩)) 2 rfl (Nat.le_of_ble_eq_true rfl) rfl rfl (by kernel_rfl) ?_
  refine WL.nil ?_
  refine WQ.then ?_
  refine hK8 _ _ _ ?_
  refine WC.ret ?_
  refine WQ.thenRet ?_
  refine WQ.ret1 2 rfl rfl ?_
  exact ⟨rfl, HP.below hH7⟩
end Ln
end Go.Proofs.YtgdfbpphfanocaaDoor
