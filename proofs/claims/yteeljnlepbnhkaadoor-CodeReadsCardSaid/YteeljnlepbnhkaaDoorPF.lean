/- Text of both. -/
import Derived.Test.YteeljnlepbnhkaaDoorPE
import Derived.Test.YteeljnlepbnhkaaDoorFG
set_option linter.unusedVariables false
set_option linter.unusedSimpArgs false
namespace Go.Proofs.YteeljnlepbnhkaaDoor
open Go.RowKit Fw
namespace Cw
open Qa Go.Lib Ec
/-- the name of an operation, by its bytes -/
def nmL (k : Nat) : List UInt8 := (sp k).n.data.toList
theorem nmL_bS (k : Nat) : (sp k).n = bS (nmL k) := rfl
theorem known2_any (c : Int) (h : 0 ≤ c ∧ c < 36) (w : World) :
    Calls Tryd.prog 15 #[vI c] w fun e w' => e = .returned (.tuple #[.agg #[.string (bS (nmL c.toNat)), vI (sp c.toNat).a, vI (sp c.toNat).b, vI (sp c.toNat).c], .bool true]) ∧ Below w.heap.size w w' := by
  obtain ⟨k, rfl⟩ : ∃ k : Nat, c = (k : Int) := ⟨c.toNat, by omega⟩
  rw [Int.toNat_natCast]
  exact known_ok k (by omega) w
theorem repeat_any (d : Int) (w : World) (h : 0 ≤ d ∧ d ≤ 6) :
    Calls Tryd.prog 17 #[.string (bS [32, 32]), vI d] w fun e w' => e = .returned (.string (bS (Lib.repeatL [32, 32] d.toNat))) ∧ Below w.heap.size w w' := by
  obtain ⟨k, rfl⟩ : ∃ k : Nat, d = (k : Int) := ⟨d.toNat, by omega⟩
  rw [Int.toNat_natCast]
  exact Tryd.strings_Repeat (bS [32, 32]) k w (by omega) (by show 2 * k ≤ _; omega)
theorem rep_len (d : Nat) : (Lib.repeatL [32, 32] d).length = 2 * d := by
  induction d with
  | zero => rfl
  | succ d ih => rw [show Lib.repeatL [32, 32] (d + 1) = [32, 32] ++ Lib.repeatL [32, 32] d from rfl, List.length_append, ih]; simp; omega
theorem string_any {w w1 : World} {H : List Ent} {b : Nat} {a0 : Value} {pv : Option Addr} {cp : Nat} {l : List UInt8} (hH : HP Tr w w1 H) (h0 : H[0]? = some (.cel b #[a0, .slice pv l.length cp] 42)) (h1 : H[1]? = some (.own (.slice pv l.length cp) l.length (bC l) 5 1)) (ha0 : a0 = .pointer none ∨ a0 = .pointer (some ⟨b, 0, none⟩)) :
    Calls Tryd.prog 19 #[vP b 0] w1 fun e w' => e = .returned (.string (bS l)) ∧ Below w.heap.size w w' := by
  have hC : w1.heap[b]? = some (.cells #[a0, .slice pv l.length cp] 42 (0, 0)) := HP.get hH 0 h0
  have hO : w1.ownsRow 0 5 1 (.slice pv l.length cp) l.length (bC l) := HP.get hH 1 h1
  have hbb : w.heap.size ≤ b := HP.new hH 0 h0 rfl
  have hne : (Value.slice pv l.length cp).ownBlock ≠ some b := fun q => by
    have hp := List.pairwise_iff_getElem.1 hH.apart 0 1 (List.getElem?_eq_some_iff.1 h0).1 (List.getElem?_eq_some_iff.1 h1).1 (by omega)
    rw [(List.getElem?_eq_some_iff.1 h0).2, (List.getElem?_eq_some_iff.1 h1).2] at hp
    exact hp b rfl q
  have hO2 : w1.ownsRow w.heap.size 5 1 (.slice pv l.length cp) l.length (bC l) := by
    refine ⟨hO.1, ?_⟩
    rcases hO.2 with h | ⟨g, cap, cur, hv, _, hr⟩
    · exact .inl h
    · exact .inr ⟨g, cap, cur, hv, HP.new hH 1 h1 (show (Value.slice pv l.length cp).ownBlock = some g by rw [hv]; rfl), hr⟩
  have hl : (Lib.byteCells l).length = l.length := by simp [Lib.byteCells]
  have hB : Lib.BuilderAt 42 5 w.heap.size b a0 (Lib.byteCells l) w1 := ⟨hbb, _, hC, by rw [hl]; exact hO2, hne⟩
  refine (Tryd.Builder_String_any w.heap.size b l w1 ?_ hH.size).mono fun e w' h => ⟨h.1, (HP.below hH).trans h.2⟩
  rcases ha0 with rfl | rfl
  · exact .inl hB
  · exact .inr hB
theorem rep_snoc (d : Nat) : Lib.repeatL [32, 32] (d + 1) = Lib.repeatL [32, 32] d ++ [32, 32] := by
  induction d with
  | zero => rfl
  | succ d ih =>
    show [32, 32] ++ Lib.repeatL [32, 32] (d + 1) = ([32, 32] ++ Lib.repeatL [32, 32] d) ++ [32, 32]
    rw [ih, List.append_assoc]
theorem opd_ab {k : Nat} (h : (sp k).b = 0 ∨ (sp k).a ≠ 0) : (0 < opd k ↔ (sp k).a ≠ 0) ∧ (1 < opd k ↔ (sp k).b ≠ 0) := by
  unfold opd
  by_cases hb : (sp k).b = 0
  · by_cases ha : (sp k).a = 0
    · simp [hb, ha]
    · simp [hb, ha]
  · rcases h with h | h
    · exact absurd h hb
    · simp [hb, h]
/-- what Text writes -/
def txP (c A B : Nat → Int) (n : Nat) : List UInt8 := if chk c A B false n = 0 then txV c A B (shD c n).t n else []
theorem allV_at {c A B : Nat → Int} {pl : Bool} {n k : Nat} (h : allV c A B pl n = true) (hk : k < n) : vld (c k) (A k) (B k) pl = true := allV_spec.1 h k hk
set_option maxRecDepth 20000 in
set_option maxHeartbeats 4000000 in
theorem rDepths_big (p : Option Addr) (n cap : Nat) (c A B : Nat → Int) (w : World) (hn : 120 < n) :
    Calls Tryd.prog 20 #[.slice p n cap] w (DepR w c A B n) := by
  refine calls_of Tryd.func20 rfl (m := 56) rfl [(0, .slice p n cap)] (Fr_enter [.slice p n cap] 56 (Nat.le_of_ble_eq_true rfl)) ?_
  have hH1 : HP Tr w w [] := HP.refl w
  refine WC.seq fun K2 hK2 => ?_
  refine WC.region ?_
  refine WL.pure (v := .slice none 0 0) 2 rfl (Nat.le_of_ble_eq_true rfl) rfl rfl (by kernel_rfl) ?_
  refine WL.pure (v := vI 0) 3 rfl (Nat.le_of_ble_eq_true rfl) rfl rfl (by kernel_rfl) ?_
  refine WL.nil ?_
  refine WQ.then ?_
  refine hK2 _ _ _ ?_
  refine WC.seq fun K3 hK3 => ?_
  refine WC.region ?_
  refine WL.pure (v := .slice p n cap) 11 rfl (Nat.le_of_ble_eq_true rfl) rfl rfl (by kernel_rfl) ?_
  have hch : chk c A B false n = 2 := by unfold chk; rw [if_pos (by omega)]
  refine WL.call (f := 30) (args := #[.slice p n cap, .bool false]) 12 rfl (Nat.le_of_ble_eq_true rfl) rfl rfl (by kernel_rfl) ?_
  refine (rCheck_big _ _ _ c A B false _ hn).mono ?_
  rintro e w4 ⟨rfl, hb5⟩
  refine ⟨_, rfl, ?_⟩
  have hH6 : HP Tr w _ [] := HP.call hH1 hb5
  refine WL.pure (v := vI (chk c A B false n)) 4 rfl (Nat.le_of_ble_eq_true rfl) rfl rfl (by kernel_rfl) ?_
  refine WL.nil ?_
  refine WQ.then ?_
  refine hK3 _ _ _ ?_
  refine WC.seq fun K7 hK7 => ?_
  refine WC.seq fun K8 hK8 => ?_
  refine WC.region ?_
  refine WL.pure (v := vI (chk c A B false n)) 13 rfl (Nat.le_of_ble_eq_true rfl) rfl rfl (by kernel_rfl) ?_
  refine WL.pure (v := .bool true) 14 rfl (Nat.le_of_ble_eq_true rfl) rfl rfl (x_neq rfl rfl rfl (dT (by omega))) ?_
  refine WL.nil ?_
  refine WQ.then ?_
  refine hK8 _ _ _ ?_
  refine WC.yes rfl ?_
  refine WC.seq fun K9 hK9 => ?_
  refine WC.region ?_
  refine WL.pure (v := vI (chk c A B false n)) 15 rfl (Nat.le_of_ble_eq_true rfl) rfl rfl (by kernel_rfl) ?_
  refine WL.pure (v := .slice none 0 0) 2 rfl (Nat.le_of_ble_eq_true rfl) rfl rfl (by kernel_rfl) ?_
  refine WL.pure (v := vI (chk c A B false n)) 3 rfl (Nat.le_of_ble_eq_true rfl) rfl rfl (by kernel_rfl) ?_
  refine WL.nil ?_
  refine WQ.then ?_
  refine hK9 _ _ _ ?_
  refine WC.sub (l' := [(0, .slice p n cap), (2, .slice none 0 0), (3, vI (chk c A B false n)), (4, vI (chk c A B false n)), (14, .bool true)]) ⟨rfl, rfl, rfl, rfl, rfl, trivial⟩ ?_
  refine WC.ret ?_
  refine WQ.thenRet ?_
  refine WQ.ret2 2 3 rfl rfl rfl ?_
  exact .inl ⟨by omega, rfl, HP.below hH6⟩
theorem rDepths2_any (p : Option Addr) (n cap : Nat) (c A B : Nat → Int) (w : World) (hIn : InC w p n c A B) : Calls Tryd.prog 20 #[.slice p n cap] w (DepR w c A B n) := by
  by_cases h : n ≤ 400
  · exact rDepths_any p n cap c A B w hIn h
  · exact rDepths_big p n cap c A B w (by omega)
theorem sz48 : (Tryd.prog.info? 48).map (·.size) = some 4 := by kernel_rfl
set_option maxRecDepth 20000 in
set_option maxHeartbeats 4000000 in
theorem Text_any (p : Option Addr) (n cap : Nat) (c A B : Nat → Int) (w : World) (hIn : InC w p n c A B) (hE : Ev w) :
    Calls Tryd.prog 6 #[.slice p n cap] w fun e w' => e = .returned (.tuple #[.string (bS (txP c A B n)), vI (chk c A B false n)]) ∧ Below w.heap.size w w' := by
  refine calls_of Tryd.func6 rfl (m := 60) rfl [(0, .slice p n cap)] (Fr_enter [.slice p n cap] 60 (Nat.le_of_ble_eq_true rfl)) ?_
  have hH1 : HP Tr w w [] := HP.refl w
  refine WC.seq fun K2 hK2 => ?_
  refine WC.region ?_
  refine WL.pure (v := .string (bS [])) 2 rfl (Nat.le_of_ble_eq_true rfl) rfl rfl (by kernel_rfl) ?_
  refine WL.pure (v := vI 0) 3 rfl (Nat.le_of_ble_eq_true rfl) rfl rfl (by kernel_rfl) ?_
  refine WL.nil ?_
  refine WQ.then ?_
  refine hK2 _ _ _ ?_
  refine WC.seq fun K3 hK3 => ?_
  refine WC.seq fun K4 hK4 => ?_
  refine WC.region ?_
  refine WL.pure (v := .slice p n cap) 11 rfl (Nat.le_of_ble_eq_true rfl) rfl rfl (by kernel_rfl) ?_
  refine WL.call (f := 13) (args := #[.slice p n cap, .bool false]) 12 rfl (Nat.le_of_ble_eq_true rfl) rfl rfl (by kernel_rfl) ?_
  refine (Check2_any _ _ _ c A B false _ (hIn.below (HP.below hH1))).mono ?_
  rintro e w5 ⟨rfl, hb6⟩
  refine ⟨_, rfl, ?_⟩
  have hH7 : HP Tr w _ [] := HP.call hH1 hb6
  refine WL.pure (v := vI (chk c A B false n)) 4 rfl (Nat.le_of_ble_eq_true rfl) rfl rfl (by kernel_rfl) ?_
  refine WL.nil ?_
  refine WQ.then ?_
  refine hK4 _ _ _ ?_
  refine WC.seq fun K8 hK8 => ?_
  refine WC.region ?_
  refine WL.pure (v := vI (chk c A B false n)) 13 rfl (Nat.le_of_ble_eq_true rfl) rfl rfl (by kernel_rfl) ?_
  by_cases hc : chk c A B false n ≠ 0
  ·
    refine WL.pure (v := .bool true) 14 rfl (Nat.le_of_ble_eq_true rfl) rfl rfl (x_neq rfl rfl rfl (dT (hc))) ?_
    refine WL.nil ?_
    refine WQ.then ?_
    refine hK8 _ _ _ ?_
    refine WC.yes rfl ?_
    refine WC.seq fun K9 hK9 => ?_
    refine WC.region ?_
    refine WL.pure (v := vI (chk c A B false n)) 15 rfl (Nat.le_of_ble_eq_true rfl) rfl rfl (by kernel_rfl) ?_
    refine WL.pure (v := .string (bS [])) 2 rfl (Nat.le_of_ble_eq_true rfl) rfl rfl (by kernel_rfl) ?_
    refine WL.pure (v := vI (chk c A B false n)) 3 rfl (Nat.le_of_ble_eq_true rfl) rfl rfl (by kernel_rfl) ?_
    refine WL.nil ?_
    refine WQ.then ?_
    refine hK9 _ _ _ ?_
    refine WC.sub (l' := [(0, .slice p n cap), (2, .string (bS [])), (3, vI (chk c A B false n)), (4, vI (chk c A B false n)), (14, .bool true)]) ⟨rfl, rfl, rfl, rfl, rfl, trivial⟩ ?_
    refine WC.ret ?_
    refine WQ.thenRet ?_
    refine WQ.ret2 2 3 rfl rfl rfl ?_
    exact ⟨by unfold txP; rw [if_neg hc], HP.below hH7⟩
  ·
    refine WL.pure (v := .bool false) 14 rfl (Nat.le_of_ble_eq_true rfl) rfl rfl (x_neq rfl rfl rfl (dF (hc))) ?_
    refine WL.nil ?_
    refine WQ.then ?_
    refine hK8 _ _ _ ?_
    refine WC.no rfl ?_
    refine WC.skip ?_
    refine WQ.then ?_
    refine hK3 _ _ _ ?_
    refine WC.seq fun K10 hK10 => ?_
    refine WC.region ?_
    refine WL.alloc (c := #[.pointer none, .slice none 0 0]) (T := 42) hH7 5 rfl (by decide) rfl rfl (fun b5 => vP b5 0) (by kernel_rfl) (fun b5 w11 hw11 => ?_)
    have hH12 : HP Tr w w11 [.cel b5 #[.pointer none, .slice none 0 0] 42] := hw11.2
    have nb5 := hw11.1
    clear hw11
    refine WL.nil ?_
    refine WQ.then ?_
    refine hK10 _ _ _ ?_
    refine WC.seq fun K13 hK13 => ?_
    refine WC.region ?_
    refine WL.pure (v := .slice p n cap) 16 rfl (Nat.le_of_ble_eq_true rfl) rfl rfl (by kernel_rfl) ?_
    have hc0 : chk c A B false n = 0 := Classical.not_not.1 hc
    have hn : n ≤ 120 := (chk_ok hc0).1
    have hBal := chk_bal hc0
    have hall := (chk_ok hc0).2.1
    have hO5 := HP.perm (HP.ownNil hH12 5 1) (List.Perm.refl _)
    have hH14 : HP Tr w _ [.cel b5 #[.pointer none, .slice none 0 0] 42, .own (.slice none 0 0) 0 [] 5 1] := hO5
    refine WL.call (f := 14) (args := #[.slice p n cap]) 17 rfl (Nat.le_of_ble_eq_true rfl) rfl rfl (by kernel_rfl) ?_
    refine (shapeH_any _ _ _ c A B _ (hIn.below (HP.below hH14)) (by omega)).mono ?_
    rintro e w15 ⟨g0, g1, g2, g3, m, s, rfl, hb16, hok⟩
    refine ⟨_, rfl, ?_⟩
    have hH17 : HP Tr w _ [.cel b5 #[.pointer none, .slice none 0 0] 42, .own (.slice none 0 0) 0 [] 5 1, .cel g0 (irow n s.o) 3, .cel g1 (irow n s.e) 3, .cel g2 (irow n s.d) 3, .cel g3 (irow n s.t) 3] := HP.trans hH14 hb16
    have hsD : s = shD c n := by have q := (hok (chk_ok hc0).2.2).1; unfold shD; rw [q]; rfl
    subst hsD
    refine WL.pure (v := vS g3 n n) 18 rfl (Nat.le_of_ble_eq_true rfl) rfl rfl (by kernel_rfl) ?_
    refine WL.pure (v := vS g3 n n) 6 rfl (Nat.le_of_ble_eq_true rfl) rfl rfl (by kernel_rfl) ?_
    refine WL.nil ?_
    refine WQ.then ?_
    refine hK13 _ _ _ ?_
    refine WC.sub (l' := [(0, .slice p n cap), (2, .string (bS [])), (3, vI 0), (4, vI (chk c A B false n)), (5, vP b5 0), (6, vS g3 n n), (14, .bool false)]) ⟨rfl, rfl, rfl, rfl, rfl, rfl, rfl, trivial⟩ ?_
    refine WC.seq fun K18 hK18 => ?_
    refine WC.seq fun K19 hK19 => ?_
    refine WC.region ?_
    refine WL.pure (v := .slice p n cap) 19 rfl (Nat.le_of_ble_eq_true rfl) rfl rfl (by kernel_rfl) ?_
    refine WL.pure (v := vI (n : Int)) 20 rfl (Nat.le_of_ble_eq_true rfl) rfl rfl (by kernel_rfl) ?_
    refine WL.pure (v := vI 0) 21 rfl (Nat.le_of_ble_eq_true rfl) rfl rfl (by kernel_rfl) ?_
    refine WL.nil ?_
    refine WQ.then ?_
    refine hK19 _ _ _ ?_
    refine WC.block ?_
    refine WC.loop (fun kk0 ll0 ww0 => ∃ (k : Nat) (a0 : Value) (pv : Option Addr) (cp : Nat), ll0 = [(0, .slice p n cap), (5, vP b5 0), (6, vS g3 n n), (19, .slice p n cap), (20, vI (n : Int)), (21, vI (k : Int))] ∧ kk0 = n - k ∧ (k ≤ n) ∧ (a0 = .pointer none ∨ a0 = .pointer (some ⟨b5, 0, none⟩)) ∧ ((txV c A B (shD c n).t k).length ≤ k * 100) ∧ HP Tr w ww0 [.cel b5 #[a0, .slice pv (txV c A B (shD c n).t k).length cp] 42, .own (.slice pv (txV c A B (shD c n).t k).length cp) (txV c A B (shD c n).t k).length (bC (txV c A B (shD c n).t k)) 5 1, .cel g0 (irow n (shD c n).o) 3, .cel g1 (irow n (shD c n).e) 3, .cel g2 (irow n (shD c n).d) 3, .cel g3 (irow n (shD c n).t) 3]) (n) [(0, .slice p n cap), (5, vP b5 0), (6, vS g3 n n), (19, .slice p n cap), (20, vI (n : Int)), (21, vI 0)] ⟨rfl, rfl, rfl, rfl, rfl, rfl, trivial⟩ ⟨0, .pointer none, none, 0, rfl, rfl, Nat.zero_le _, .inl rfl, Nat.zero_le _, hH17⟩ ?_
    rintro kk l w21 ⟨k, a0, pv, cp, rfl, hkk, hk, ha0, hX, hH22⟩ K20 hK20
    refine WC.seq fun K23 hK23 => ?_
    refine WC.region ?_
    by_cases hlt : (k : Int) < (n : Int)
    ·
      refine WL.pure (v := .bool true) 22 rfl (Nat.le_of_ble_eq_true rfl) rfl rfl (x_lss rfl rfl rfl (dT (hlt))) ?_
      refine WL.nil ?_
      refine WQ.then ?_
      refine hK23 _ _ _ ?_
      refine WC.seq fun K24 hK24 => ?_
      refine WC.yes rfl ?_
      refine WC.skip ?_
      refine WQ.then ?_
      refine hK24 _ _ _ ?_
      refine WC.seq fun K25 hK25 => ?_
      refine WC.block ?_
      refine WC.seq fun K26 hK26 => ?_
      obtain ⟨bb, oo, rfl, hrow⟩ := hIn (by omega)
      obtain ⟨htr1, htr2⟩ := t_range hBal (show k < n by omega)
      have htm := hBal.hm
      have hvk : vld (c k) (A k) (B k) false = true := allV_at hall (by omega)
      obtain ⟨k9, hck, hk9, hA9, hB9, hA0, hB0⟩ := vld_facts hvk
      obtain ⟨hn32, hn10, hnne, hnab, hnln⟩ := name_ok hk9
      have hcn : (c k).toNat = k9 := by rw [hck, Int.toNat_natCast]
      have hnm : (nmL (c k).toNat).length ≤ 20 := by rw [hcn]; exact hnln
      have hla : (Lib.itoa (A k)).length ≤ 11 := itoa_len11 (by omega)
      have hlb : (Lib.itoa (B k)).length ≤ 11 := itoa_len11 (by omega)
      refine WC.region ?_
      refine WL.pure (v := vI (k : Int)) 23 rfl (Nat.le_of_ble_eq_true rfl) rfl rfl (by kernel_rfl) ?_
      refine WL.pure (v := vP bb (oo + k * 3)) 24 rfl (Nat.le_of_ble_eq_true rfl) rfl rfl (x_idx (k) (oo + k * 3) rfl rfl rfl Tryd.underlying22 sz33 (by omega) (by omega) (by omega)) ?_
      refine WL.pure (v := .agg #[vI (c k), vI (A k), vI (B k)]) 25 rfl (Nat.le_of_ble_eq_true rfl) rfl rfl (x_loadS (cs := [vI (c k), vI (A k), vI (B k)]) rfl rfl Tryd.underlying33 rfl sz33 (HP.oldRange hH22 trivial (hrow k (by omega)))) ?_
      refine WL.alloc (c := #[vI 0, vI 0, vI 0]) (T := 33) hH22 8 rfl (by decide) rfl rfl (fun b8 => vP b8 0) (by kernel_rfl) (fun b8 w27 hw27 => ?_)
      have hH28 : HP Tr w w27 [.cel b5 #[a0, .slice pv (txV c A B (shD c n).t k).length cp] 42, .own (.slice pv (txV c A B (shD c n).t k).length cp) (txV c A B (shD c n).t k).length (bC (txV c A B (shD c n).t k)) 5 1, .cel g0 (irow n (shD c n).o) 3, .cel g1 (irow n (shD c n).e) 3, .cel g2 (irow n (shD c n).d) 3, .cel g3 (irow n (shD c n).t) 3, .cel b8 #[vI 0, vI 0, vI 0] 33] := hw27.2
      have nb8 := hw27.1
      clear hw27
      refine WL.pure (v := vI (k : Int)) 7 rfl (Nat.le_of_ble_eq_true rfl) rfl rfl (by kernel_rfl) ?_
      refine WL.storeS (H2 := [.cel b5 #[a0, .slice pv (txV c A B (shD c n).t k).length cp] 42, .own (.slice pv (txV c A B (shD c n).t k).length cp) (txV c A B (shD c n).t k).length (bC (txV c A B (shD c n).t k)) 5 1, .cel g0 (irow n (shD c n).o) 3, .cel g1 (irow n (shD c n).e) 3, .cel g2 (irow n (shD c n).d) 3, .cel g3 (irow n (shD c n).t) 3, .cel b8 #[vI (c k), vI (A k), vI (B k)] 33]) 6 hH28 rfl rfl rfl rfl rfl rfl sz33 rfl (Nat.le_of_ble_eq_true rfl) rfl rfl ?_
      intro w29 hH30
      refine WL.nil ?_
      refine WQ.then ?_
      refine hK26 _ _ _ ?_
      refine WC.seq fun K31 hK31 => ?_
      refine WC.region ?_
      refine WL.pure (v := vP b8 0) 27 rfl (Nat.le_of_ble_eq_true rfl) rfl rfl (by kernel_rfl) ?_
      refine WL.pure (v := vI (c k)) 28 rfl (Nat.le_of_ble_eq_true rfl) rfl rfl (x_load rfl rfl Tryd.underlying3 rfl (HP.cell hH30 6 rfl rfl)) ?_
      refine WL.call (f := 15) (args := #[vI (c k)]) 29 rfl (Nat.le_of_ble_eq_true rfl) rfl rfl (by kernel_rfl) ?_
      refine (known2_any (c k) (by rw [hck]; omega) _).mono ?_
      rintro e w32 ⟨rfl, hb33⟩
      refine ⟨_, rfl, ?_⟩
      have hH34 : HP Tr w _ [.cel b5 #[a0, .slice pv (txV c A B (shD c n).t k).length cp] 42, .own (.slice pv (txV c A B (shD c n).t k).length cp) (txV c A B (shD c n).t k).length (bC (txV c A B (shD c n).t k)) 5 1, .cel g0 (irow n (shD c n).o) 3, .cel g1 (irow n (shD c n).e) 3, .cel g2 (irow n (shD c n).d) 3, .cel g3 (irow n (shD c n).t) 3, .cel b8 #[vI (c k), vI (A k), vI (B k)] 33] := HP.call hH30 hb33
      refine WL.pure (v := .tuple #[.agg #[.string (bS (nmL (c k).toNat)), vI ((sp (c k).toNat).a), vI ((sp (c k).toNat).b), vI ((sp (c k).toNat).c)], .bool true]) 26 rfl (Nat.le_of_ble_eq_true rfl) rfl rfl (by kernel_rfl) ?_
      refine WL.pure (v := .agg #[.string (bS (nmL (c k).toNat)), vI ((sp (c k).toNat).a), vI ((sp (c k).toNat).b), vI ((sp (c k).toNat).c)]) 30 rfl (Nat.le_of_ble_eq_true rfl) rfl rfl (by kernel_rfl) ?_
      refine WL.pure (v := .bool true) 31 rfl (Nat.le_of_ble_eq_true rfl) rfl rfl (by kernel_rfl) ?_
      refine WL.alloc (c := #[.string (⟨#[]⟩), vI 0, vI 0, vI 0]) (T := 48) hH34 9 rfl (by decide) rfl rfl (fun b9 => vP b9 0) (by kernel_rfl) (fun b9 w35 hw35 => ?_)
      have hH36 : HP Tr w w35 [.cel b5 #[a0, .slice pv (txV c A B (shD c n).t k).length cp] 42, .own (.slice pv (txV c A B (shD c n).t k).length cp) (txV c A B (shD c n).t k).length (bC (txV c A B (shD c n).t k)) 5 1, .cel g0 (irow n (shD c n).o) 3, .cel g1 (irow n (shD c n).e) 3, .cel g2 (irow n (shD c n).d) 3, .cel g3 (irow n (shD c n).t) 3, .cel b8 #[vI (c k), vI (A k), vI (B k)] 33, .cel b9 #[.string (⟨#[]⟩), vI 0, vI 0, vI 0] 48] := hw35.2
      have nb9 := hw35.1
      clear hw35
      refine WL.storeS (H2 := [.cel b5 #[a0, .slice pv (txV c A B (shD c n).t k).length cp] 42, .own (.slice pv (txV c A B (shD c n).t k).length cp) (txV c A B (shD c n).t k).length (bC (txV c A B (shD c n).t k)) 5 1, .cel g0 (irow n (shD c n).o) 3, .cel g1 (irow n (shD c n).e) 3, .cel g2 (irow n (shD c n).d) 3, .cel g3 (irow n (shD c n).t) 3, .cel b8 #[vI (c k), vI (A k), vI (B k)] 33, .cel b9 #[.string (bS (nmL (c k).toNat)), vI ((sp (c k).toNat).a), vI ((sp (c k).toNat).b), vI ((sp (c k).toNat).c)] 48]) 7 hH36 rfl rfl rfl rfl rfl rfl sz48 rfl (Nat.le_of_ble_eq_true rfl) rfl rfl ?_
      intro w37 hH38
      refine WL.pure (v := .bool true) 10 rfl (Nat.le_of_ble_eq_true rfl) rfl rfl (by kernel_rfl) ?_
      refine WL.nil ?_
      refine WQ.then ?_
      refine hK31 _ _ _ ?_
      refine WC.sub (l' := [(0, .slice (some ⟨bb, oo, none⟩) n cap), (5, vP b5 0), (6, vS g3 n n), (7, vI (k : Int)), (8, vP b8 0), (9, vP b9 0), (19, .slice (some ⟨bb, oo, none⟩) n cap), (20, vI (n : Int)), (21, vI (k : Int)), (22, .bool true)]) ⟨rfl, rfl, rfl, rfl, rfl, rfl, rfl, rfl, rfl, rfl, trivial⟩ ?_
      refine WC.seq fun K39 hK39 => ?_
      refine WC.confG (γ := Option Addr × Nat × Unit) [(0, .slice (some ⟨bb, oo, none⟩) n cap), (5, vP b5 0), (6, vS g3 n n), (7, vI (k : Int)), (8, vP b8 0), (9, vP b9 0), (19, .slice (some ⟨bb, oo, none⟩) n cap), (20, vI (n : Int)), (21, vI (k : Int)), (22, .bool true)] (fun gy => [vS g3 n n, vI (k : Int), vP g3 k, vI (((shD c n).t) k), .string (bS (Lib.repeatL [32, 32] ((shD c n).t k).toNat)), vP b9 0, .string (bS (nmL (c k).toNat)), .string (bS ((Lib.repeatL [32, 32] ((shD c n).t k).toNat) ++ (nmL (c k).toNat))), .tuple #[vI (((Lib.repeatL [32, 32] ((shD c n).t k).toNat) ++ (nmL (c k).toNat)).length : Int), .nilIface]]) (fun gy D wz => HP Tr w wz ([(bif D 8 then Ent.cel b5 #[vP b5 0, .slice gy.1 (txV c A B (shD c n).t k ++ ((Lib.repeatL [32, 32] ((shD c n).t k).toNat) ++ (nmL (c k).toNat))).length gy.2.1] 42 else Ent.cel b5 #[a0, .slice pv (txV c A B (shD c n).t k).length cp] 42), (bif D 8 then Ent.own (.slice gy.1 (txV c A B (shD c n).t k ++ ((Lib.repeatL [32, 32] ((shD c n).t k).toNat) ++ (nmL (c k).toNat))).length gy.2.1) (txV c A B (shD c n).t k ++ ((Lib.repeatL [32, 32] ((shD c n).t k).toNat) ++ (nmL (c k).toNat))).length (bC (txV c A B (shD c n).t k ++ ((Lib.repeatL [32, 32] ((shD c n).t k).toNat) ++ (nmL (c k).toNat)))) 5 1 else Ent.own (.slice pv (txV c A B (shD c n).t k).length cp) (txV c A B (shD c n).t k).length (bC (txV c A B (shD c n).t k)) 5 1), .cel g0 (irow n (shD c n).o) 3, .cel g1 (irow n (shD c n).e) 3, .cel g2 (irow n (shD c n).d) 3, .cel g3 (irow n (shD c n).t) 3, .cel b8 #[vI (c k), vI (A k), vI (B k)] 33, .cel b9 #[.string (bS (nmL (c k).toNat)), vI ((sp (c k).toNat).a), vI ((sp (c k).toNat).b), vI ((sp (c k).toNat).c)] 48] ++ ((bif D 8 then [] else []) ++ []))) (none, 0, ()) (by kernel_rfl) ⟨rfl, rfl, rfl, rfl, rfl, rfl, rfl, rfl, rfl, rfl, trivial⟩ (by kernel_rfl) (by kernel_rfl) (by kernel_rfl) (fun _ => rfl) (by kernel_rfl) (HP.drew hH38) ?_ ?_
      · refine AllOk.cons ?o0 (AllOk.cons ?o1 (AllOk.cons ?o2 (AllOk.cons ?o3 (AllOk.cons ?o4 (AllOk.cons ?o5 (AllOk.cons ?o6 (AllOk.cons ?o7 (AllOk.cons ?o8 (AllOk.nil _)))))))))
        case o0 =>
          intro gy D wz hDi hdep hclo hW
          exact .inl ⟨rfl, rfl, .inl ⟨gy, wz, fun _ _ => rfl, by kernel_rfl, hW⟩⟩
        case o1 =>
          intro gy D wz hDi hdep hclo hW
          exact .inl ⟨rfl, rfl, .inl ⟨gy, wz, fun _ _ => rfl, by kernel_rfl, hW⟩⟩
        case o2 =>
          intro gy D wz hDi hdep hclo hW
          exact .inl ⟨rfl, rfl, .inl ⟨gy, wz, fun _ _ => rfl, x_idx (k) (k) rfl rfl rfl Tryd.underlying43 sz3 (by omega) (by omega) (by omega), hW⟩⟩
        case o3 =>
          intro gy D wz hDi hdep hclo hW
          exact .inl ⟨rfl, rfl, .inl ⟨gy, wz, fun _ _ => rfl, x_load rfl rfl Tryd.underlying3 rfl (HP.cell hW 5 rfl (irow_get (by omega) rfl)), hW⟩⟩
        case o4 =>
          intro gy D wz hDi hdep hclo hW
          have d8 : D 8 = false := by
            cases h : D 8 with
            | false => rfl
            | true => exact absurd (hclo 8 _ rfl h ⟨4, .chain⟩ (by simp) rfl) (by rw [hDi]; exact Bool.false_ne_true)
          have hW2 := hW
          simp only [d8, cond_true, cond_false, List.append_nil, List.nil_append, List.cons_append] at hW2
          exact .inl ⟨rfl, rfl, .inr (.inr ⟨17, #[.string (bS [32, 32]), vI (((shD c n).t) k)], by kernel_rfl, (repeat_any ((shD c n).t k) _ (by omega)).mono fun e w2 h => ⟨gy, fun _ _ => rfl, h.1, HP.call hW h.2⟩⟩)⟩
        case o5 =>
          intro gy D wz hDi hdep hclo hW
          exact .inl ⟨rfl, rfl, .inl ⟨gy, wz, fun _ _ => rfl, by kernel_rfl, hW⟩⟩
        case o6 =>
          intro gy D wz hDi hdep hclo hW
          exact .inl ⟨rfl, rfl, .inl ⟨gy, wz, fun _ _ => rfl, x_load rfl rfl Tryd.underlying9 rfl (HP.cell hW 7 rfl rfl), hW⟩⟩
        case o7 =>
          intro gy D wz hDi hdep hclo hW
          exact .inl ⟨rfl, rfl, .inl ⟨gy, wz, fun _ _ => rfl, x_sadd ((Lib.repeatL [32, 32] ((shD c n).t k).toNat)) ((nmL (c k).toNat)) rfl rfl rfl (by simp only [List.length_append, List.length_cons, List.length_nil, rep_len]; omega), hW⟩⟩
        case o8 =>
          intro gy D wz hDi hdep hclo hW
          simp only [hDi, cond_false, List.append_nil] at hW
          have hW2 := hW
          refine .inl ⟨rfl, rfl, .inr (.inr ⟨16, #[vP b5 0, .string (bS ((Lib.repeatL [32, 32] ((shD c n).t k).toNat) ++ (nmL (c k).toNat)))], by kernel_rfl, (WS_any b5 a0 pv cp (txV c A B (shD c n).t k) ((Lib.repeatL [32, 32] ((shD c n).t k).toNat) ++ (nmL (c k).toNat)) _ (HP.ownF (A := [Ent.cel b5 #[a0, .slice pv (txV c A B (shD c n).t k).length cp] 42, Ent.own (.slice pv (txV c A B (shD c n).t k).length cp) (txV c A B (shD c n).t k).length (bC (txV c A B (shD c n).t k)) 5 1]) (B := [Ent.cel g0 (irow n (shD c n).o) 3, Ent.cel g1 (irow n (shD c n).e) 3, Ent.cel g2 (irow n (shD c n).d) 3, Ent.cel g3 (irow n (shD c n).t) 3, Ent.cel b8 #[vI (c k), vI (A k), vI (B k)] 33, Ent.cel b9 #[.string (bS (nmL (c k).toNat)), vI ((sp (c k).toNat).a), vI ((sp (c k).toNat).b), vI ((sp (c k).toNat).c)] 48]) hW2) ha0 (by simp only [List.length_append, List.length_cons, List.length_nil, rep_len]; omega)).mono ?_⟩)⟩
          rintro e w3 ⟨pv10, cp10, rfl, hb⟩
          refine ⟨⟨pv10, cp10, ()⟩, fun j hj => ?_, rfl, ?_⟩
          · match j, hj with
            | 0, _ => rfl
            | 1, _ => rfl
            | 2, _ => rfl
            | 3, _ => rfl
            | 4, _ => rfl
            | 5, _ => rfl
            | 6, _ => rfl
            | 7, _ => rfl
            | 8, _ => rfl
            | j + 9, _ => rfl
          · show HP Tr w w3 [Ent.cel b5 #[vP b5 0, .slice pv10 (txV c A B (shD c n).t k ++ ((Lib.repeatL [32, 32] ((shD c n).t k).toNat) ++ (nmL (c k).toNat))).length cp10] 42, Ent.own (.slice pv10 (txV c A B (shD c n).t k ++ ((Lib.repeatL [32, 32] ((shD c n).t k).toNat) ++ (nmL (c k).toNat))).length cp10) (txV c A B (shD c n).t k ++ ((Lib.repeatL [32, 32] ((shD c n).t k).toNat) ++ (nmL (c k).toNat))).length (bC (txV c A B (shD c n).t k ++ ((Lib.repeatL [32, 32] ((shD c n).t k).toNat) ++ (nmL (c k).toNat)))) 5 1, Ent.cel g0 (irow n (shD c n).o) 3, Ent.cel g1 (irow n (shD c n).e) 3, Ent.cel g2 (irow n (shD c n).d) 3, Ent.cel g3 (irow n (shD c n).t) 3, Ent.cel b8 #[vI (c k), vI (A k), vI (B k)] 33, Ent.cel b9 #[.string (bS (nmL (c k).toNat)), vI ((sp (c k).toNat).a), vI ((sp (c k).toNat).b), vI ((sp (c k).toNat).c)] 48]
            exact HP.exchF (A := [Ent.cel b5 #[a0, .slice pv (txV c A B (shD c n).t k).length cp] 42, Ent.own (.slice pv (txV c A B (shD c n).t k).length cp) (txV c A B (shD c n).t k).length (bC (txV c A B (shD c n).t k)) 5 1]) (B := [Ent.cel g0 (irow n (shD c n).o) 3, Ent.cel g1 (irow n (shD c n).e) 3, Ent.cel g2 (irow n (shD c n).d) 3, Ent.cel g3 (irow n (shD c n).t) 3, Ent.cel b8 #[vI (c k), vI (A k), vI (B k)] 33, Ent.cel b9 #[.string (bS (nmL (c k).toNat)), vI ((sp (c k).toNat).a), vI ((sp (c k).toNat).b), vI ((sp (c k).toNat).c)] 48]) hW2 hb
      rintro ⟨pv10, cp10, gu⟩ D w40 hall hH41
      simp only [hall 8 (by kernel_rfl), hall 8 (by kernel_rfl), hall 8 (by kernel_rfl), cond_true, List.append_nil, List.nil_append, List.cons_append] at hH41
      clear hall
      refine WQ.sub (l' := [(0, .slice (some ⟨bb, oo, none⟩) n cap), (5, vP b5 0), (6, vS g3 n n), (7, vI (k : Int)), (8, vP b8 0), (9, vP b9 0), (19, .slice (some ⟨bb, oo, none⟩) n cap), (20, vI (n : Int)), (21, vI (k : Int)), (22, .bool true)]) ⟨rfl, rfl, rfl, rfl, rfl, rfl, rfl, rfl, rfl, rfl, trivial⟩ ?_
      refine WQ.then ?_
      refine hK39 _ _ _ ?_
      refine WC.seq fun K42 hK42 => ?_
      refine WC.seq fun K43 hK43 => ?_
      refine WC.region ?_
      refine WL.pure (v := vP b9 1) 41 rfl (Nat.le_of_ble_eq_true rfl) rfl rfl (by kernel_rfl) ?_
      refine WL.pure (v := vI ((sp (c k).toNat).a)) 42 rfl (Nat.le_of_ble_eq_true rfl) rfl rfl (x_load rfl rfl Tryd.underlying3 rfl (HP.cell hH41 7 rfl rfl)) ?_
      by_cases ha : (sp (c k).toNat).a ≠ 0
      ·
        refine WL.pure (v := .bool true) 43 rfl (Nat.le_of_ble_eq_true rfl) rfl rfl (x_neq rfl rfl rfl (dT (ha))) ?_
        refine WL.nil ?_
        refine WQ.then ?_
        refine hK43 _ _ _ ?_
        refine WC.yes rfl ?_
        refine WC.region ?_
        refine WL.pure (v := vP b8 1) 44 rfl (Nat.le_of_ble_eq_true rfl) rfl rfl (by kernel_rfl) ?_
        refine WL.pure (v := vI (A k)) 45 rfl (Nat.le_of_ble_eq_true rfl) rfl rfl (x_load rfl rfl Tryd.underlying3 rfl (HP.cell hH41 6 rfl rfl)) ?_
        refine WL.call (f := 18) (args := #[vI (A k)]) 46 rfl (Nat.le_of_ble_eq_true rfl) rfl rfl (by kernel_rfl) ?_
        refine (itoa_any (A k) _ (by omega) (hE.below (HP.below hH41))).mono ?_
        rintro e w44 ⟨rfl, hb45⟩
        refine ⟨_, rfl, ?_⟩
        have hH46 : HP Tr w _ [.cel b5 #[vP b5 0, .slice pv10 (txV c A B (shD c n).t k ++ ((Lib.repeatL [32, 32] ((shD c n).t k).toNat) ++ (nmL (c k).toNat))).length cp10] 42, .own (.slice pv10 (txV c A B (shD c n).t k ++ ((Lib.repeatL [32, 32] ((shD c n).t k).toNat) ++ (nmL (c k).toNat))).length cp10) (txV c A B (shD c n).t k ++ ((Lib.repeatL [32, 32] ((shD c n).t k).toNat) ++ (nmL (c k).toNat))).length (bC (txV c A B (shD c n).t k ++ ((Lib.repeatL [32, 32] ((shD c n).t k).toNat) ++ (nmL (c k).toNat)))) 5 1, .cel g0 (irow n (shD c n).o) 3, .cel g1 (irow n (shD c n).e) 3, .cel g2 (irow n (shD c n).d) 3, .cel g3 (irow n (shD c n).t) 3, .cel b8 #[vI (c k), vI (A k), vI (B k)] 33, .cel b9 #[.string (bS (nmL (c k).toNat)), vI ((sp (c k).toNat).a), vI ((sp (c k).toNat).b), vI ((sp (c k).toNat).c)] 48] := HP.call hH41 hb45
        refine WL.pure (v := .string (bS (([32]) ++ (Lib.itoa (A k))))) 47 rfl (Nat.le_of_ble_eq_true rfl) rfl rfl (x_sadd ([32]) ((Lib.itoa (A k))) rfl rfl rfl (by simp only [List.length_append, List.length_cons, List.length_nil, rep_len]; omega)) ?_
        refine WL.call (f := 16) (args := #[vP b5 0, .string (bS (([32]) ++ (Lib.itoa (A k))))]) 48 rfl (Nat.le_of_ble_eq_true rfl) rfl rfl (by kernel_rfl) ?_
        refine (WS_any b5 (vP b5 0) pv10 cp10 (txV c A B (shD c n).t k ++ (Lib.repeatL [32, 32] ((shD c n).t k).toNat ++ nmL (c k).toNat)) (([32]) ++ (Lib.itoa (A k))) _ (HP.ownF (A := [Ent.cel b5 #[vP b5 0, .slice pv10 (txV c A B (shD c n).t k ++ ((Lib.repeatL [32, 32] ((shD c n).t k).toNat) ++ (nmL (c k).toNat))).length cp10] 42, Ent.own (.slice pv10 (txV c A B (shD c n).t k ++ ((Lib.repeatL [32, 32] ((shD c n).t k).toNat) ++ (nmL (c k).toNat))).length cp10) (txV c A B (shD c n).t k ++ ((Lib.repeatL [32, 32] ((shD c n).t k).toNat) ++ (nmL (c k).toNat))).length (bC (txV c A B (shD c n).t k ++ ((Lib.repeatL [32, 32] ((shD c n).t k).toNat) ++ (nmL (c k).toNat)))) 5 1]) (B := [Ent.cel g0 (irow n (shD c n).o) 3, Ent.cel g1 (irow n (shD c n).e) 3, Ent.cel g2 (irow n (shD c n).d) 3, Ent.cel g3 (irow n (shD c n).t) 3, Ent.cel b8 #[vI (c k), vI (A k), vI (B k)] 33, Ent.cel b9 #[.string (bS (nmL (c k).toNat)), vI ((sp (c k).toNat).a), vI ((sp (c k).toNat).b), vI ((sp (c k).toNat).c)] 48]) hH46) (.inr rfl) (by simp only [List.length_append, List.length_cons, List.length_nil, rep_len]; omega)).mono ?_
        rintro e w7 ⟨pv20, cp20, rfl, hb7⟩
        refine ⟨_, rfl, ?_⟩
        have hH47 : HP Tr w _ [.cel b5 #[vP b5 0, .slice pv20 ((txV c A B (shD c n).t k ++ (Lib.repeatL [32, 32] ((shD c n).t k).toNat ++ nmL (c k).toNat)) ++ (([32]) ++ (Lib.itoa (A k)))).length cp20] 42, .own (.slice pv20 ((txV c A B (shD c n).t k ++ (Lib.repeatL [32, 32] ((shD c n).t k).toNat ++ nmL (c k).toNat)) ++ (([32]) ++ (Lib.itoa (A k)))).length cp20) ((txV c A B (shD c n).t k ++ (Lib.repeatL [32, 32] ((shD c n).t k).toNat ++ nmL (c k).toNat)) ++ (([32]) ++ (Lib.itoa (A k)))).length (bC ((txV c A B (shD c n).t k ++ (Lib.repeatL [32, 32] ((shD c n).t k).toNat ++ nmL (c k).toNat)) ++ (([32]) ++ (Lib.itoa (A k))))) 5 1, .cel g0 (irow n (shD c n).o) 3, .cel g1 (irow n (shD c n).e) 3, .cel g2 (irow n (shD c n).d) 3, .cel g3 (irow n (shD c n).t) 3, .cel b8 #[vI (c k), vI (A k), vI (B k)] 33, .cel b9 #[.string (bS (nmL (c k).toNat)), vI ((sp (c k).toNat).a), vI ((sp (c k).toNat).b), vI ((sp (c k).toNat).c)] 48] := HP.exchF (A := [Ent.cel b5 #[vP b5 0, .slice pv10 (txV c A B (shD c n).t k ++ ((Lib.repeatL [32, 32] ((shD c n).t k).toNat) ++ (nmL (c k).toNat))).length cp10] 42, Ent.own (.slice pv10 (txV c A B (shD c n).t k ++ ((Lib.repeatL [32, 32] ((shD c n).t k).toNat) ++ (nmL (c k).toNat))).length cp10) (txV c A B (shD c n).t k ++ ((Lib.repeatL [32, 32] ((shD c n).t k).toNat) ++ (nmL (c k).toNat))).length (bC (txV c A B (shD c n).t k ++ ((Lib.repeatL [32, 32] ((shD c n).t k).toNat) ++ (nmL (c k).toNat)))) 5 1]) (B := [Ent.cel g0 (irow n (shD c n).o) 3, Ent.cel g1 (irow n (shD c n).e) 3, Ent.cel g2 (irow n (shD c n).d) 3, Ent.cel g3 (irow n (shD c n).t) 3, Ent.cel b8 #[vI (c k), vI (A k), vI (B k)] 33, Ent.cel b9 #[.string (bS (nmL (c k).toNat)), vI ((sp (c k).toNat).a), vI ((sp (c k).toNat).b), vI ((sp (c k).toNat).c)] 48]) hH46 hb7
        refine WL.nil ?_
        refine WQ.then ?_
        refine hK42 _ _ _ ?_
        refine WC.sub (l' := [(0, .slice (some ⟨bb, oo, none⟩) n cap), (5, vP b5 0), (6, vS g3 n n), (7, vI (k : Int)), (8, vP b8 0), (9, vP b9 0), (19, .slice (some ⟨bb, oo, none⟩) n cap), (20, vI (n : Int)), (21, vI (k : Int)), (22, .bool true), (43, .bool true)]) ⟨rfl, rfl, rfl, rfl, rfl, rfl, rfl, rfl, rfl, rfl, rfl, trivial⟩ ?_
        refine WC.seq fun K48 hK48 => ?_
        refine WC.seq fun K49 hK49 => ?_
        refine WC.region ?_
        refine WL.pure (v := vP b9 2) 49 rfl (Nat.le_of_ble_eq_true rfl) rfl rfl (by kernel_rfl) ?_
        refine WL.pure (v := vI ((sp (c k).toNat).b)) 50 rfl (Nat.le_of_ble_eq_true rfl) rfl rfl (x_load rfl rfl Tryd.underlying3 rfl (HP.cell hH47 7 rfl rfl)) ?_
        by_cases hb : (sp (c k).toNat).b ≠ 0
        ·
          refine WL.pure (v := .bool true) 51 rfl (Nat.le_of_ble_eq_true rfl) rfl rfl (x_neq rfl rfl rfl (dT (hb))) ?_
          refine WL.nil ?_
          refine WQ.then ?_
          refine hK49 _ _ _ ?_
          refine WC.yes rfl ?_
          refine WC.region ?_
          refine WL.pure (v := vP b8 2) 52 rfl (Nat.le_of_ble_eq_true rfl) rfl rfl (by kernel_rfl) ?_
          refine WL.pure (v := vI (B k)) 53 rfl (Nat.le_of_ble_eq_true rfl) rfl rfl (x_load rfl rfl Tryd.underlying3 rfl (HP.cell hH47 6 rfl rfl)) ?_
          refine WL.call (f := 18) (args := #[vI (B k)]) 54 rfl (Nat.le_of_ble_eq_true rfl) rfl rfl (by kernel_rfl) ?_
          refine (itoa_any (B k) _ (by omega) (hE.below (HP.below hH47))).mono ?_
          rintro e w50 ⟨rfl, hb51⟩
          refine ⟨_, rfl, ?_⟩
          have hH52 : HP Tr w _ [.cel b5 #[vP b5 0, .slice pv20 ((txV c A B (shD c n).t k ++ (Lib.repeatL [32, 32] ((shD c n).t k).toNat ++ nmL (c k).toNat)) ++ (([32]) ++ (Lib.itoa (A k)))).length cp20] 42, .own (.slice pv20 ((txV c A B (shD c n).t k ++ (Lib.repeatL [32, 32] ((shD c n).t k).toNat ++ nmL (c k).toNat)) ++ (([32]) ++ (Lib.itoa (A k)))).length cp20) ((txV c A B (shD c n).t k ++ (Lib.repeatL [32, 32] ((shD c n).t k).toNat ++ nmL (c k).toNat)) ++ (([32]) ++ (Lib.itoa (A k)))).length (bC ((txV c A B (shD c n).t k ++ (Lib.repeatL [32, 32] ((shD c n).t k).toNat ++ nmL (c k).toNat)) ++ (([32]) ++ (Lib.itoa (A k))))) 5 1, .cel g0 (irow n (shD c n).o) 3, .cel g1 (irow n (shD c n).e) 3, .cel g2 (irow n (shD c n).d) 3, .cel g3 (irow n (shD c n).t) 3, .cel b8 #[vI (c k), vI (A k), vI (B k)] 33, .cel b9 #[.string (bS (nmL (c k).toNat)), vI ((sp (c k).toNat).a), vI ((sp (c k).toNat).b), vI ((sp (c k).toNat).c)] 48] := HP.call hH47 hb51
          refine WL.pure (v := .string (bS (([32]) ++ (Lib.itoa (B k))))) 55 rfl (Nat.le_of_ble_eq_true rfl) rfl rfl (x_sadd ([32]) ((Lib.itoa (B k))) rfl rfl rfl (by simp only [List.length_append, List.length_cons, List.length_nil, rep_len]; omega)) ?_
          refine WL.call (f := 16) (args := #[vP b5 0, .string (bS (([32]) ++ (Lib.itoa (B k))))]) 56 rfl (Nat.le_of_ble_eq_true rfl) rfl rfl (by kernel_rfl) ?_
          refine (WS_any b5 (vP b5 0) pv20 cp20 ((txV c A B (shD c n).t k ++ (Lib.repeatL [32, 32] ((shD c n).t k).toNat ++ nmL (c k).toNat)) ++ (([32]) ++ (Lib.itoa (A k)))) (([32]) ++ (Lib.itoa (B k))) _ (HP.ownF (A := [Ent.cel b5 #[vP b5 0, .slice pv20 ((txV c A B (shD c n).t k ++ (Lib.repeatL [32, 32] ((shD c n).t k).toNat ++ nmL (c k).toNat)) ++ (([32]) ++ (Lib.itoa (A k)))).length cp20] 42, Ent.own (.slice pv20 ((txV c A B (shD c n).t k ++ (Lib.repeatL [32, 32] ((shD c n).t k).toNat ++ nmL (c k).toNat)) ++ (([32]) ++ (Lib.itoa (A k)))).length cp20) ((txV c A B (shD c n).t k ++ (Lib.repeatL [32, 32] ((shD c n).t k).toNat ++ nmL (c k).toNat)) ++ (([32]) ++ (Lib.itoa (A k)))).length (bC ((txV c A B (shD c n).t k ++ (Lib.repeatL [32, 32] ((shD c n).t k).toNat ++ nmL (c k).toNat)) ++ (([32]) ++ (Lib.itoa (A k))))) 5 1]) (B := [Ent.cel g0 (irow n (shD c n).o) 3, Ent.cel g1 (irow n (shD c n).e) 3, Ent.cel g2 (irow n (shD c n).d) 3, Ent.cel g3 (irow n (shD c n).t) 3, Ent.cel b8 #[vI (c k), vI (A k), vI (B k)] 33, Ent.cel b9 #[.string (bS (nmL (c k).toNat)), vI ((sp (c k).toNat).a), vI ((sp (c k).toNat).b), vI ((sp (c k).toNat).c)] 48]) hH52) (.inr rfl) (by simp only [List.length_append, List.length_cons, List.length_nil, rep_len]; omega)).mono ?_
          rintro e w7 ⟨pv21, cp21, rfl, hb7⟩
          refine ⟨_, rfl, ?_⟩
          have hH53 : HP Tr w _ [.cel b5 #[vP b5 0, .slice pv21 (((txV c A B (shD c n).t k ++ (Lib.repeatL [32, 32] ((shD c n).t k).toNat ++ nmL (c k).toNat)) ++ (([32]) ++ (Lib.itoa (A k)))) ++ (([32]) ++ (Lib.itoa (B k)))).length cp21] 42, .own (.slice pv21 (((txV c A B (shD c n).t k ++ (Lib.repeatL [32, 32] ((shD c n).t k).toNat ++ nmL (c k).toNat)) ++ (([32]) ++ (Lib.itoa (A k)))) ++ (([32]) ++ (Lib.itoa (B k)))).length cp21) (((txV c A B (shD c n).t k ++ (Lib.repeatL [32, 32] ((shD c n).t k).toNat ++ nmL (c k).toNat)) ++ (([32]) ++ (Lib.itoa (A k)))) ++ (([32]) ++ (Lib.itoa (B k)))).length (bC (((txV c A B (shD c n).t k ++ (Lib.repeatL [32, 32] ((shD c n).t k).toNat ++ nmL (c k).toNat)) ++ (([32]) ++ (Lib.itoa (A k)))) ++ (([32]) ++ (Lib.itoa (B k))))) 5 1, .cel g0 (irow n (shD c n).o) 3, .cel g1 (irow n (shD c n).e) 3, .cel g2 (irow n (shD c n).d) 3, .cel g3 (irow n (shD c n).t) 3, .cel b8 #[vI (c k), vI (A k), vI (B k)] 33, .cel b9 #[.string (bS (nmL (c k).toNat)), vI ((sp (c k).toNat).a), vI ((sp (c k).toNat).b), vI ((sp (c k).toNat).c)] 48] := HP.exchF (A := [Ent.cel b5 #[vP b5 0, .slice pv20 ((txV c A B (shD c n).t k ++ (Lib.repeatL [32, 32] ((shD c n).t k).toNat ++ nmL (c k).toNat)) ++ (([32]) ++ (Lib.itoa (A k)))).length cp20] 42, Ent.own (.slice pv20 ((txV c A B (shD c n).t k ++ (Lib.repeatL [32, 32] ((shD c n).t k).toNat ++ nmL (c k).toNat)) ++ (([32]) ++ (Lib.itoa (A k)))).length cp20) ((txV c A B (shD c n).t k ++ (Lib.repeatL [32, 32] ((shD c n).t k).toNat ++ nmL (c k).toNat)) ++ (([32]) ++ (Lib.itoa (A k)))).length (bC ((txV c A B (shD c n).t k ++ (Lib.repeatL [32, 32] ((shD c n).t k).toNat ++ nmL (c k).toNat)) ++ (([32]) ++ (Lib.itoa (A k))))) 5 1]) (B := [Ent.cel g0 (irow n (shD c n).o) 3, Ent.cel g1 (irow n (shD c n).e) 3, Ent.cel g2 (irow n (shD c n).d) 3, Ent.cel g3 (irow n (shD c n).t) 3, Ent.cel b8 #[vI (c k), vI (A k), vI (B k)] 33, Ent.cel b9 #[.string (bS (nmL (c k).toNat)), vI ((sp (c k).toNat).a), vI ((sp (c k).toNat).b), vI ((sp (c k).toNat).c)] 48]) hH52 hb7
          refine WL.nil ?_
          refine WQ.then ?_
          refine hK48 _ _ _ ?_
          refine WC.sub (l' := [(0, .slice (some ⟨bb, oo, none⟩) n cap), (5, vP b5 0), (6, vS g3 n n), (7, vI (k : Int)), (8, vP b8 0), (9, vP b9 0), (19, .slice (some ⟨bb, oo, none⟩) n cap), (20, vI (n : Int)), (21, vI (k : Int)), (22, .bool true), (43, .bool true), (51, .bool true)]) ⟨rfl, rfl, rfl, rfl, rfl, rfl, rfl, rfl, rfl, rfl, rfl, rfl, trivial⟩ ?_
          refine WC.region ?_
          refine WL.call (f := 16) (args := #[vP b5 0, .string (bS [10])]) 57 rfl (Nat.le_of_ble_eq_true rfl) rfl rfl (by kernel_rfl) ?_
          refine (WS_any b5 (vP b5 0) pv21 cp21 (((txV c A B (shD c n).t k ++ (Lib.repeatL [32, 32] ((shD c n).t k).toNat ++ nmL (c k).toNat)) ++ (([32]) ++ (Lib.itoa (A k)))) ++ (([32]) ++ (Lib.itoa (B k)))) ([10]) _ (HP.ownF (A := [Ent.cel b5 #[vP b5 0, .slice pv21 (((txV c A B (shD c n).t k ++ (Lib.repeatL [32, 32] ((shD c n).t k).toNat ++ nmL (c k).toNat)) ++ (([32]) ++ (Lib.itoa (A k)))) ++ (([32]) ++ (Lib.itoa (B k)))).length cp21] 42, Ent.own (.slice pv21 (((txV c A B (shD c n).t k ++ (Lib.repeatL [32, 32] ((shD c n).t k).toNat ++ nmL (c k).toNat)) ++ (([32]) ++ (Lib.itoa (A k)))) ++ (([32]) ++ (Lib.itoa (B k)))).length cp21) (((txV c A B (shD c n).t k ++ (Lib.repeatL [32, 32] ((shD c n).t k).toNat ++ nmL (c k).toNat)) ++ (([32]) ++ (Lib.itoa (A k)))) ++ (([32]) ++ (Lib.itoa (B k)))).length (bC (((txV c A B (shD c n).t k ++ (Lib.repeatL [32, 32] ((shD c n).t k).toNat ++ nmL (c k).toNat)) ++ (([32]) ++ (Lib.itoa (A k)))) ++ (([32]) ++ (Lib.itoa (B k))))) 5 1]) (B := [Ent.cel g0 (irow n (shD c n).o) 3, Ent.cel g1 (irow n (shD c n).e) 3, Ent.cel g2 (irow n (shD c n).d) 3, Ent.cel g3 (irow n (shD c n).t) 3, Ent.cel b8 #[vI (c k), vI (A k), vI (B k)] 33, Ent.cel b9 #[.string (bS (nmL (c k).toNat)), vI ((sp (c k).toNat).a), vI ((sp (c k).toNat).b), vI ((sp (c k).toNat).c)] 48]) hH53) (.inr rfl) (by simp only [List.length_append, List.length_cons, List.length_nil, rep_len]; omega)).mono ?_
          rintro e w7 ⟨pv22, cp22, rfl, hb7⟩
          refine ⟨_, rfl, ?_⟩
          have hH54 : HP Tr w _ [.cel b5 #[vP b5 0, .slice pv22 ((((txV c A B (shD c n).t k ++ (Lib.repeatL [32, 32] ((shD c n).t k).toNat ++ nmL (c k).toNat)) ++ (([32]) ++ (Lib.itoa (A k)))) ++ (([32]) ++ (Lib.itoa (B k)))) ++ ([10])).length cp22] 42, .own (.slice pv22 ((((txV c A B (shD c n).t k ++ (Lib.repeatL [32, 32] ((shD c n).t k).toNat ++ nmL (c k).toNat)) ++ (([32]) ++ (Lib.itoa (A k)))) ++ (([32]) ++ (Lib.itoa (B k)))) ++ ([10])).length cp22) ((((txV c A B (shD c n).t k ++ (Lib.repeatL [32, 32] ((shD c n).t k).toNat ++ nmL (c k).toNat)) ++ (([32]) ++ (Lib.itoa (A k)))) ++ (([32]) ++ (Lib.itoa (B k)))) ++ ([10])).length (bC ((((txV c A B (shD c n).t k ++ (Lib.repeatL [32, 32] ((shD c n).t k).toNat ++ nmL (c k).toNat)) ++ (([32]) ++ (Lib.itoa (A k)))) ++ (([32]) ++ (Lib.itoa (B k)))) ++ ([10]))) 5 1, .cel g0 (irow n (shD c n).o) 3, .cel g1 (irow n (shD c n).e) 3, .cel g2 (irow n (shD c n).d) 3, .cel g3 (irow n (shD c n).t) 3, .cel b8 #[vI (c k), vI (A k), vI (B k)] 33, .cel b9 #[.string (bS (nmL (c k).toNat)), vI ((sp (c k).toNat).a), vI ((sp (c k).toNat).b), vI ((sp (c k).toNat).c)] 48] := HP.exchF (A := [Ent.cel b5 #[vP b5 0, .slice pv21 (((txV c A B (shD c n).t k ++ (Lib.repeatL [32, 32] ((shD c n).t k).toNat ++ nmL (c k).toNat)) ++ (([32]) ++ (Lib.itoa (A k)))) ++ (([32]) ++ (Lib.itoa (B k)))).length cp21] 42, Ent.own (.slice pv21 (((txV c A B (shD c n).t k ++ (Lib.repeatL [32, 32] ((shD c n).t k).toNat ++ nmL (c k).toNat)) ++ (([32]) ++ (Lib.itoa (A k)))) ++ (([32]) ++ (Lib.itoa (B k)))).length cp21) (((txV c A B (shD c n).t k ++ (Lib.repeatL [32, 32] ((shD c n).t k).toNat ++ nmL (c k).toNat)) ++ (([32]) ++ (Lib.itoa (A k)))) ++ (([32]) ++ (Lib.itoa (B k)))).length (bC (((txV c A B (shD c n).t k ++ (Lib.repeatL [32, 32] ((shD c n).t k).toNat ++ nmL (c k).toNat)) ++ (([32]) ++ (Lib.itoa (A k)))) ++ (([32]) ++ (Lib.itoa (B k))))) 5 1]) (B := [Ent.cel g0 (irow n (shD c n).o) 3, Ent.cel g1 (irow n (shD c n).e) 3, Ent.cel g2 (irow n (shD c n).d) 3, Ent.cel g3 (irow n (shD c n).t) 3, Ent.cel b8 #[vI (c k), vI (A k), vI (B k)] 33, Ent.cel b9 #[.string (bS (nmL (c k).toNat)), vI ((sp (c k).toNat).a), vI ((sp (c k).toNat).b), vI ((sp (c k).toNat).c)] 48]) hH53 hb7
          refine WL.nil ?_
          refine WQ.inNormal ?_
          refine WQ.then ?_
          refine hK25 _ _ _ ?_
          refine WC.region ?_
          refine WL.pure (v := vI ((k + 1 : Nat) : Int)) 58 rfl (Nat.le_of_ble_eq_true rfl) rfl rfl (x_add (Z := ((k + 1 : Nat) : Int)) rfl rfl rfl (by omega) (by omega) (by omega)) ?_
          refine WL.pure (v := vI ((k + 1 : Nat) : Int)) 21 rfl (Nat.le_of_ble_eq_true rfl) rfl rfl (by kernel_rfl) ?_
          refine WL.nil ?_
          have hT9 : ((((txV c A B (shD c n).t k ++ (Lib.repeatL [32, 32] ((shD c n).t k).toNat ++ nmL (c k).toNat)) ++ (([32]) ++ (Lib.itoa (A k)))) ++ (([32]) ++ (Lib.itoa (B k)))) ++ ([10])) = txV c A B (shD c n).t (k + 1) := by rw [txV_s]; simp [linT, nmL, ha, hb]
          have hE9 := HP.eq (H' := [Ent.cel b5 #[vP b5 0, .slice pv22 (txV c A B (shD c n).t (k + 1)).length cp22] 42, Ent.own (.slice pv22 (txV c A B (shD c n).t (k + 1)).length cp22) (txV c A B (shD c n).t (k + 1)).length (bC (txV c A B (shD c n).t (k + 1))) 5 1, Ent.cel g0 (irow n (shD c n).o) 3, Ent.cel g1 (irow n (shD c n).e) 3, Ent.cel g2 (irow n (shD c n).d) 3, Ent.cel g3 (irow n (shD c n).t) 3]) (HP.drop (HP.drop hH54 7) 6) (by rw [hT9]; rfl)
          refine WQ.sub (l' := [(0, .slice (some ⟨bb, oo, none⟩) n cap), (5, vP b5 0), (6, vS g3 n n), (19, .slice (some ⟨bb, oo, none⟩) n cap), (20, vI (n : Int)), (21, vI ((k + 1 : Nat) : Int))]) ⟨rfl, rfl, rfl, rfl, rfl, rfl, trivial⟩ ?_
          refine WQ.then (hK20 _ _ _ (by omega) ⟨k + 1, vP b5 0, pv22, cp22, rfl, rfl, by omega, .inr rfl, by rw [← hT9]; simp only [List.length_append, List.length_cons, List.length_nil, rep_len]; omega, hE9⟩)
        ·
          refine WL.pure (v := .bool false) 51 rfl (Nat.le_of_ble_eq_true rfl) rfl rfl (x_neq rfl rfl rfl (dF (hb))) ?_
          refine WL.nil ?_
          refine WQ.then ?_
          refine hK49 _ _ _ ?_
          refine WC.no rfl ?_
          refine WC.skip ?_
          refine WQ.then ?_
          refine hK48 _ _ _ ?_
          refine WC.region ?_
          refine WL.call (f := 16) (args := #[vP b5 0, .string (bS [10])]) 57 rfl (Nat.le_of_ble_eq_true rfl) rfl rfl (by kernel_rfl) ?_
          refine (WS_any b5 (vP b5 0) pv20 cp20 ((txV c A B (shD c n).t k ++ (Lib.repeatL [32, 32] ((shD c n).t k).toNat ++ nmL (c k).toNat)) ++ (([32]) ++ (Lib.itoa (A k)))) ([10]) _ (HP.ownF (A := [Ent.cel b5 #[vP b5 0, .slice pv20 ((txV c A B (shD c n).t k ++ (Lib.repeatL [32, 32] ((shD c n).t k).toNat ++ nmL (c k).toNat)) ++ (([32]) ++ (Lib.itoa (A k)))).length cp20] 42, Ent.own (.slice pv20 ((txV c A B (shD c n).t k ++ (Lib.repeatL [32, 32] ((shD c n).t k).toNat ++ nmL (c k).toNat)) ++ (([32]) ++ (Lib.itoa (A k)))).length cp20) ((txV c A B (shD c n).t k ++ (Lib.repeatL [32, 32] ((shD c n).t k).toNat ++ nmL (c k).toNat)) ++ (([32]) ++ (Lib.itoa (A k)))).length (bC ((txV c A B (shD c n).t k ++ (Lib.repeatL [32, 32] ((shD c n).t k).toNat ++ nmL (c k).toNat)) ++ (([32]) ++ (Lib.itoa (A k))))) 5 1]) (B := [Ent.cel g0 (irow n (shD c n).o) 3, Ent.cel g1 (irow n (shD c n).e) 3, Ent.cel g2 (irow n (shD c n).d) 3, Ent.cel g3 (irow n (shD c n).t) 3, Ent.cel b8 #[vI (c k), vI (A k), vI (B k)] 33, Ent.cel b9 #[.string (bS (nmL (c k).toNat)), vI ((sp (c k).toNat).a), vI ((sp (c k).toNat).b), vI ((sp (c k).toNat).c)] 48]) hH47) (.inr rfl) (by simp only [List.length_append, List.length_cons, List.length_nil, rep_len]; omega)).mono ?_
          rintro e w7 ⟨pv21, cp21, rfl, hb7⟩
          refine ⟨_, rfl, ?_⟩
          have hH55 : HP Tr w _ [.cel b5 #[vP b5 0, .slice pv21 (((txV c A B (shD c n).t k ++ (Lib.repeatL [32, 32] ((shD c n).t k).toNat ++ nmL (c k).toNat)) ++ (([32]) ++ (Lib.itoa (A k)))) ++ ([10])).length cp21] 42, .own (.slice pv21 (((txV c A B (shD c n).t k ++ (Lib.repeatL [32, 32] ((shD c n).t k).toNat ++ nmL (c k).toNat)) ++ (([32]) ++ (Lib.itoa (A k)))) ++ ([10])).length cp21) (((txV c A B (shD c n).t k ++ (Lib.repeatL [32, 32] ((shD c n).t k).toNat ++ nmL (c k).toNat)) ++ (([32]) ++ (Lib.itoa (A k)))) ++ ([10])).length (bC (((txV c A B (shD c n).t k ++ (Lib.repeatL [32, 32] ((shD c n).t k).toNat ++ nmL (c k).toNat)) ++ (([32]) ++ (Lib.itoa (A k)))) ++ ([10]))) 5 1, .cel g0 (irow n (shD c n).o) 3, .cel g1 (irow n (shD c n).e) 3, .cel g2 (irow n (shD c n).d) 3, .cel g3 (irow n (shD c n).t) 3, .cel b8 #[vI (c k), vI (A k), vI (B k)] 33, .cel b9 #[.string (bS (nmL (c k).toNat)), vI ((sp (c k).toNat).a), vI ((sp (c k).toNat).b), vI ((sp (c k).toNat).c)] 48] := HP.exchF (A := [Ent.cel b5 #[vP b5 0, .slice pv20 ((txV c A B (shD c n).t k ++ (Lib.repeatL [32, 32] ((shD c n).t k).toNat ++ nmL (c k).toNat)) ++ (([32]) ++ (Lib.itoa (A k)))).length cp20] 42, Ent.own (.slice pv20 ((txV c A B (shD c n).t k ++ (Lib.repeatL [32, 32] ((shD c n).t k).toNat ++ nmL (c k).toNat)) ++ (([32]) ++ (Lib.itoa (A k)))).length cp20) ((txV c A B (shD c n).t k ++ (Lib.repeatL [32, 32] ((shD c n).t k).toNat ++ nmL (c k).toNat)) ++ (([32]) ++ (Lib.itoa (A k)))).length (bC ((txV c A B (shD c n).t k ++ (Lib.repeatL [32, 32] ((shD c n).t k).toNat ++ nmL (c k).toNat)) ++ (([32]) ++ (Lib.itoa (A k))))) 5 1]) (B := [Ent.cel g0 (irow n (shD c n).o) 3, Ent.cel g1 (irow n (shD c n).e) 3, Ent.cel g2 (irow n (shD c n).d) 3, Ent.cel g3 (irow n (shD c n).t) 3, Ent.cel b8 #[vI (c k), vI (A k), vI (B k)] 33, Ent.cel b9 #[.string (bS (nmL (c k).toNat)), vI ((sp (c k).toNat).a), vI ((sp (c k).toNat).b), vI ((sp (c k).toNat).c)] 48]) hH47 hb7
          refine WL.nil ?_
          refine WQ.inNormal ?_
          refine WQ.then ?_
          refine hK25 _ _ _ ?_
          refine WC.region ?_
          refine WL.pure (v := vI ((k + 1 : Nat) : Int)) 58 rfl (Nat.le_of_ble_eq_true rfl) rfl rfl (x_add (Z := ((k + 1 : Nat) : Int)) rfl rfl rfl (by omega) (by omega) (by omega)) ?_
          refine WL.pure (v := vI ((k + 1 : Nat) : Int)) 21 rfl (Nat.le_of_ble_eq_true rfl) rfl rfl (by kernel_rfl) ?_
          refine WL.nil ?_
          have hT9 : (((txV c A B (shD c n).t k ++ (Lib.repeatL [32, 32] ((shD c n).t k).toNat ++ nmL (c k).toNat)) ++ (([32]) ++ (Lib.itoa (A k)))) ++ ([10])) = txV c A B (shD c n).t (k + 1) := by rw [txV_s]; simp [linT, nmL, ha, hb]
          have hE9 := HP.eq (H' := [Ent.cel b5 #[vP b5 0, .slice pv21 (txV c A B (shD c n).t (k + 1)).length cp21] 42, Ent.own (.slice pv21 (txV c A B (shD c n).t (k + 1)).length cp21) (txV c A B (shD c n).t (k + 1)).length (bC (txV c A B (shD c n).t (k + 1))) 5 1, Ent.cel g0 (irow n (shD c n).o) 3, Ent.cel g1 (irow n (shD c n).e) 3, Ent.cel g2 (irow n (shD c n).d) 3, Ent.cel g3 (irow n (shD c n).t) 3]) (HP.drop (HP.drop hH55 7) 6) (by rw [hT9]; rfl)
          refine WQ.sub (l' := [(0, .slice (some ⟨bb, oo, none⟩) n cap), (5, vP b5 0), (6, vS g3 n n), (19, .slice (some ⟨bb, oo, none⟩) n cap), (20, vI (n : Int)), (21, vI ((k + 1 : Nat) : Int))]) ⟨rfl, rfl, rfl, rfl, rfl, rfl, trivial⟩ ?_
          refine WQ.then (hK20 _ _ _ (by omega) ⟨k + 1, vP b5 0, pv21, cp21, rfl, rfl, by omega, .inr rfl, by rw [← hT9]; simp only [List.length_append, List.length_cons, List.length_nil, rep_len]; omega, hE9⟩)
      ·
        refine WL.pure (v := .bool false) 43 rfl (Nat.le_of_ble_eq_true rfl) rfl rfl (x_neq rfl rfl rfl (dF (ha))) ?_
        refine WL.nil ?_
        refine WQ.then ?_
        refine hK43 _ _ _ ?_
        refine WC.no rfl ?_
        refine WC.skip ?_
        refine WQ.then ?_
        refine hK42 _ _ _ ?_
        refine WC.seq fun K56 hK56 => ?_
        refine WC.seq fun K57 hK57 => ?_
        refine WC.region ?_
        refine WL.pure (v := vP b9 2) 49 rfl (Nat.le_of_ble_eq_true rfl) rfl rfl (by kernel_rfl) ?_
        refine WL.pure (v := vI ((sp (c k).toNat).b)) 50 rfl (Nat.le_of_ble_eq_true rfl) rfl rfl (x_load rfl rfl Tryd.underlying3 rfl (HP.cell hH41 7 rfl rfl)) ?_
        by_cases hb : (sp (c k).toNat).b ≠ 0
        ·
          refine WL.pure (v := .bool true) 51 rfl (Nat.le_of_ble_eq_true rfl) rfl rfl (x_neq rfl rfl rfl (dT (hb))) ?_
          refine WL.nil ?_
          refine WQ.then ?_
          refine hK57 _ _ _ ?_
          refine WC.yes rfl ?_
          refine WC.region ?_
          refine WL.pure (v := vP b8 2) 52 rfl (Nat.le_of_ble_eq_true rfl) rfl rfl (by kernel_rfl) ?_
          refine WL.pure (v := vI (B k)) 53 rfl (Nat.le_of_ble_eq_true rfl) rfl rfl (x_load rfl rfl Tryd.underlying3 rfl (HP.cell hH41 6 rfl rfl)) ?_
          refine WL.call (f := 18) (args := #[vI (B k)]) 54 rfl (Nat.le_of_ble_eq_true rfl) rfl rfl (by kernel_rfl) ?_
          refine (itoa_any (B k) _ (by omega) (hE.below (HP.below hH41))).mono ?_
          rintro e w58 ⟨rfl, hb59⟩
          refine ⟨_, rfl, ?_⟩
          have hH60 : HP Tr w _ [.cel b5 #[vP b5 0, .slice pv10 (txV c A B (shD c n).t k ++ ((Lib.repeatL [32, 32] ((shD c n).t k).toNat) ++ (nmL (c k).toNat))).length cp10] 42, .own (.slice pv10 (txV c A B (shD c n).t k ++ ((Lib.repeatL [32, 32] ((shD c n).t k).toNat) ++ (nmL (c k).toNat))).length cp10) (txV c A B (shD c n).t k ++ ((Lib.repeatL [32, 32] ((shD c n).t k).toNat) ++ (nmL (c k).toNat))).length (bC (txV c A B (shD c n).t k ++ ((Lib.repeatL [32, 32] ((shD c n).t k).toNat) ++ (nmL (c k).toNat)))) 5 1, .cel g0 (irow n (shD c n).o) 3, .cel g1 (irow n (shD c n).e) 3, .cel g2 (irow n (shD c n).d) 3, .cel g3 (irow n (shD c n).t) 3, .cel b8 #[vI (c k), vI (A k), vI (B k)] 33, .cel b9 #[.string (bS (nmL (c k).toNat)), vI ((sp (c k).toNat).a), vI ((sp (c k).toNat).b), vI ((sp (c k).toNat).c)] 48] := HP.call hH41 hb59
          refine WL.pure (v := .string (bS (([32]) ++ (Lib.itoa (B k))))) 55 rfl (Nat.le_of_ble_eq_true rfl) rfl rfl (x_sadd ([32]) ((Lib.itoa (B k))) rfl rfl rfl (by simp only [List.length_append, List.length_cons, List.length_nil, rep_len]; omega)) ?_
          refine WL.call (f := 16) (args := #[vP b5 0, .string (bS (([32]) ++ (Lib.itoa (B k))))]) 56 rfl (Nat.le_of_ble_eq_true rfl) rfl rfl (by kernel_rfl) ?_
          refine (WS_any b5 (vP b5 0) pv10 cp10 (txV c A B (shD c n).t k ++ (Lib.repeatL [32, 32] ((shD c n).t k).toNat ++ nmL (c k).toNat)) (([32]) ++ (Lib.itoa (B k))) _ (HP.ownF (A := [Ent.cel b5 #[vP b5 0, .slice pv10 (txV c A B (shD c n).t k ++ ((Lib.repeatL [32, 32] ((shD c n).t k).toNat) ++ (nmL (c k).toNat))).length cp10] 42, Ent.own (.slice pv10 (txV c A B (shD c n).t k ++ ((Lib.repeatL [32, 32] ((shD c n).t k).toNat) ++ (nmL (c k).toNat))).length cp10) (txV c A B (shD c n).t k ++ ((Lib.repeatL [32, 32] ((shD c n).t k).toNat) ++ (nmL (c k).toNat))).length (bC (txV c A B (shD c n).t k ++ ((Lib.repeatL [32, 32] ((shD c n).t k).toNat) ++ (nmL (c k).toNat)))) 5 1]) (B := [Ent.cel g0 (irow n (shD c n).o) 3, Ent.cel g1 (irow n (shD c n).e) 3, Ent.cel g2 (irow n (shD c n).d) 3, Ent.cel g3 (irow n (shD c n).t) 3, Ent.cel b8 #[vI (c k), vI (A k), vI (B k)] 33, Ent.cel b9 #[.string (bS (nmL (c k).toNat)), vI ((sp (c k).toNat).a), vI ((sp (c k).toNat).b), vI ((sp (c k).toNat).c)] 48]) hH60) (.inr rfl) (by simp only [List.length_append, List.length_cons, List.length_nil, rep_len]; omega)).mono ?_
          rintro e w7 ⟨pv20, cp20, rfl, hb7⟩
          refine ⟨_, rfl, ?_⟩
          have hH61 : HP Tr w _ [.cel b5 #[vP b5 0, .slice pv20 ((txV c A B (shD c n).t k ++ (Lib.repeatL [32, 32] ((shD c n).t k).toNat ++ nmL (c k).toNat)) ++ (([32]) ++ (Lib.itoa (B k)))).length cp20] 42, .own (.slice pv20 ((txV c A B (shD c n).t k ++ (Lib.repeatL [32, 32] ((shD c n).t k).toNat ++ nmL (c k).toNat)) ++ (([32]) ++ (Lib.itoa (B k)))).length cp20) ((txV c A B (shD c n).t k ++ (Lib.repeatL [32, 32] ((shD c n).t k).toNat ++ nmL (c k).toNat)) ++ (([32]) ++ (Lib.itoa (B k)))).length (bC ((txV c A B (shD c n).t k ++ (Lib.repeatL [32, 32] ((shD c n).t k).toNat ++ nmL (c k).toNat)) ++ (([32]) ++ (Lib.itoa (B k))))) 5 1, .cel g0 (irow n (shD c n).o) 3, .cel g1 (irow n (shD c n).e) 3, .cel g2 (irow n (shD c n).d) 3, .cel g3 (irow n (shD c n).t) 3, .cel b8 #[vI (c k), vI (A k), vI (B k)] 33, .cel b9 #[.string (bS (nmL (c k).toNat)), vI ((sp (c k).toNat).a), vI ((sp (c k).toNat).b), vI ((sp (c k).toNat).c)] 48] := HP.exchF (A := [Ent.cel b5 #[vP b5 0, .slice pv10 (txV c A B (shD c n).t k ++ ((Lib.repeatL [32, 32] ((shD c n).t k).toNat) ++ (nmL (c k).toNat))).length cp10] 42, Ent.own (.slice pv10 (txV c A B (shD c n).t k ++ ((Lib.repeatL [32, 32] ((shD c n).t k).toNat) ++ (nmL (c k).toNat))).length cp10) (txV c A B (shD c n).t k ++ ((Lib.repeatL [32, 32] ((shD c n).t k).toNat) ++ (nmL (c k).toNat))).length (bC (txV c A B (shD c n).t k ++ ((Lib.repeatL [32, 32] ((shD c n).t k).toNat) ++ (nmL (c k).toNat)))) 5 1]) (B := [Ent.cel g0 (irow n (shD c n).o) 3, Ent.cel g1 (irow n (shD c n).e) 3, Ent.cel g2 (irow n (shD c n).d) 3, Ent.cel g3 (irow n (shD c n).t) 3, Ent.cel b8 #[vI (c k), vI (A k), vI (B k)] 33, Ent.cel b9 #[.string (bS (nmL (c k).toNat)), vI ((sp (c k).toNat).a), vI ((sp (c k).toNat).b), vI ((sp (c k).toNat).c)] 48]) hH60 hb7
          refine WL.nil ?_
          refine WQ.then ?_
          refine hK56 _ _ _ ?_
          refine WC.sub (l' := [(0, .slice (some ⟨bb, oo, none⟩) n cap), (5, vP b5 0), (6, vS g3 n n), (7, vI (k : Int)), (8, vP b8 0), (9, vP b9 0), (19, .slice (some ⟨bb, oo, none⟩) n cap), (20, vI (n : Int)), (21, vI (k : Int)), (22, .bool true), (43, .bool false), (51, .bool true)]) ⟨rfl, rfl, rfl, rfl, rfl, rfl, rfl, rfl, rfl, rfl, rfl, rfl, trivial⟩ ?_
          refine WC.region ?_
          refine WL.call (f := 16) (args := #[vP b5 0, .string (bS [10])]) 57 rfl (Nat.le_of_ble_eq_true rfl) rfl rfl (by kernel_rfl) ?_
          refine (WS_any b5 (vP b5 0) pv20 cp20 ((txV c A B (shD c n).t k ++ (Lib.repeatL [32, 32] ((shD c n).t k).toNat ++ nmL (c k).toNat)) ++ (([32]) ++ (Lib.itoa (B k)))) ([10]) _ (HP.ownF (A := [Ent.cel b5 #[vP b5 0, .slice pv20 ((txV c A B (shD c n).t k ++ (Lib.repeatL [32, 32] ((shD c n).t k).toNat ++ nmL (c k).toNat)) ++ (([32]) ++ (Lib.itoa (B k)))).length cp20] 42, Ent.own (.slice pv20 ((txV c A B (shD c n).t k ++ (Lib.repeatL [32, 32] ((shD c n).t k).toNat ++ nmL (c k).toNat)) ++ (([32]) ++ (Lib.itoa (B k)))).length cp20) ((txV c A B (shD c n).t k ++ (Lib.repeatL [32, 32] ((shD c n).t k).toNat ++ nmL (c k).toNat)) ++ (([32]) ++ (Lib.itoa (B k)))).length (bC ((txV c A B (shD c n).t k ++ (Lib.repeatL [32, 32] ((shD c n).t k).toNat ++ nmL (c k).toNat)) ++ (([32]) ++ (Lib.itoa (B k))))) 5 1]) (B := [Ent.cel g0 (irow n (shD c n).o) 3, Ent.cel g1 (irow n (shD c n).e) 3, Ent.cel g2 (irow n (shD c n).d) 3, Ent.cel g3 (irow n (shD c n).t) 3, Ent.cel b8 #[vI (c k), vI (A k), vI (B k)] 33, Ent.cel b9 #[.string (bS (nmL (c k).toNat)), vI ((sp (c k).toNat).a), vI ((sp (c k).toNat).b), vI ((sp (c k).toNat).c)] 48]) hH61) (.inr rfl) (by simp only [List.length_append, List.length_cons, List.length_nil, rep_len]; omega)).mono ?_
          rintro e w7 ⟨pv21, cp21, rfl, hb7⟩
          refine ⟨_, rfl, ?_⟩
          have hH62 : HP Tr w _ [.cel b5 #[vP b5 0, .slice pv21 (((txV c A B (shD c n).t k ++ (Lib.repeatL [32, 32] ((shD c n).t k).toNat ++ nmL (c k).toNat)) ++ (([32]) ++ (Lib.itoa (B k)))) ++ ([10])).length cp21] 42, .own (.slice pv21 (((txV c A B (shD c n).t k ++ (Lib.repeatL [32, 32] ((shD c n).t k).toNat ++ nmL (c k).toNat)) ++ (([32]) ++ (Lib.itoa (B k)))) ++ ([10])).length cp21) (((txV c A B (shD c n).t k ++ (Lib.repeatL [32, 32] ((shD c n).t k).toNat ++ nmL (c k).toNat)) ++ (([32]) ++ (Lib.itoa (B k)))) ++ ([10])).length (bC (((txV c A B (shD c n).t k ++ (Lib.repeatL [32, 32] ((shD c n).t k).toNat ++ nmL (c k).toNat)) ++ (([32]) ++ (Lib.itoa (B k)))) ++ ([10]))) 5 1, .cel g0 (irow n (shD c n).o) 3, .cel g1 (irow n (shD c n).e) 3, .cel g2 (irow n (shD c n).d) 3, .cel g3 (irow n (shD c n).t) 3, .cel b8 #[vI (c k), vI (A k), vI (B k)] 33, .cel b9 #[.string (bS (nmL (c k).toNat)), vI ((sp (c k).toNat).a), vI ((sp (c k).toNat).b), vI ((sp (c k).toNat).c)] 48] := HP.exchF (A := [Ent.cel b5 #[vP b5 0, .slice pv20 ((txV c A B (shD c n).t k ++ (Lib.repeatL [32, 32] ((shD c n).t k).toNat ++ nmL (c k).toNat)) ++ (([32]) ++ (Lib.itoa (B k)))).length cp20] 42, Ent.own (.slice pv20 ((txV c A B (shD c n).t k ++ (Lib.repeatL [32, 32] ((shD c n).t k).toNat ++ nmL (c k).toNat)) ++ (([32]) ++ (Lib.itoa (B k)))).length cp20) ((txV c A B (shD c n).t k ++ (Lib.repeatL [32, 32] ((shD c n).t k).toNat ++ nmL (c k).toNat)) ++ (([32]) ++ (Lib.itoa (B k)))).length (bC ((txV c A B (shD c n).t k ++ (Lib.repeatL [32, 32] ((shD c n).t k).toNat ++ nmL (c k).toNat)) ++ (([32]) ++ (Lib.itoa (B k))))) 5 1]) (B := [Ent.cel g0 (irow n (shD c n).o) 3, Ent.cel g1 (irow n (shD c n).e) 3, Ent.cel g2 (irow n (shD c n).d) 3, Ent.cel g3 (irow n (shD c n).t) 3, Ent.cel b8 #[vI (c k), vI (A k), vI (B k)] 33, Ent.cel b9 #[.string (bS (nmL (c k).toNat)), vI ((sp (c k).toNat).a), vI ((sp (c k).toNat).b), vI ((sp (c k).toNat).c)] 48]) hH61 hb7
          refine WL.nil ?_
          refine WQ.inNormal ?_
          refine WQ.then ?_
          refine hK25 _ _ _ ?_
          refine WC.region ?_
          refine WL.pure (v := vI ((k + 1 : Nat) : Int)) 58 rfl (Nat.le_of_ble_eq_true rfl) rfl rfl (x_add (Z := ((k + 1 : Nat) : Int)) rfl rfl rfl (by omega) (by omega) (by omega)) ?_
          refine WL.pure (v := vI ((k + 1 : Nat) : Int)) 21 rfl (Nat.le_of_ble_eq_true rfl) rfl rfl (by kernel_rfl) ?_
          refine WL.nil ?_
          have hT9 : (((txV c A B (shD c n).t k ++ (Lib.repeatL [32, 32] ((shD c n).t k).toNat ++ nmL (c k).toNat)) ++ (([32]) ++ (Lib.itoa (B k)))) ++ ([10])) = txV c A B (shD c n).t (k + 1) := by rw [txV_s]; simp [linT, nmL, ha, hb]
          have hE9 := HP.eq (H' := [Ent.cel b5 #[vP b5 0, .slice pv21 (txV c A B (shD c n).t (k + 1)).length cp21] 42, Ent.own (.slice pv21 (txV c A B (shD c n).t (k + 1)).length cp21) (txV c A B (shD c n).t (k + 1)).length (bC (txV c A B (shD c n).t (k + 1))) 5 1, Ent.cel g0 (irow n (shD c n).o) 3, Ent.cel g1 (irow n (shD c n).e) 3, Ent.cel g2 (irow n (shD c n).d) 3, Ent.cel g3 (irow n (shD c n).t) 3]) (HP.drop (HP.drop hH62 7) 6) (by rw [hT9]; rfl)
          refine WQ.sub (l' := [(0, .slice (some ⟨bb, oo, none⟩) n cap), (5, vP b5 0), (6, vS g3 n n), (19, .slice (some ⟨bb, oo, none⟩) n cap), (20, vI (n : Int)), (21, vI ((k + 1 : Nat) : Int))]) ⟨rfl, rfl, rfl, rfl, rfl, rfl, trivial⟩ ?_
          refine WQ.then (hK20 _ _ _ (by omega) ⟨k + 1, vP b5 0, pv21, cp21, rfl, rfl, by omega, .inr rfl, by rw [← hT9]; simp only [List.length_append, List.length_cons, List.length_nil, rep_len]; omega, hE9⟩)
        ·
          refine WL.pure (v := .bool false) 51 rfl (Nat.le_of_ble_eq_true rfl) rfl rfl (x_neq rfl rfl rfl (dF (hb))) ?_
          refine WL.nil ?_
          refine WQ.then ?_
          refine hK57 _ _ _ ?_
          refine WC.no rfl ?_
          refine WC.skip ?_
          refine WQ.then ?_
          refine hK56 _ _ _ ?_
          refine WC.region ?_
          refine WL.call (f := 16) (args := #[vP b5 0, .string (bS [10])]) 57 rfl (Nat.le_of_ble_eq_true rfl) rfl rfl (by kernel_rfl) ?_
          refine (WS_any b5 (vP b5 0) pv10 cp10 (txV c A B (shD c n).t k ++ (Lib.repeatL [32, 32] ((shD c n).t k).toNat ++ nmL (c k).toNat)) ([10]) _ (HP.ownF (A := [Ent.cel b5 #[vP b5 0, .slice pv10 (txV c A B (shD c n).t k ++ ((Lib.repeatL [32, 32] ((shD c n).t k).toNat) ++ (nmL (c k).toNat))).length cp10] 42, Ent.own (.slice pv10 (txV c A B (shD c n).t k ++ ((Lib.repeatL [32, 32] ((shD c n).t k).toNat) ++ (nmL (c k).toNat))).length cp10) (txV c A B (shD c n).t k ++ ((Lib.repeatL [32, 32] ((shD c n).t k).toNat) ++ (nmL (c k).toNat))).length (bC (txV c A B (shD c n).t k ++ ((Lib.repeatL [32, 32] ((shD c n).t k).toNat) ++ (nmL (c k).toNat)))) 5 1]) (B := [Ent.cel g0 (irow n (shD c n).o) 3, Ent.cel g1 (irow n (shD c n).e) 3, Ent.cel g2 (irow n (shD c n).d) 3, Ent.cel g3 (irow n (shD c n).t) 3, Ent.cel b8 #[vI (c k), vI (A k), vI (B k)] 33, Ent.cel b9 #[.string (bS (nmL (c k).toNat)), vI ((sp (c k).toNat).a), vI ((sp (c k).toNat).b), vI ((sp (c k).toNat).c)] 48]) hH41) (.inr rfl) (by simp only [List.length_append, List.length_cons, List.length_nil, rep_len]; omega)).mono ?_
          rintro e w7 ⟨pv20, cp20, rfl, hb7⟩
          refine ⟨_, rfl, ?_⟩
          have hH63 : HP Tr w _ [.cel b5 #[vP b5 0, .slice pv20 ((txV c A B (shD c n).t k ++ (Lib.repeatL [32, 32] ((shD c n).t k).toNat ++ nmL (c k).toNat)) ++ ([10])).length cp20] 42, .own (.slice pv20 ((txV c A B (shD c n).t k ++ (Lib.repeatL [32, 32] ((shD c n).t k).toNat ++ nmL (c k).toNat)) ++ ([10])).length cp20) ((txV c A B (shD c n).t k ++ (Lib.repeatL [32, 32] ((shD c n).t k).toNat ++ nmL (c k).toNat)) ++ ([10])).length (bC ((txV c A B (shD c n).t k ++ (Lib.repeatL [32, 32] ((shD c n).t k).toNat ++ nmL (c k).toNat)) ++ ([10]))) 5 1, .cel g0 (irow n (shD c n).o) 3, .cel g1 (irow n (shD c n).e) 3, .cel g2 (irow n (shD c n).d) 3, .cel g3 (irow n (shD c n).t) 3, .cel b8 #[vI (c k), vI (A k), vI (B k)] 33, .cel b9 #[.string (bS (nmL (c k).toNat)), vI ((sp (c k).toNat).a), vI ((sp (c k).toNat).b), vI ((sp (c k).toNat).c)] 48] := HP.exchF (A := [Ent.cel b5 #[vP b5 0, .slice pv10 (txV c A B (shD c n).t k ++ ((Lib.repeatL [32, 32] ((shD c n).t k).toNat) ++ (nmL (c k).toNat))).length cp10] 42, Ent.own (.slice pv10 (txV c A B (shD c n).t k ++ ((Lib.repeatL [32, 32] ((shD c n).t k).toNat) ++ (nmL (c k).toNat))).length cp10) (txV c A B (shD c n).t k ++ ((Lib.repeatL [32, 32] ((shD c n).t k).toNat) ++ (nmL (c k).toNat))).length (bC (txV c A B (shD c n).t k ++ ((Lib.repeatL [32, 32] ((shD c n).t k).toNat) ++ (nmL (c k).toNat)))) 5 1]) (B := [Ent.cel g0 (irow n (shD c n).o) 3, Ent.cel g1 (irow n (shD c n).e) 3, Ent.cel g2 (irow n (shD c n).d) 3, Ent.cel g3 (irow n (shD c n).t) 3, Ent.cel b8 #[vI (c k), vI (A k), vI (B k)] 33, Ent.cel b9 #[.string (bS (nmL (c k).toNat)), vI ((sp (c k).toNat).a), vI ((sp (c k).toNat).b), vI ((sp (c k).toNat).c)] 48]) hH41 hb7
          refine WL.nil ?_
          refine WQ.inNormal ?_
          refine WQ.then ?_
          refine hK25 _ _ _ ?_
          refine WC.region ?_
          refine WL.pure (v := vI ((k + 1 : Nat) : Int)) 58 rfl (Nat.le_of_ble_eq_true rfl) rfl rfl (x_add (Z := ((k + 1 : Nat) : Int)) rfl rfl rfl (by omega) (by omega) (by omega)) ?_
          refine WL.pure (v := vI ((k + 1 : Nat) : Int)) 21 rfl (Nat.le_of_ble_eq_true rfl) rfl rfl (by kernel_rfl) ?_
          refine WL.nil ?_
          have hT9 : ((txV c A B (shD c n).t k ++ (Lib.repeatL [32, 32] ((shD c n).t k).toNat ++ nmL (c k).toNat)) ++ ([10])) = txV c A B (shD c n).t (k + 1) := by rw [txV_s]; simp [linT, nmL, ha, hb]
          have hE9 := HP.eq (H' := [Ent.cel b5 #[vP b5 0, .slice pv20 (txV c A B (shD c n).t (k + 1)).length cp20] 42, Ent.own (.slice pv20 (txV c A B (shD c n).t (k + 1)).length cp20) (txV c A B (shD c n).t (k + 1)).length (bC (txV c A B (shD c n).t (k + 1))) 5 1, Ent.cel g0 (irow n (shD c n).o) 3, Ent.cel g1 (irow n (shD c n).e) 3, Ent.cel g2 (irow n (shD c n).d) 3, Ent.cel g3 (irow n (shD c n).t) 3]) (HP.drop (HP.drop hH63 7) 6) (by rw [hT9]; rfl)
          refine WQ.sub (l' := [(0, .slice (some ⟨bb, oo, none⟩) n cap), (5, vP b5 0), (6, vS g3 n n), (19, .slice (some ⟨bb, oo, none⟩) n cap), (20, vI (n : Int)), (21, vI ((k + 1 : Nat) : Int))]) ⟨rfl, rfl, rfl, rfl, rfl, rfl, trivial⟩ ?_
          refine WQ.then (hK20 _ _ _ (by omega) ⟨k + 1, vP b5 0, pv20, cp20, rfl, rfl, by omega, .inr rfl, by rw [← hT9]; simp only [List.length_append, List.length_cons, List.length_nil, rep_len]; omega, hE9⟩)
    ·
      refine WL.pure (v := .bool false) 22 rfl (Nat.le_of_ble_eq_true rfl) rfl rfl (x_lss rfl rfl rfl (dF (hlt))) ?_
      refine WL.nil ?_
      refine WQ.then ?_
      refine hK23 _ _ _ ?_
      refine WC.seq fun K64 hK64 => ?_
      refine WC.no rfl ?_
      refine WC.exit ?_
      refine WQ.thenExit ?_
      refine WQ.thenExit ?_
      refine WQ.inExit ?_
      refine WQ.then ?_
      refine hK18 _ _ _ ?_
      refine WC.seq fun K65 hK65 => ?_
      refine WC.region ?_
      refine WL.call (f := 19) (args := #[vP b5 0]) 59 rfl (Nat.le_of_ble_eq_true rfl) rfl rfl (by kernel_rfl) ?_
      refine (string_any hH22 rfl rfl ha0).mono ?_
      rintro e w8 ⟨rfl, hb8⟩
      refine ⟨_, rfl, ?_⟩
      have hH66 : HP Tr w _ [] := HP.of_below hb8
      refine WL.pure (v := .string (bS (txV c A B (shD c n).t k))) 2 rfl (Nat.le_of_ble_eq_true rfl) rfl rfl (by kernel_rfl) ?_
      refine WL.pure (v := vI 0) 3 rfl (Nat.le_of_ble_eq_true rfl) rfl rfl (by kernel_rfl) ?_
      refine WL.nil ?_
      refine WQ.then ?_
      refine hK65 _ _ _ ?_
      refine WC.ret ?_
      refine WQ.ret2 2 3 rfl rfl rfl ?_
      exact ⟨by unfold txP; rw [if_pos hc0, hc0, show k = n by omega], HP.below hH66⟩
set_option maxRecDepth 20000 in
set_option maxHeartbeats 4000000 in
theorem rText_any (p : Option Addr) (n cap : Nat) (c A B : Nat → Int) (w : World) (hIn : InC w p n c A B) (hE : Ev w) :
    Calls Tryd.prog 7 #[.slice p n cap] w fun e w' => e = .returned (.tuple #[.string (bS (txP c A B n)), vI (chk c A B false n)]) ∧ Below w.heap.size w w' := by
  refine calls_of Tryd.func7 rfl (m := 79) rfl [(0, .slice p n cap)] (Fr_enter [.slice p n cap] 79 (Nat.le_of_ble_eq_true rfl)) ?_
  have hH1 : HP Tr w w [] := HP.refl w
  refine WC.seq fun K2 hK2 => ?_
  refine WC.region ?_
  refine WL.pure (v := .string (bS [])) 2 rfl (Nat.le_of_ble_eq_true rfl) rfl rfl (by kernel_rfl) ?_
  refine WL.pure (v := vI 0) 3 rfl (Nat.le_of_ble_eq_true rfl) rfl rfl (by kernel_rfl) ?_
  refine WL.nil ?_
  refine WQ.then ?_
  refine hK2 _ _ _ ?_
  refine WC.seq fun K3 hK3 => ?_
  refine WC.region ?_
  refine WL.pure (v := .slice p n cap) 12 rfl (Nat.le_of_ble_eq_true rfl) rfl rfl (by kernel_rfl) ?_
  refine WL.call (f := 20) (args := #[.slice p n cap]) 13 rfl (Nat.le_of_ble_eq_true rfl) rfl rfl (by kernel_rfl) ?_
  refine (rDepths2_any _ _ _ c A B _ (hIn.below (HP.below hH1))).mono ?_
  rintro e w4 (⟨hc, rfl, hb4⟩ | ⟨hc0, g, rfl, hb4⟩)
  ·
    refine ⟨_, rfl, ?_⟩
    have hH4 : HP Tr w _ [] := HP.call hH1 hb4
    refine WL.pure (v := .tuple #[.slice none 0 0, vI (chk c A B false n)]) 11 rfl (Nat.le_of_ble_eq_true rfl) rfl rfl (by kernel_rfl) ?_
    refine WL.pure (v := .slice none 0 0) 14 rfl (Nat.le_of_ble_eq_true rfl) rfl rfl (by kernel_rfl) ?_
    refine WL.pure (v := vI (chk c A B false n)) 15 rfl (Nat.le_of_ble_eq_true rfl) rfl rfl (by kernel_rfl) ?_
    refine WL.pure (v := .slice none 0 0) 4 rfl (Nat.le_of_ble_eq_true rfl) rfl rfl (by kernel_rfl) ?_
    refine WL.pure (v := vI (chk c A B false n)) 5 rfl (Nat.le_of_ble_eq_true rfl) rfl rfl (by kernel_rfl) ?_
    refine WL.nil ?_
    refine WQ.then ?_
    refine hK3 _ _ _ ?_
    refine WC.seq fun K5 hK5 => ?_
    refine WC.seq fun K6 hK6 => ?_
    refine WC.region ?_
    refine WL.pure (v := vI (chk c A B false n)) 16 rfl (Nat.le_of_ble_eq_true rfl) rfl rfl (by kernel_rfl) ?_
    refine WL.pure (v := .bool true) 17 rfl (Nat.le_of_ble_eq_true rfl) rfl rfl (x_neq rfl rfl rfl (dT hc)) ?_
    refine WL.nil ?_
    refine WQ.then ?_
    refine hK6 _ _ _ ?_
    refine WC.sub (l' := [(0, .slice p n cap), (2, .string (bS [])), (3, vI 0), (4, .slice none 0 0), (5, vI (chk c A B false n)), (17, .bool true)]) ⟨rfl, rfl, rfl, rfl, rfl, rfl, trivial⟩ ?_
    refine WC.yes rfl ?_
    refine WC.seq fun K7 hK7 => ?_
    refine WC.region ?_
    refine WL.pure (v := vI (chk c A B false n)) 18 rfl (Nat.le_of_ble_eq_true rfl) rfl rfl (by kernel_rfl) ?_
    refine WL.pure (v := .string (bS [])) 2 rfl (Nat.le_of_ble_eq_true rfl) rfl rfl (by kernel_rfl) ?_
    refine WL.pure (v := vI (chk c A B false n)) 3 rfl (Nat.le_of_ble_eq_true rfl) rfl rfl (by kernel_rfl) ?_
    refine WL.nil ?_
    refine WQ.then ?_
    refine hK7 _ _ _ ?_
    refine WC.ret ?_
    refine WQ.thenRet ?_
    refine WQ.ret2 2 3 rfl rfl rfl ?_
    exact ⟨by unfold txP; rw [if_neg hc], HP.below hH4⟩
  ·
    refine ⟨_, rfl, ?_⟩
    have hH8 : HP Tr w _ [.cel g (irow n (shD c n).t) 3] := HP.trans hH1 hb4
    have hn : n ≤ 120 := (chk_ok hc0).1
    have hBal := chk_bal hc0
    have hall := (chk_ok hc0).2.1
    refine WL.pure (v := .tuple #[vS g n n, vI 0]) 11 rfl (Nat.le_of_ble_eq_true rfl) rfl rfl (by kernel_rfl) ?_
    refine WL.pure (v := vS g n n) 14 rfl (Nat.le_of_ble_eq_true rfl) rfl rfl (by kernel_rfl) ?_
    refine WL.pure (v := vI 0) 15 rfl (Nat.le_of_ble_eq_true rfl) rfl rfl (by kernel_rfl) ?_
    refine WL.pure (v := vS g n n) 4 rfl (Nat.le_of_ble_eq_true rfl) rfl rfl (by kernel_rfl) ?_
    refine WL.pure (v := vI 0) 5 rfl (Nat.le_of_ble_eq_true rfl) rfl rfl (by kernel_rfl) ?_
    refine WL.nil ?_
    refine WQ.then ?_
    refine hK3 _ _ _ ?_
    refine WC.seq fun K9 hK9 => ?_
    refine WC.seq fun K10 hK10 => ?_
    refine WC.region ?_
    refine WL.pure (v := vI 0) 16 rfl (Nat.le_of_ble_eq_true rfl) rfl rfl (by kernel_rfl) ?_
    refine WL.pure (v := .bool false) 17 rfl (Nat.le_of_ble_eq_true rfl) rfl rfl (x_neq rfl rfl rfl (dF (fun h => h rfl))) ?_
    refine WL.nil ?_
    refine WQ.then ?_
    refine hK10 _ _ _ ?_
    refine WC.sub (l' := [(0, .slice p n cap), (2, .string (bS [])), (3, vI 0), (4, vS g n n), (5, vI 0), (17, .bool false)]) ⟨rfl, rfl, rfl, rfl, rfl, rfl, trivial⟩ ?_
    refine WC.no rfl ?_
    refine WC.skip ?_
    refine WQ.then ?_
    refine hK9 _ _ _ ?_
    refine WC.seq fun K11 hK11 => ?_
    refine WC.region ?_
    refine WL.pure (v := .string (bS [])) 6 rfl (Nat.le_of_ble_eq_true rfl) rfl rfl (by kernel_rfl) ?_
    refine WL.nil ?_
    refine WQ.then ?_
    refine hK11 _ _ _ ?_
    refine WC.seq fun K12 hK12 => ?_
    refine WC.seq fun K13 hK13 => ?_
    refine WC.region ?_
    refine WL.pure (v := vI 0) 7 rfl (Nat.le_of_ble_eq_true rfl) rfl rfl (by kernel_rfl) ?_
    refine WL.nil ?_
    refine WQ.then ?_
    refine hK13 _ _ _ ?_
    refine WC.block ?_
    refine WC.loop (fun kk0 ll0 ww0 => ∃ (k : Nat), ll0 = [(0, .slice p n cap), (4, vS g n n), (6, .string (bS (txV c A B (shD c n).t k))), (7, vI (k : Int))] ∧ kk0 = n - k ∧ (k ≤ n) ∧ ((txV c A B (shD c n).t k).length ≤ k * 100) ∧ HP Tr w ww0 [.cel g (irow n (shD c n).t) 3]) (n) [(0, .slice p n cap), (4, vS g n n), (6, .string (bS (txV c A B (shD c n).t 0))), (7, vI 0)] ⟨rfl, rfl, rfl, rfl, trivial⟩ ⟨0, rfl, rfl, Nat.zero_le _, Nat.zero_le _, hH8⟩ ?_
    rintro kk l w15 ⟨k, rfl, hkk, hk, hX, hH16⟩ K14 hK14
    refine WC.seq fun K17 hK17 => ?_
    refine WC.seq fun K18 hK18 => ?_
    refine WC.region ?_
    refine WL.pure (v := vI (k : Int)) 19 rfl (Nat.le_of_ble_eq_true rfl) rfl rfl (by kernel_rfl) ?_
    refine WL.pure (v := .slice p n cap) 20 rfl (Nat.le_of_ble_eq_true rfl) rfl rfl (by kernel_rfl) ?_
    refine WL.pure (v := vI (n : Int)) 21 rfl (Nat.le_of_ble_eq_true rfl) rfl rfl (by kernel_rfl) ?_
    by_cases hlt : (k : Int) < (n : Int)
    ·
      refine WL.pure (v := .bool true) 22 rfl (Nat.le_of_ble_eq_true rfl) rfl rfl (x_lss rfl rfl rfl (dT (hlt))) ?_
      refine WL.nil ?_
      refine WQ.then ?_
      refine hK18 _ _ _ ?_
      refine WC.yes rfl ?_
      refine WC.skip ?_
      refine WQ.then ?_
      refine hK17 _ _ _ ?_
      refine WC.seq fun K19 hK19 => ?_
      refine WC.block ?_
      refine WC.seq fun K20 hK20 => ?_
      refine WC.seq fun K21 hK21 => ?_
      obtain ⟨bb, oo, rfl, hrow⟩ := hIn (by omega)
      obtain ⟨htr1, htr2⟩ := t_range hBal (show k < n by omega)
      have htm := hBal.hm
      have hvk : vld (c k) (A k) (B k) false = true := allV_at hall (by omega)
      obtain ⟨k9, hck, hk9, hA9, hB9, hA0, hB0⟩ := vld_facts hvk
      obtain ⟨hn32, hn10, hnne, hnab, hnln⟩ := name_ok hk9
      have hcn : (c k).toNat = k9 := by rw [hck, Int.toNat_natCast]
      have hnm : (nmL (c k).toNat).length ≤ 20 := by rw [hcn]; exact hnln
      have hla : (Lib.itoa (A k)).length ≤ 11 := itoa_len11 (by omega)
      have hlb : (Lib.itoa (B k)).length ≤ 11 := itoa_len11 (by omega)
      obtain ⟨hopa, hopb⟩ := opd_ab hnab
      rw [← hcn] at hopa hopb
      have hopn : opN (c k) = opd (c k).toNat := by rw [hcn, hck]; exact opN_nat hk9
      rw [show txV c A B (shD c n).t k = txV c A B (shD c n).t k ++ Lib.repeatL [32, 32] 0 from (List.append_nil _).symm]
      refine WC.region ?_
      refine WL.pure (v := vI 0) 8 rfl (Nat.le_of_ble_eq_true rfl) rfl rfl (by kernel_rfl) ?_
      refine WL.nil ?_
      refine WQ.then ?_
      refine hK21 _ _ _ ?_
      refine WC.block ?_
      refine WC.loop (fun kk0 ll0 ww0 => ∃ (j : Nat), ll0 = [(0, .slice (some ⟨bb, oo, none⟩) n cap), (4, vS g n n), (6, .string (bS (txV c A B (shD c n).t k ++ Lib.repeatL [32, 32] j))), (7, vI (k : Int)), (8, vI (j : Int))] ∧ kk0 = ((shD c n).t k).toNat - j ∧ ((j : Int) ≤ (shD c n).t k) ∧ HP Tr w ww0 [.cel g (irow n (shD c n).t) 3]) (((shD c n).t k).toNat) [(0, .slice (some ⟨bb, oo, none⟩) n cap), (4, vS g n n), (6, .string (bS (txV c A B (shD c n).t k ++ Lib.repeatL [32, 32] 0))), (7, vI (k : Int)), (8, vI 0)] ⟨rfl, rfl, rfl, rfl, rfl, trivial⟩ ⟨0, rfl, rfl, by omega, hH16⟩ ?_
      rintro kk l w23 ⟨j, rfl, hkk, hj, hH24⟩ K22 hK22
      refine WC.seq fun K25 hK25 => ?_
      refine WC.seq fun K26 hK26 => ?_
      refine WC.region ?_
      refine WL.pure (v := vI (j : Int)) 25 rfl (Nat.le_of_ble_eq_true rfl) rfl rfl (by kernel_rfl) ?_
      refine WL.pure (v := vS g n n) 26 rfl (Nat.le_of_ble_eq_true rfl) rfl rfl (by kernel_rfl) ?_
      refine WL.pure (v := vI (k : Int)) 27 rfl (Nat.le_of_ble_eq_true rfl) rfl rfl (by kernel_rfl) ?_
      refine WL.pure (v := vP g k) 28 rfl (Nat.le_of_ble_eq_true rfl) rfl rfl (x_idx (k) (k) rfl rfl rfl Tryd.underlying43 sz3 (by omega) (by omega) (by omega)) ?_
      refine WL.pure (v := vI (((shD c n).t) k)) 29 rfl (Nat.le_of_ble_eq_true rfl) rfl rfl (x_load rfl rfl Tryd.underlying3 rfl (HP.cell hH24 0 rfl (irow_get (by omega) rfl))) ?_
      by_cases hjlt : (j : Int) < ((shD c n).t) k
      ·
        refine WL.pure (v := .bool true) 30 rfl (Nat.le_of_ble_eq_true rfl) rfl rfl (x_lss rfl rfl rfl (dT (hjlt))) ?_
        refine WL.nil ?_
        refine WQ.then ?_
        refine hK26 _ _ _ ?_
        refine WC.yes rfl ?_
        refine WC.skip ?_
        refine WQ.then ?_
        refine hK25 _ _ _ ?_
        refine WC.seq fun K27 hK27 => ?_
        refine WC.block ?_
        refine WC.region ?_
        refine WL.pure (v := .string (bS (txV c A B (shD c n).t k ++ Lib.repeatL [32, 32] j))) 33 rfl (Nat.le_of_ble_eq_true rfl) rfl rfl (by kernel_rfl) ?_
        refine WL.pure (v := .string (bS (txV c A B (shD c n).t k ++ Lib.repeatL [32, 32] (j + 1)))) 34 rfl (Nat.le_of_ble_eq_true rfl) rfl rfl (by rw [rep_snoc, ← List.append_assoc]; exact x_sadd (txV c A B (shD c n).t k ++ Lib.repeatL [32, 32] j) [32, 32] rfl rfl rfl (by simp only [List.length_append, List.length_cons, List.length_nil, rep_len]; omega)) ?_
        refine WL.pure (v := .string (bS (txV c A B (shD c n).t k ++ Lib.repeatL [32, 32] (j + 1)))) 6 rfl (Nat.le_of_ble_eq_true rfl) rfl rfl (by kernel_rfl) ?_
        refine WL.nil ?_
        refine WQ.inNormal ?_
        refine WQ.then ?_
        refine hK27 _ _ _ ?_
        refine WC.sub (l' := [(0, .slice (some ⟨bb, oo, none⟩) n cap), (4, vS g n n), (6, .string (bS (txV c A B (shD c n).t k ++ Lib.repeatL [32, 32] (j + 1)))), (7, vI (k : Int)), (8, vI (j : Int)), (30, .bool true)]) ⟨rfl, rfl, rfl, rfl, rfl, rfl, trivial⟩ ?_
        refine WC.region ?_
        refine WL.pure (v := vI (j : Int)) 31 rfl (Nat.le_of_ble_eq_true rfl) rfl rfl (by kernel_rfl) ?_
        refine WL.pure (v := vI ((j + 1 : Nat) : Int)) 32 rfl (Nat.le_of_ble_eq_true rfl) rfl rfl (x_add (Z := ((j + 1 : Nat) : Int)) rfl rfl rfl (by omega) (by omega) (by omega)) ?_
        refine WL.pure (v := vI ((j + 1 : Nat) : Int)) 8 rfl (Nat.le_of_ble_eq_true rfl) rfl rfl (by kernel_rfl) ?_
        refine WL.nil ?_
        refine WQ.sub (l' := [(0, .slice (some ⟨bb, oo, none⟩) n cap), (4, vS g n n), (6, .string (bS (txV c A B (shD c n).t k ++ Lib.repeatL [32, 32] (j + 1)))), (7, vI (k : Int)), (8, vI ((j + 1 : Nat) : Int))]) ⟨rfl, rfl, rfl, rfl, rfl, trivial⟩ ?_
        refine WQ.then (hK22 _ _ _ (by omega) ⟨j + 1, rfl, rfl, by omega, hH24⟩)
      ·
        refine WL.pure (v := .bool false) 30 rfl (Nat.le_of_ble_eq_true rfl) rfl rfl (x_lss rfl rfl rfl (dF (hjlt))) ?_
        refine WL.nil ?_
        refine WQ.then ?_
        refine hK26 _ _ _ ?_
        refine WC.no rfl ?_
        refine WC.exit ?_
        refine WQ.thenExit ?_
        refine WQ.thenExit ?_
        refine WQ.inExit ?_
        refine WQ.then ?_
        refine hK20 _ _ _ ?_
        refine WC.seq fun K28 hK28 => ?_
        have hjt : j = ((shD c n).t k).toNat := by omega
        subst hjt
        refine WC.confH (γ := Nat × Unit) [(30, .bool false), (29, vI (((shD c n).t) k)), (28, vP g k), (27, vI (k : Int)), (26, vS g n n), (25, vI (((shD c n).t k).toNat : Int)), (0, .slice (some ⟨bb, oo, none⟩) n cap), (4, vS g n n), (6, .string (bS (txV c A B (shD c n).t k ++ Lib.repeatL [32, 32] ((shD c n).t k).toNat))), (7, vI (k : Int)), (8, vI (((shD c n).t k).toNat : Int))] (fun gy => [.string (bS (txV c A B (shD c n).t k ++ Lib.repeatL [32, 32] ((shD c n).t k).toNat)), vS gy.1 36 36, .slice (some ⟨bb, oo, none⟩) n cap, vI (k : Int), vP bb (oo + k * 3), vP bb (oo + k * 3), vI (c k), vP gy.1 ((c k).toNat), .string (bS (nmL (c k).toNat)), .string (bS ((txV c A B (shD c n).t k ++ Lib.repeatL [32, 32] ((shD c n).t k).toNat) ++ (nmL (c k).toNat))), .string (bS ((txV c A B (shD c n).t k ++ Lib.repeatL [32, 32] ((shD c n).t k).toNat) ++ (nmL (c k).toNat)))]) (fun gy D wz => HP Tr w wz ([.cel g (irow n (shD c n).t) 3] ++ ((bif D 1 then [Ent.cel gy.1 nmA 9] else []) ++ []))) (0, ()) (by kernel_rfl) ⟨rfl, rfl, rfl, rfl, rfl, rfl, rfl, rfl, rfl, rfl, rfl, trivial⟩ (by kernel_rfl) (by kernel_rfl) (by kernel_rfl) (fun _ => rfl) (by kernel_rfl) (HP.drew hH24) ?_ ?_
        · refine AllOk.cons ?o0 (AllOk.cons ?o1 (AllOk.cons ?o2 (AllOk.cons ?o3 (AllOk.cons ?o4 (AllOk.cons ?o5 (AllOk.cons ?o6 (AllOk.cons ?o7 (AllOk.cons ?o8 (AllOk.cons ?o9 (AllOk.cons ?o10 (AllOk.nil _)))))))))))
          case o0 =>
            intro gy D wz hDi hdep hclo hW
            exact .inl ⟨rfl, rfl, .inl ⟨gy, wz, fun _ _ => rfl, by kernel_rfl, hW⟩⟩
          case o1 =>
            intro gy D wz hDi hdep hclo hW
            have d7 : D 7 = false := by
              cases h : D 7 with
              | false => rfl
              | true => exact absurd (hclo 7 _ rfl h ⟨1, .data⟩ (by simp) rfl) (by rw [hDi]; exact Bool.false_ne_true)
            have hW2 := hW
            simp only [hDi, cond_true, cond_false, List.append_nil, List.nil_append, List.cons_append] at hW2
            refine .inl ⟨rfl, rfl, .inr (.inr ⟨21, #[], by kernel_rfl, (rnames_any _).mono ?_⟩)⟩
            rintro e w3 ⟨gn, rfl, hb⟩
            refine ⟨⟨gn, ()⟩, fun j hj => ?_, rfl, ?_⟩
            · match j, hj with
              | 0, hj => rfl
              | 1, hj => rw [hDi] at hj; cases hj
              | 2, hj => rfl
              | 3, hj => rfl
              | 4, hj => rfl
              | 5, hj => rfl
              | 6, hj => rfl
              | 7, hj => exact absurd hj (by rw [d7]; exact Bool.false_ne_true)
              | 8, hj => rfl
              | 9, hj => rfl
              | 10, hj => rfl
              | j + 11, _ => rfl
            · show HP Tr w w3 ([.cel g (irow n (shD c n).t) 3] ++ ([Ent.cel gn nmA 9] ++ []))
              simp only [cond_true, cond_false, List.append_nil, List.nil_append, List.cons_append]
              exact HP.trans hW2 hb
          case o2 =>
            intro gy D wz hDi hdep hclo hW
            exact .inl ⟨rfl, rfl, .inl ⟨gy, wz, fun _ _ => rfl, by kernel_rfl, hW⟩⟩
          case o3 =>
            intro gy D wz hDi hdep hclo hW
            exact .inl ⟨rfl, rfl, .inl ⟨gy, wz, fun _ _ => rfl, by kernel_rfl, hW⟩⟩
          case o4 =>
            intro gy D wz hDi hdep hclo hW
            exact .inl ⟨rfl, rfl, .inl ⟨gy, wz, fun _ _ => rfl, x_idx (k) (oo + k * 3) rfl rfl rfl Tryd.underlying22 sz33 (by omega) (by omega) (by omega), hW⟩⟩
          case o5 =>
            intro gy D wz hDi hdep hclo hW
            exact .inl ⟨rfl, rfl, .inl ⟨gy, wz, fun _ _ => rfl, by kernel_rfl, hW⟩⟩
          case o6 =>
            intro gy D wz hDi hdep hclo hW
            exact .inl ⟨rfl, rfl, .inl ⟨gy, wz, fun _ _ => rfl, x_load rfl rfl Tryd.underlying3 rfl ((HP.oldRange hW trivial (hrow k (by omega))) 0 _ rfl), hW⟩⟩
          case o7 =>
            intro gy D wz hDi hdep hclo hW
            exact .inl ⟨rfl, rfl, .inl ⟨gy, wz, fun _ _ => rfl, x_idx (c k).toNat (c k).toNat rfl rfl rfl Tryd.underlying60 sz9 (by omega) (by omega) (by omega), hW⟩⟩
          case o8 =>
            intro gy D wz hDi hdep hclo hW
            have d7 : D 7 = true := hdep ⟨7, .data⟩ (by simp) rfl
            have d1 : D 1 = true := hclo 7 _ rfl d7 ⟨1, .data⟩ (by simp) rfl
            have hW2 := hW
            simp only [d1, cond_true, cond_false, List.append_nil, List.nil_append, List.cons_append] at hW2
            exact .inl ⟨rfl, rfl, .inl ⟨gy, wz, fun _ _ => rfl, x_load rfl rfl Tryd.underlying9 rfl (HP.cell hW2 1 rfl (nmA_at (c k).toNat (by omega))), hW⟩⟩
          case o9 =>
            intro gy D wz hDi hdep hclo hW
            exact .inl ⟨rfl, rfl, .inl ⟨gy, wz, fun _ _ => rfl, x_sadd ((txV c A B (shD c n).t k ++ Lib.repeatL [32, 32] ((shD c n).t k).toNat)) ((nmL (c k).toNat)) rfl rfl rfl (by simp only [List.length_append, List.length_cons, List.length_nil, rep_len]; omega), hW⟩⟩
          case o10 =>
            intro gy D wz hDi hdep hclo hW
            exact .inl ⟨rfl, rfl, .inl ⟨gy, wz, fun _ _ => rfl, by kernel_rfl, hW⟩⟩
        rintro ⟨gn, gu⟩ D w29 hall hH30
        simp only [hall 1 (by kernel_rfl), cond_true, List.append_nil, List.nil_append, List.cons_append] at hH30
        clear hall
        refine WQ.sub (l' := [(0, .slice (some ⟨bb, oo, none⟩) n cap), (4, vS g n n), (6, .string (bS ((txV c A B (shD c n).t k ++ Lib.repeatL [32, 32] ((shD c n).t k).toNat) ++ (nmL (c k).toNat)))), (7, vI (k : Int)), (8, vI (((shD c n).t k).toNat : Int)), (30, .bool false)]) ⟨rfl, rfl, rfl, rfl, rfl, rfl, trivial⟩ ?_
        refine WQ.then ?_
        refine hK28 _ _ _ ?_
        refine WC.seq fun K31 hK31 => ?_
        refine WC.region ?_
        refine WL.pure (v := .slice (some ⟨bb, oo, none⟩) n cap) 46 rfl (Nat.le_of_ble_eq_true rfl) rfl rfl (by kernel_rfl) ?_
        refine WL.pure (v := vI (k : Int)) 47 rfl (Nat.le_of_ble_eq_true rfl) rfl rfl (by kernel_rfl) ?_
        refine WL.pure (v := vP bb (oo + k * 3)) 48 rfl (Nat.le_of_ble_eq_true rfl) rfl rfl (x_idx (k) (oo + k * 3) rfl rfl rfl Tryd.underlying22 sz33 (by omega) (by omega) (by omega)) ?_
        refine WL.pure (v := vP bb (oo + k * 3)) 49 rfl (Nat.le_of_ble_eq_true rfl) rfl rfl (by kernel_rfl) ?_
        refine WL.pure (v := vI (c k)) 50 rfl (Nat.le_of_ble_eq_true rfl) rfl rfl (x_load rfl rfl Tryd.underlying3 rfl ((HP.oldRange hH30 trivial (hrow k (by omega))) 0 _ rfl)) ?_
        refine WL.call (f := 22) (args := #[vI (c k)]) 51 rfl (Nat.le_of_ble_eq_true rfl) rfl rfl (by kernel_rfl) ?_
        refine (rOperands_any (c k) _).mono ?_
        rw [hopn]
        rintro e w5 ⟨rfl, hb5⟩
        refine ⟨_, rfl, ?_⟩
        have hH32 : HP Tr w _ [.cel g (irow n (shD c n).t) 3, .cel gn nmA 9] := HP.call hH30 hb5
        refine WL.pure (v := .tuple #[vI (opd (c k).toNat), vI (opE (c k))]) 45 rfl (Nat.le_of_ble_eq_true rfl) rfl rfl (by kernel_rfl) ?_
        refine WL.pure (v := vI (opd (c k).toNat)) 52 rfl (Nat.le_of_ble_eq_true rfl) rfl rfl (by kernel_rfl) ?_
        refine WL.pure (v := vI (opE (c k))) 53 rfl (Nat.le_of_ble_eq_true rfl) rfl rfl (by kernel_rfl) ?_
        refine WL.pure (v := vI (opd (c k).toNat)) 9 rfl (Nat.le_of_ble_eq_true rfl) rfl rfl (by kernel_rfl) ?_
        refine WL.pure (v := vI (opE (c k))) 10 rfl (Nat.le_of_ble_eq_true rfl) rfl rfl (by kernel_rfl) ?_
        refine WL.nil ?_
        refine WQ.then ?_
        refine hK31 _ _ _ ?_
        refine WC.sub (l' := [(0, .slice (some ⟨bb, oo, none⟩) n cap), (4, vS g n n), (6, .string (bS ((txV c A B (shD c n).t k ++ Lib.repeatL [32, 32] ((shD c n).t k).toNat) ++ (nmL (c k).toNat)))), (7, vI (k : Int)), (8, vI (((shD c n).t k).toNat : Int)), (9, vI (opd (c k).toNat)), (30, .bool false)]) ⟨rfl, rfl, rfl, rfl, rfl, rfl, rfl, trivial⟩ ?_
        refine WC.seq fun K33 hK33 => ?_
        refine WC.seq fun K34 hK34 => ?_
        refine WC.region ?_
        refine WL.pure (v := vI (opd (c k).toNat)) 54 rfl (Nat.le_of_ble_eq_true rfl) rfl rfl (by kernel_rfl) ?_
        by_cases ha9 : (0 : Int) < opd (c k).toNat
        ·
          have ha8 := hopa.1 ha9
          refine WL.pure (v := .bool true) 55 rfl (Nat.le_of_ble_eq_true rfl) rfl rfl (x_gtr rfl rfl rfl (dT (ha9))) ?_
          refine WL.nil ?_
          refine WQ.then ?_
          refine hK34 _ _ _ ?_
          refine WC.yes rfl ?_
          refine WC.region ?_
          refine WL.pure (v := .string (bS ((txV c A B (shD c n).t k ++ Lib.repeatL [32, 32] ((shD c n).t k).toNat) ++ (nmL (c k).toNat)))) 56 rfl (Nat.le_of_ble_eq_true rfl) rfl rfl (by kernel_rfl) ?_
          refine WL.pure (v := .string (bS (((txV c A B (shD c n).t k ++ Lib.repeatL [32, 32] ((shD c n).t k).toNat) ++ (nmL (c k).toNat)) ++ ([32])))) 57 rfl (Nat.le_of_ble_eq_true rfl) rfl rfl (x_sadd (((txV c A B (shD c n).t k ++ Lib.repeatL [32, 32] ((shD c n).t k).toNat) ++ (nmL (c k).toNat))) ([32]) rfl rfl rfl (by simp only [List.length_append, List.length_cons, List.length_nil, rep_len]; omega)) ?_
          refine WL.pure (v := .slice (some ⟨bb, oo, none⟩) n cap) 58 rfl (Nat.le_of_ble_eq_true rfl) rfl rfl (by kernel_rfl) ?_
          refine WL.pure (v := vI (k : Int)) 59 rfl (Nat.le_of_ble_eq_true rfl) rfl rfl (by kernel_rfl) ?_
          refine WL.pure (v := vP bb (oo + k * 3)) 60 rfl (Nat.le_of_ble_eq_true rfl) rfl rfl (x_idx (k) (oo + k * 3) rfl rfl rfl Tryd.underlying22 sz33 (by omega) (by omega) (by omega)) ?_
          refine WL.pure (v := vP bb (oo + k * 3 + 1)) 61 rfl (Nat.le_of_ble_eq_true rfl) rfl rfl (by kernel_rfl) ?_
          refine WL.pure (v := vI (A k)) 62 rfl (Nat.le_of_ble_eq_true rfl) rfl rfl (x_load rfl rfl Tryd.underlying3 rfl ((HP.oldRange hH32 trivial (hrow k (by omega))) 1 _ rfl)) ?_
          refine WL.call (f := 18) (args := #[vI (A k)]) 63 rfl (Nat.le_of_ble_eq_true rfl) rfl rfl (by kernel_rfl) ?_
          refine (itoa_any (A k) _ (by omega) (hE.below (HP.below hH32))).mono ?_
          rintro e w35 ⟨rfl, hb36⟩
          refine ⟨_, rfl, ?_⟩
          have hH37 : HP Tr w _ [.cel g (irow n (shD c n).t) 3, .cel gn nmA 9] := HP.call hH32 hb36
          refine WL.pure (v := .string (bS ((((txV c A B (shD c n).t k ++ Lib.repeatL [32, 32] ((shD c n).t k).toNat) ++ (nmL (c k).toNat)) ++ ([32])) ++ (Lib.itoa (A k))))) 64 rfl (Nat.le_of_ble_eq_true rfl) rfl rfl (x_sadd ((((txV c A B (shD c n).t k ++ Lib.repeatL [32, 32] ((shD c n).t k).toNat) ++ (nmL (c k).toNat)) ++ ([32]))) ((Lib.itoa (A k))) rfl rfl rfl (by simp only [List.length_append, List.length_cons, List.length_nil, rep_len]; omega)) ?_
          refine WL.pure (v := .string (bS ((((txV c A B (shD c n).t k ++ Lib.repeatL [32, 32] ((shD c n).t k).toNat) ++ (nmL (c k).toNat)) ++ ([32])) ++ (Lib.itoa (A k))))) 6 rfl (Nat.le_of_ble_eq_true rfl) rfl rfl (by kernel_rfl) ?_
          refine WL.nil ?_
          refine WQ.then ?_
          refine hK33 _ _ _ ?_
          refine WC.sub (l' := [(0, .slice (some ⟨bb, oo, none⟩) n cap), (4, vS g n n), (6, .string (bS ((((txV c A B (shD c n).t k ++ Lib.repeatL [32, 32] ((shD c n).t k).toNat) ++ (nmL (c k).toNat)) ++ ([32])) ++ (Lib.itoa (A k))))), (7, vI (k : Int)), (8, vI (((shD c n).t k).toNat : Int)), (9, vI (opd (c k).toNat)), (30, .bool false), (55, .bool true)]) ⟨rfl, rfl, rfl, rfl, rfl, rfl, rfl, rfl, trivial⟩ ?_
          refine WC.seq fun K38 hK38 => ?_
          refine WC.seq fun K39 hK39 => ?_
          refine WC.region ?_
          refine WL.pure (v := vI (opd (c k).toNat)) 65 rfl (Nat.le_of_ble_eq_true rfl) rfl rfl (by kernel_rfl) ?_
          by_cases hb9 : (1 : Int) < opd (c k).toNat
          ·
            have hb8 := hopb.1 hb9
            refine WL.pure (v := .bool true) 66 rfl (Nat.le_of_ble_eq_true rfl) rfl rfl (x_gtr rfl rfl rfl (dT (hb9))) ?_
            refine WL.nil ?_
            refine WQ.then ?_
            refine hK39 _ _ _ ?_
            refine WC.yes rfl ?_
            refine WC.region ?_
            refine WL.pure (v := .string (bS ((((txV c A B (shD c n).t k ++ Lib.repeatL [32, 32] ((shD c n).t k).toNat) ++ (nmL (c k).toNat)) ++ ([32])) ++ (Lib.itoa (A k))))) 67 rfl (Nat.le_of_ble_eq_true rfl) rfl rfl (by kernel_rfl) ?_
            refine WL.pure (v := .string (bS (((((txV c A B (shD c n).t k ++ Lib.repeatL [32, 32] ((shD c n).t k).toNat) ++ (nmL (c k).toNat)) ++ ([32])) ++ (Lib.itoa (A k))) ++ ([32])))) 68 rfl (Nat.le_of_ble_eq_true rfl) rfl rfl (x_sadd (((((txV c A B (shD c n).t k ++ Lib.repeatL [32, 32] ((shD c n).t k).toNat) ++ (nmL (c k).toNat)) ++ ([32])) ++ (Lib.itoa (A k)))) ([32]) rfl rfl rfl (by simp only [List.length_append, List.length_cons, List.length_nil, rep_len]; omega)) ?_
            refine WL.pure (v := .slice (some ⟨bb, oo, none⟩) n cap) 69 rfl (Nat.le_of_ble_eq_true rfl) rfl rfl (by kernel_rfl) ?_
            refine WL.pure (v := vI (k : Int)) 70 rfl (Nat.le_of_ble_eq_true rfl) rfl rfl (by kernel_rfl) ?_
            refine WL.pure (v := vP bb (oo + k * 3)) 71 rfl (Nat.le_of_ble_eq_true rfl) rfl rfl (x_idx (k) (oo + k * 3) rfl rfl rfl Tryd.underlying22 sz33 (by omega) (by omega) (by omega)) ?_
            refine WL.pure (v := vP bb (oo + k * 3 + 2)) 72 rfl (Nat.le_of_ble_eq_true rfl) rfl rfl (by kernel_rfl) ?_
            refine WL.pure (v := vI (B k)) 73 rfl (Nat.le_of_ble_eq_true rfl) rfl rfl (x_load rfl rfl Tryd.underlying3 rfl ((HP.oldRange hH37 trivial (hrow k (by omega))) 2 _ rfl)) ?_
            refine WL.call (f := 18) (args := #[vI (B k)]) 74 rfl (Nat.le_of_ble_eq_true rfl) rfl rfl (by kernel_rfl) ?_
            refine (itoa_any (B k) _ (by omega) (hE.below (HP.below hH37))).mono ?_
            rintro e w40 ⟨rfl, hb41⟩
            refine ⟨_, rfl, ?_⟩
            have hH42 : HP Tr w _ [.cel g (irow n (shD c n).t) 3, .cel gn nmA 9] := HP.call hH37 hb41
            refine WL.pure (v := .string (bS ((((((txV c A B (shD c n).t k ++ Lib.repeatL [32, 32] ((shD c n).t k).toNat) ++ (nmL (c k).toNat)) ++ ([32])) ++ (Lib.itoa (A k))) ++ ([32])) ++ (Lib.itoa (B k))))) 75 rfl (Nat.le_of_ble_eq_true rfl) rfl rfl (x_sadd ((((((txV c A B (shD c n).t k ++ Lib.repeatL [32, 32] ((shD c n).t k).toNat) ++ (nmL (c k).toNat)) ++ ([32])) ++ (Lib.itoa (A k))) ++ ([32]))) ((Lib.itoa (B k))) rfl rfl rfl (by simp only [List.length_append, List.length_cons, List.length_nil, rep_len]; omega)) ?_
            refine WL.pure (v := .string (bS ((((((txV c A B (shD c n).t k ++ Lib.repeatL [32, 32] ((shD c n).t k).toNat) ++ (nmL (c k).toNat)) ++ ([32])) ++ (Lib.itoa (A k))) ++ ([32])) ++ (Lib.itoa (B k))))) 6 rfl (Nat.le_of_ble_eq_true rfl) rfl rfl (by kernel_rfl) ?_
            refine WL.nil ?_
            refine WQ.then ?_
            refine hK38 _ _ _ ?_
            refine WC.sub (l' := [(0, .slice (some ⟨bb, oo, none⟩) n cap), (4, vS g n n), (6, .string (bS ((((((txV c A B (shD c n).t k ++ Lib.repeatL [32, 32] ((shD c n).t k).toNat) ++ (nmL (c k).toNat)) ++ ([32])) ++ (Lib.itoa (A k))) ++ ([32])) ++ (Lib.itoa (B k))))), (7, vI (k : Int)), (8, vI (((shD c n).t k).toNat : Int)), (9, vI (opd (c k).toNat)), (30, .bool false), (55, .bool true), (66, .bool true)]) ⟨rfl, rfl, rfl, rfl, rfl, rfl, rfl, rfl, rfl, trivial⟩ ?_
            refine WC.region ?_
            refine WL.pure (v := .string (bS ((((((txV c A B (shD c n).t k ++ Lib.repeatL [32, 32] ((shD c n).t k).toNat) ++ (nmL (c k).toNat)) ++ ([32])) ++ (Lib.itoa (A k))) ++ ([32])) ++ (Lib.itoa (B k))))) 76 rfl (Nat.le_of_ble_eq_true rfl) rfl rfl (by kernel_rfl) ?_
            refine WL.pure (v := .string (bS (((((((txV c A B (shD c n).t k ++ Lib.repeatL [32, 32] ((shD c n).t k).toNat) ++ (nmL (c k).toNat)) ++ ([32])) ++ (Lib.itoa (A k))) ++ ([32])) ++ (Lib.itoa (B k))) ++ ([10])))) 77 rfl (Nat.le_of_ble_eq_true rfl) rfl rfl (x_sadd (((((((txV c A B (shD c n).t k ++ Lib.repeatL [32, 32] ((shD c n).t k).toNat) ++ (nmL (c k).toNat)) ++ ([32])) ++ (Lib.itoa (A k))) ++ ([32])) ++ (Lib.itoa (B k)))) ([10]) rfl rfl rfl (by simp only [List.length_append, List.length_cons, List.length_nil, rep_len]; omega)) ?_
            refine WL.pure (v := .string (bS (((((((txV c A B (shD c n).t k ++ Lib.repeatL [32, 32] ((shD c n).t k).toNat) ++ (nmL (c k).toNat)) ++ ([32])) ++ (Lib.itoa (A k))) ++ ([32])) ++ (Lib.itoa (B k))) ++ ([10])))) 6 rfl (Nat.le_of_ble_eq_true rfl) rfl rfl (by kernel_rfl) ?_
            refine WL.nil ?_
            refine WQ.inNormal ?_
            refine WQ.then ?_
            refine hK19 _ _ _ ?_
            refine WC.region ?_
            refine WL.pure (v := vI (k : Int)) 23 rfl (Nat.le_of_ble_eq_true rfl) rfl rfl (by kernel_rfl) ?_
            refine WL.pure (v := vI ((k + 1 : Nat) : Int)) 24 rfl (Nat.le_of_ble_eq_true rfl) rfl rfl (x_add (Z := ((k + 1 : Nat) : Int)) rfl rfl rfl (by omega) (by omega) (by omega)) ?_
            refine WL.pure (v := vI ((k + 1 : Nat) : Int)) 7 rfl (Nat.le_of_ble_eq_true rfl) rfl rfl (by kernel_rfl) ?_
            refine WL.nil ?_
            have hT9 : (((((((txV c A B (shD c n).t k ++ Lib.repeatL [32, 32] ((shD c n).t k).toNat) ++ (nmL (c k).toNat)) ++ ([32])) ++ (Lib.itoa (A k))) ++ ([32])) ++ (Lib.itoa (B k))) ++ ([10])) = txV c A B (shD c n).t (k + 1) := by rw [txV_s]; simp [linT, nmL, ha8, hb8]
            have hX9 : (txV c A B (shD c n).t (k + 1)).length ≤ (k + 1) * 100 := by rw [← hT9]; simp only [List.length_append, List.length_cons, List.length_nil, rep_len]; omega
            rw [hT9]
            refine WQ.sub (l' := [(0, .slice (some ⟨bb, oo, none⟩) n cap), (4, vS g n n), (6, .string (bS (txV c A B (shD c n).t (k + 1)))), (7, vI ((k + 1 : Nat) : Int))]) ⟨rfl, rfl, rfl, rfl, trivial⟩ ?_
            refine WQ.then (hK14 _ _ _ (by omega) ⟨k + 1, rfl, rfl, by omega, hX9, (HP.drop hH42 1)⟩)
          ·
            have hb8 : (sp (c k).toNat).b = 0 := Classical.not_not.1 fun h => hb9 (hopb.2 h)
            refine WL.pure (v := .bool false) 66 rfl (Nat.le_of_ble_eq_true rfl) rfl rfl (x_gtr rfl rfl rfl (dF (hb9))) ?_
            refine WL.nil ?_
            refine WQ.then ?_
            refine hK39 _ _ _ ?_
            refine WC.no rfl ?_
            refine WC.skip ?_
            refine WQ.then ?_
            refine hK38 _ _ _ ?_
            refine WC.region ?_
            refine WL.pure (v := .string (bS ((((txV c A B (shD c n).t k ++ Lib.repeatL [32, 32] ((shD c n).t k).toNat) ++ (nmL (c k).toNat)) ++ ([32])) ++ (Lib.itoa (A k))))) 76 rfl (Nat.le_of_ble_eq_true rfl) rfl rfl (by kernel_rfl) ?_
            refine WL.pure (v := .string (bS (((((txV c A B (shD c n).t k ++ Lib.repeatL [32, 32] ((shD c n).t k).toNat) ++ (nmL (c k).toNat)) ++ ([32])) ++ (Lib.itoa (A k))) ++ ([10])))) 77 rfl (Nat.le_of_ble_eq_true rfl) rfl rfl (x_sadd (((((txV c A B (shD c n).t k ++ Lib.repeatL [32, 32] ((shD c n).t k).toNat) ++ (nmL (c k).toNat)) ++ ([32])) ++ (Lib.itoa (A k)))) ([10]) rfl rfl rfl (by simp only [List.length_append, List.length_cons, List.length_nil, rep_len]; omega)) ?_
            refine WL.pure (v := .string (bS (((((txV c A B (shD c n).t k ++ Lib.repeatL [32, 32] ((shD c n).t k).toNat) ++ (nmL (c k).toNat)) ++ ([32])) ++ (Lib.itoa (A k))) ++ ([10])))) 6 rfl (Nat.le_of_ble_eq_true rfl) rfl rfl (by kernel_rfl) ?_
            refine WL.nil ?_
            refine WQ.inNormal ?_
            refine WQ.then ?_
            refine hK19 _ _ _ ?_
            refine WC.region ?_
            refine WL.pure (v := vI (k : Int)) 23 rfl (Nat.le_of_ble_eq_true rfl) rfl rfl (by kernel_rfl) ?_
            refine WL.pure (v := vI ((k + 1 : Nat) : Int)) 24 rfl (Nat.le_of_ble_eq_true rfl) rfl rfl (x_add (Z := ((k + 1 : Nat) : Int)) rfl rfl rfl (by omega) (by omega) (by omega)) ?_
            refine WL.pure (v := vI ((k + 1 : Nat) : Int)) 7 rfl (Nat.le_of_ble_eq_true rfl) rfl rfl (by kernel_rfl) ?_
            refine WL.nil ?_
            have hT9 : (((((txV c A B (shD c n).t k ++ Lib.repeatL [32, 32] ((shD c n).t k).toNat) ++ (nmL (c k).toNat)) ++ ([32])) ++ (Lib.itoa (A k))) ++ ([10])) = txV c A B (shD c n).t (k + 1) := by rw [txV_s]; simp [linT, nmL, ha8, hb8]
            have hX9 : (txV c A B (shD c n).t (k + 1)).length ≤ (k + 1) * 100 := by rw [← hT9]; simp only [List.length_append, List.length_cons, List.length_nil, rep_len]; omega
            rw [hT9]
            refine WQ.sub (l' := [(0, .slice (some ⟨bb, oo, none⟩) n cap), (4, vS g n n), (6, .string (bS (txV c A B (shD c n).t (k + 1)))), (7, vI ((k + 1 : Nat) : Int))]) ⟨rfl, rfl, rfl, rfl, trivial⟩ ?_
            refine WQ.then (hK14 _ _ _ (by omega) ⟨k + 1, rfl, rfl, by omega, hX9, (HP.drop hH37 1)⟩)
        ·
          have ha8 : (sp (c k).toNat).a = 0 := Classical.not_not.1 fun h => ha9 (hopa.2 h)
          refine WL.pure (v := .bool false) 55 rfl (Nat.le_of_ble_eq_true rfl) rfl rfl (x_gtr rfl rfl rfl (dF (ha9))) ?_
          refine WL.nil ?_
          refine WQ.then ?_
          refine hK34 _ _ _ ?_
          refine WC.no rfl ?_
          refine WC.skip ?_
          refine WQ.then ?_
          refine hK33 _ _ _ ?_
          refine WC.seq fun K43 hK43 => ?_
          refine WC.seq fun K44 hK44 => ?_
          refine WC.region ?_
          refine WL.pure (v := vI (opd (c k).toNat)) 65 rfl (Nat.le_of_ble_eq_true rfl) rfl rfl (by kernel_rfl) ?_
          by_cases hb9 : (1 : Int) < opd (c k).toNat
          ·
            have hb8 := hopb.1 hb9
            refine WL.pure (v := .bool true) 66 rfl (Nat.le_of_ble_eq_true rfl) rfl rfl (x_gtr rfl rfl rfl (dT (hb9))) ?_
            refine WL.nil ?_
            refine WQ.then ?_
            refine hK44 _ _ _ ?_
            refine WC.yes rfl ?_
            refine WC.region ?_
            refine WL.pure (v := .string (bS ((txV c A B (shD c n).t k ++ Lib.repeatL [32, 32] ((shD c n).t k).toNat) ++ (nmL (c k).toNat)))) 67 rfl (Nat.le_of_ble_eq_true rfl) rfl rfl (by kernel_rfl) ?_
            refine WL.pure (v := .string (bS (((txV c A B (shD c n).t k ++ Lib.repeatL [32, 32] ((shD c n).t k).toNat) ++ (nmL (c k).toNat)) ++ ([32])))) 68 rfl (Nat.le_of_ble_eq_true rfl) rfl rfl (x_sadd (((txV c A B (shD c n).t k ++ Lib.repeatL [32, 32] ((shD c n).t k).toNat) ++ (nmL (c k).toNat))) ([32]) rfl rfl rfl (by simp only [List.length_append, List.length_cons, List.length_nil, rep_len]; omega)) ?_
            refine WL.pure (v := .slice (some ⟨bb, oo, none⟩) n cap) 69 rfl (Nat.le_of_ble_eq_true rfl) rfl rfl (by kernel_rfl) ?_
            refine WL.pure (v := vI (k : Int)) 70 rfl (Nat.le_of_ble_eq_true rfl) rfl rfl (by kernel_rfl) ?_
            refine WL.pure (v := vP bb (oo + k * 3)) 71 rfl (Nat.le_of_ble_eq_true rfl) rfl rfl (x_idx (k) (oo + k * 3) rfl rfl rfl Tryd.underlying22 sz33 (by omega) (by omega) (by omega)) ?_
            refine WL.pure (v := vP bb (oo + k * 3 + 2)) 72 rfl (Nat.le_of_ble_eq_true rfl) rfl rfl (by kernel_rfl) ?_
            refine WL.pure (v := vI (B k)) 73 rfl (Nat.le_of_ble_eq_true rfl) rfl rfl (x_load rfl rfl Tryd.underlying3 rfl ((HP.oldRange hH32 trivial (hrow k (by omega))) 2 _ rfl)) ?_
            refine WL.call (f := 18) (args := #[vI (B k)]) 74 rfl (Nat.le_of_ble_eq_true rfl) rfl rfl (by kernel_rfl) ?_
            refine (itoa_any (B k) _ (by omega) (hE.below (HP.below hH32))).mono ?_
            rintro e w45 ⟨rfl, hb46⟩
            refine ⟨_, rfl, ?_⟩
            have hH47 : HP Tr w _ [.cel g (irow n (shD c n).t) 3, .cel gn nmA 9] := HP.call hH32 hb46
            refine WL.pure (v := .string (bS ((((txV c A B (shD c n).t k ++ Lib.repeatL [32, 32] ((shD c n).t k).toNat) ++ (nmL (c k).toNat)) ++ ([32])) ++ (Lib.itoa (B k))))) 75 rfl (Nat.le_of_ble_eq_true rfl) rfl rfl (x_sadd ((((txV c A B (shD c n).t k ++ Lib.repeatL [32, 32] ((shD c n).t k).toNat) ++ (nmL (c k).toNat)) ++ ([32]))) ((Lib.itoa (B k))) rfl rfl rfl (by simp only [List.length_append, List.length_cons, List.length_nil, rep_len]; omega)) ?_
            refine WL.pure (v := .string (bS ((((txV c A B (shD c n).t k ++ Lib.repeatL [32, 32] ((shD c n).t k).toNat) ++ (nmL (c k).toNat)) ++ ([32])) ++ (Lib.itoa (B k))))) 6 rfl (Nat.le_of_ble_eq_true rfl) rfl rfl (by kernel_rfl) ?_
            refine WL.nil ?_
            refine WQ.then ?_
            refine hK43 _ _ _ ?_
            refine WC.sub (l' := [(0, .slice (some ⟨bb, oo, none⟩) n cap), (4, vS g n n), (6, .string (bS ((((txV c A B (shD c n).t k ++ Lib.repeatL [32, 32] ((shD c n).t k).toNat) ++ (nmL (c k).toNat)) ++ ([32])) ++ (Lib.itoa (B k))))), (7, vI (k : Int)), (8, vI (((shD c n).t k).toNat : Int)), (9, vI (opd (c k).toNat)), (30, .bool false), (55, .bool false), (66, .bool true)]) ⟨rfl, rfl, rfl, rfl, rfl, rfl, rfl, rfl, rfl, trivial⟩ ?_
            refine WC.region ?_
            refine WL.pure (v := .string (bS ((((txV c A B (shD c n).t k ++ Lib.repeatL [32, 32] ((shD c n).t k).toNat) ++ (nmL (c k).toNat)) ++ ([32])) ++ (Lib.itoa (B k))))) 76 rfl (Nat.le_of_ble_eq_true rfl) rfl rfl (by kernel_rfl) ?_
            refine WL.pure (v := .string (bS (((((txV c A B (shD c n).t k ++ Lib.repeatL [32, 32] ((shD c n).t k).toNat) ++ (nmL (c k).toNat)) ++ ([32])) ++ (Lib.itoa (B k))) ++ ([10])))) 77 rfl (Nat.le_of_ble_eq_true rfl) rfl rfl (x_sadd (((((txV c A B (shD c n).t k ++ Lib.repeatL [32, 32] ((shD c n).t k).toNat) ++ (nmL (c k).toNat)) ++ ([32])) ++ (Lib.itoa (B k)))) ([10]) rfl rfl rfl (by simp only [List.length_append, List.length_cons, List.length_nil, rep_len]; omega)) ?_
            refine WL.pure (v := .string (bS (((((txV c A B (shD c n).t k ++ Lib.repeatL [32, 32] ((shD c n).t k).toNat) ++ (nmL (c k).toNat)) ++ ([32])) ++ (Lib.itoa (B k))) ++ ([10])))) 6 rfl (Nat.le_of_ble_eq_true rfl) rfl rfl (by kernel_rfl) ?_
            refine WL.nil ?_
            refine WQ.inNormal ?_
            refine WQ.then ?_
            refine hK19 _ _ _ ?_
            refine WC.region ?_
            refine WL.pure (v := vI (k : Int)) 23 rfl (Nat.le_of_ble_eq_true rfl) rfl rfl (by kernel_rfl) ?_
            refine WL.pure (v := vI ((k + 1 : Nat) : Int)) 24 rfl (Nat.le_of_ble_eq_true rfl) rfl rfl (x_add (Z := ((k + 1 : Nat) : Int)) rfl rfl rfl (by omega) (by omega) (by omega)) ?_
            refine WL.pure (v := vI ((k + 1 : Nat) : Int)) 7 rfl (Nat.le_of_ble_eq_true rfl) rfl rfl (by kernel_rfl) ?_
            refine WL.nil ?_
            have hT9 : (((((txV c A B (shD c n).t k ++ Lib.repeatL [32, 32] ((shD c n).t k).toNat) ++ (nmL (c k).toNat)) ++ ([32])) ++ (Lib.itoa (B k))) ++ ([10])) = txV c A B (shD c n).t (k + 1) := by rw [txV_s]; simp [linT, nmL, ha8, hb8]
            have hX9 : (txV c A B (shD c n).t (k + 1)).length ≤ (k + 1) * 100 := by rw [← hT9]; simp only [List.length_append, List.length_cons, List.length_nil, rep_len]; omega
            rw [hT9]
            refine WQ.sub (l' := [(0, .slice (some ⟨bb, oo, none⟩) n cap), (4, vS g n n), (6, .string (bS (txV c A B (shD c n).t (k + 1)))), (7, vI ((k + 1 : Nat) : Int))]) ⟨rfl, rfl, rfl, rfl, trivial⟩ ?_
            refine WQ.then (hK14 _ _ _ (by omega) ⟨k + 1, rfl, rfl, by omega, hX9, (HP.drop hH47 1)⟩)
          ·
            have hb8 : (sp (c k).toNat).b = 0 := Classical.not_not.1 fun h => hb9 (hopb.2 h)
            refine WL.pure (v := .bool false) 66 rfl (Nat.le_of_ble_eq_true rfl) rfl rfl (x_gtr rfl rfl rfl (dF (hb9))) ?_
            refine WL.nil ?_
            refine WQ.then ?_
            refine hK44 _ _ _ ?_
            refine WC.no rfl ?_
            refine WC.skip ?_
            refine WQ.then ?_
            refine hK43 _ _ _ ?_
            refine WC.region ?_
            refine WL.pure (v := .string (bS ((txV c A B (shD c n).t k ++ Lib.repeatL [32, 32] ((shD c n).t k).toNat) ++ (nmL (c k).toNat)))) 76 rfl (Nat.le_of_ble_eq_true rfl) rfl rfl (by kernel_rfl) ?_
            refine WL.pure (v := .string (bS (((txV c A B (shD c n).t k ++ Lib.repeatL [32, 32] ((shD c n).t k).toNat) ++ (nmL (c k).toNat)) ++ ([10])))) 77 rfl (Nat.le_of_ble_eq_true rfl) rfl rfl (x_sadd (((txV c A B (shD c n).t k ++ Lib.repeatL [32, 32] ((shD c n).t k).toNat) ++ (nmL (c k).toNat))) ([10]) rfl rfl rfl (by simp only [List.length_append, List.length_cons, List.length_nil, rep_len]; omega)) ?_
            refine WL.pure (v := .string (bS (((txV c A B (shD c n).t k ++ Lib.repeatL [32, 32] ((shD c n).t k).toNat) ++ (nmL (c k).toNat)) ++ ([10])))) 6 rfl (Nat.le_of_ble_eq_true rfl) rfl rfl (by kernel_rfl) ?_
            refine WL.nil ?_
            refine WQ.inNormal ?_
            refine WQ.then ?_
            refine hK19 _ _ _ ?_
            refine WC.region ?_
            refine WL.pure (v := vI (k : Int)) 23 rfl (Nat.le_of_ble_eq_true rfl) rfl rfl (by kernel_rfl) ?_
            refine WL.pure (v := vI ((k + 1 : Nat) : Int)) 24 rfl (Nat.le_of_ble_eq_true rfl) rfl rfl (x_add (Z := ((k + 1 : Nat) : Int)) rfl rfl rfl (by omega) (by omega) (by omega)) ?_
            refine WL.pure (v := vI ((k + 1 : Nat) : Int)) 7 rfl (Nat.le_of_ble_eq_true rfl) rfl rfl (by kernel_rfl) ?_
            refine WL.nil ?_
            have hT9 : (((txV c A B (shD c n).t k ++ Lib.repeatL [32, 32] ((shD c n).t k).toNat) ++ (nmL (c k).toNat)) ++ ([10])) = txV c A B (shD c n).t (k + 1) := by rw [txV_s]; simp [linT, nmL, ha8, hb8]
            have hX9 : (txV c A B (shD c n).t (k + 1)).length ≤ (k + 1) * 100 := by rw [← hT9]; simp only [List.length_append, List.length_cons, List.length_nil, rep_len]; omega
            rw [hT9]
            refine WQ.sub (l' := [(0, .slice (some ⟨bb, oo, none⟩) n cap), (4, vS g n n), (6, .string (bS (txV c A B (shD c n).t (k + 1)))), (7, vI ((k + 1 : Nat) : Int))]) ⟨rfl, rfl, rfl, rfl, trivial⟩ ?_
            refine WQ.then (hK14 _ _ _ (by omega) ⟨k + 1, rfl, rfl, by omega, hX9, (HP.drop hH32 1)⟩)
    ·
      refine WL.pure (v := .bool false) 22 rfl (Nat.le_of_ble_eq_true rfl) rfl rfl (x_lss rfl rfl rfl (dF (hlt))) ?_
      refine WL.nil ?_
      refine WQ.then ?_
      refine hK18 _ _ _ ?_
      refine WC.no rfl ?_
      refine WC.exit ?_
      refine WQ.thenExit ?_
      refine WQ.thenExit ?_
      refine WQ.inExit ?_
      refine WQ.then ?_
      refine hK12 _ _ _ ?_
      refine WC.seq fun K48 hK48 => ?_
      refine WC.region ?_
      refine WL.pure (v := .string (bS (txV c A B (shD c n).t k))) 78 rfl (Nat.le_of_ble_eq_true rfl) rfl rfl (by kernel_rfl) ?_
      refine WL.pure (v := .string (bS (txV c A B (shD c n).t k))) 2 rfl (Nat.le_of_ble_eq_true rfl) rfl rfl (by kernel_rfl) ?_
      refine WL.pure (v := vI 0) 3 rfl (Nat.le_of_ble_eq_true rfl) rfl rfl (by kernel_rfl) ?_
      refine WL.nil ?_
      refine WQ.then ?_
      refine hK48 _ _ _ ?_
      refine WC.ret ?_
      refine WQ.ret2 2 3 rfl rfl rfl ?_
      exact ⟨by unfold txP; rw [if_pos hc0, hc0, show k = n by omega], HP.below hH16⟩
end Cw
end Go.Proofs.YteeljnlepbnhkaaDoor
