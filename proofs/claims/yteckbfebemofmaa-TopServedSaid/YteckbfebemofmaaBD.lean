/- turning: the wheel of slots. -/
import Derived.Test.YteckbfebemofmaaBC
import Derived.Test.YteckbfebemofmaaFE
set_option linter.unusedVariables false
set_option linter.unusedSimpArgs false
namespace Go.Proofs.Yteckbfebemofmaa
open Go.RowKit Fw
namespace Bs
theorem iR_push (A : List Int) (v : Int) : iR A ++ [vI v] = iR (A ++ [v]) := by simp [iR]
theorem len1 (A : List Int) (v : Int) : (A ++ [v]).length = A.length + 1 := by simp
def mkW (po p0 p1 p2 p3 : Option Addr) (no n0 n1 n2 n3 co c0 c1 c2 c3 : Nat) : Wh :=
  ⟨fun i => match i with | 0 => po | 1 => p0 | 2 => p1 | 3 => p2 | _ => p3, fun i => match i with | 0 => no | 1 => n0 | 2 => n1 | 3 => n2 | _ => n3, fun i => match i with | 0 => co | 1 => c0 | 2 => c1 | 3 => c2 | _ => c3⟩
theorem posI_add {l : List Int} {c m : Int} (h : c = m) : posI (l ++ [c]) m = posI l m ++ [(l.length : Int)] := by rw [posI_snoc, if_pos h]
theorem posI_same {l : List Int} {c m : Int} (h : c ≠ m) : posI (l ++ [c]) m = posI l m := by rw [posI_snoc, if_neg h, List.append_nil]
set_option maxRecDepth 20000 in
set_option maxHeartbeats 4000000 in
theorem turning_any (p : Option Addr) (N cap : Nat) (o sp : Nat → Int) (w : World) (hS : InS w p N o sp) (hok : 1 ≤ N ∧ N ≤ 8 ∧ ∀ i, i < N → okS1 (o i) (sp i) = true) :
    Calls Try.prog 19 #[.slice p N cap] w fun e w' => ∃ W : Wh, e = .returned (.agg #[W.v 0, W.v 1, W.v 2, W.v 3, W.v 4]) ∧ WhOk w' W (owl o sp N) ∧ Below w.heap.size w w' := by
  refine calls_of Try.func19 rfl (m := 40) rfl [(0, .slice p N cap)] (Fr_enter [.slice p N cap] 40 (Nat.le_of_ble_eq_true rfl)) ?_
  have hH1 : HP Tr w w [] := HP.refl w
  refine WC.seq fun K2 hK2 => ?_
  refine WC.region ?_
  refine WL.alloc (c := #[.slice none 0 0, .slice none 0 0, .slice none 0 0, .slice none 0 0, .slice none 0 0]) (T := 55) hH1 2 rfl (by decide) rfl rfl (fun b2 => vP b2 0) (by kernel_rfl) (fun b2 w3 hw3 => ?_)
  have hH4 : HP Tr w w3 [.cel b2 #[.slice none 0 0, .slice none 0 0, .slice none 0 0, .slice none 0 0, .slice none 0 0] 55] := hw3.2
  have nb2 := hw3.1
  clear hw3
  refine WL.nil ?_
  refine WQ.then ?_
  refine hK2 _ _ _ ?_
  refine WC.seq fun K5 hK5 => ?_
  refine WC.region ?_
  refine WL.alloc (c := #[.slice none 0 0, .slice none 0 0, .slice none 0 0, .slice none 0 0, .slice none 0 0]) (T := 55) hH4 3 rfl (by decide) rfl rfl (fun b3 => vP b3 0) (by kernel_rfl) (fun b3 w6 hw6 => ?_)
  have hH7 : HP Tr w w6 [.cel b2 #[.slice none 0 0, .slice none 0 0, .slice none 0 0, .slice none 0 0, .slice none 0 0] 55, .cel b3 #[.slice none 0 0, .slice none 0 0, .slice none 0 0, .slice none 0 0, .slice none 0 0] 55] := hw6.2
  have nb3 := hw6.1
  clear hw6
  refine WL.nil ?_
  refine WQ.then ?_
  refine hK5 _ _ _ ?_
  refine WC.seq fun K8 hK8 => ?_
  refine WC.seq fun K9 hK9 => ?_
  refine WC.region ?_
  refine WL.pure (v := .slice p N cap) 6 rfl (Nat.le_of_ble_eq_true rfl) rfl rfl (by kernel_rfl) ?_
  refine WL.pure (v := vI (N : Int)) 7 rfl (Nat.le_of_ble_eq_true rfl) rfl rfl (by kernel_rfl) ?_
  refine WL.pure (v := vI 0) 8 rfl (Nat.le_of_ble_eq_true rfl) rfl rfl (by kernel_rfl) ?_
  refine WL.nil ?_
  refine WQ.then ?_
  refine hK9 _ _ _ ?_
  refine WC.block ?_
  have hO0 := HP.ownNil hH7 3 1
  have hO1 := HP.ownNil hO0 3 1
  have hO2 := HP.ownNil hO1 3 1
  have hO3 := HP.ownNil hO2 3 1
  have hO4 := HP.ownNil hO3 3 1
  refine WC.loop (fun kk0 ll0 ww0 => ∃ (i : Nat) (ys : List Int) (po : Option Addr) (co : Nat) (p0 : Option Addr) (c0 : Nat) (p1 : Option Addr) (c1 : Nat) (p2 : Option Addr) (c2 : Nat) (p3 : Option Addr) (c3 : Nat), ll0 = [(2, vP b2 0), (3, vP b3 0), (6, .slice p N cap), (7, vI (N : Int)), (8, vI (i : Int))] ∧ kk0 = N - i ∧ (i ≤ N) ∧ (ys = owl o sp i) ∧ HP Tr w ww0 [.cel b2 #[.slice none 0 0, .slice none 0 0, .slice none 0 0, .slice none 0 0, .slice none 0 0] 55, .cel b3 #[.slice po ys.length co, .slice p0 ((posI ys 0).length) c0, .slice p1 ((posI ys 1).length) c1, .slice p2 ((posI ys 2).length) c2, .slice p3 ((posI ys 3).length) c3] 55, rowI' po co ys, rowI' p0 c0 (posI ys 0), rowI' p1 c1 (posI ys 1), rowI' p2 c2 (posI ys 2), rowI' p3 c3 (posI ys 3)]) (N) [(2, vP b2 0), (3, vP b3 0), (6, .slice p N cap), (7, vI (N : Int)), (8, vI 0)] ⟨rfl, rfl, rfl, rfl, rfl, trivial⟩ ⟨0, [], none, 0, none, 0, none, 0, none, 0, none, 0, rfl, rfl, Nat.zero_le _, rfl, HP.eq hO4 rfl⟩ ?_
  rintro kk l w11 ⟨i, ys, po, co, p0, c0, p1, c1, p2, c2, p3, c3, rfl, hkk, hi, hys, hH12⟩ K10 hK10
  refine WC.seq fun K13 hK13 => ?_
  refine WC.region ?_
  by_cases hlt : (i : Int) < (N : Int)
  ·
    refine WL.pure (v := .bool true) 9 rfl (Nat.le_of_ble_eq_true rfl) rfl rfl (x_lss rfl rfl rfl (dT (hlt))) ?_
    refine WL.nil ?_
    refine WQ.then ?_
    refine hK13 _ _ _ ?_
    refine WC.seq fun K14 hK14 => ?_
    refine WC.yes rfl ?_
    refine WC.skip ?_
    refine WQ.then ?_
    refine hK14 _ _ _ ?_
    refine WC.seq fun K15 hK15 => ?_
    refine WC.block ?_
    refine WC.seq fun K16 hK16 => ?_
    obtain ⟨bb, oo, rfl, hrow⟩ := hS (by omega)
    obtain ⟨hoi, hsi⟩ := okS1_iff.1 (hok.2.2 i (by omega))
    rcases (show o i = 0 ∨ o i = 1 ∨ o i = 2 ∨ o i = 3 by omega) with ho | ho | ho | ho
    ·
      refine WC.region ?_
      refine WL.pure (v := vP bb (oo + i * 2)) 10 rfl (Nat.le_of_ble_eq_true rfl) rfl rfl (x_idx (i) (oo + i * 2) rfl rfl rfl Try.underlying22 sz67 (by omega) (by omega) (by omega)) ?_
      have hcl : World.rangeAt w bb (oo + i * 2) [vI 0, vI (sp i)] := by have q := hrow i (by omega); rwa [ho] at q
      refine WL.pure (v := .agg #[vI 0, vI (sp i)]) 11 rfl (Nat.le_of_ble_eq_true rfl) rfl rfl (x_loadS (cs := [vI 0, vI (sp i)]) rfl rfl Try.underlying67 rfl sz67 (HP.oldRange hH12 trivial hcl)) ?_
      refine WL.alloc (c := #[vI 0, vI 0]) (T := 67) hH12 5 rfl (by decide) rfl rfl (fun b17 => vP b17 0) (by kernel_rfl) (fun b17 w18 hw18 => ?_)
      have hH19 : HP Tr w w18 [.cel b2 #[.slice none 0 0, .slice none 0 0, .slice none 0 0, .slice none 0 0, .slice none 0 0] 55, .cel b3 #[.slice po ys.length co, .slice p0 ((posI ys 0).length) c0, .slice p1 ((posI ys 1).length) c1, .slice p2 ((posI ys 2).length) c2, .slice p3 ((posI ys 3).length) c3] 55, rowI' po co ys, rowI' p0 c0 (posI ys 0), rowI' p1 c1 (posI ys 1), rowI' p2 c2 (posI ys 2), rowI' p3 c3 (posI ys 3), .cel b17 #[vI 0, vI 0] 67] := hw18.2
      have nb17 := hw18.1
      clear hw18
      refine WL.storeS (H2 := [.cel b2 #[.slice none 0 0, .slice none 0 0, .slice none 0 0, .slice none 0 0, .slice none 0 0] 55, .cel b3 #[.slice po ys.length co, .slice p0 ((posI ys 0).length) c0, .slice p1 ((posI ys 1).length) c1, .slice p2 ((posI ys 2).length) c2, .slice p3 ((posI ys 3).length) c3] 55, rowI' po co ys, rowI' p0 c0 (posI ys 0), rowI' p1 c1 (posI ys 1), rowI' p2 c2 (posI ys 2), rowI' p3 c3 (posI ys 3), .cel b17 #[vI 0, vI (sp i)] 67]) 7 hH19 rfl rfl rfl rfl rfl rfl sz67 rfl (Nat.le_of_ble_eq_true rfl) rfl rfl ?_
      intro w20 hH21
      refine WL.nil ?_
      refine WQ.then ?_
      refine hK16 _ _ _ ?_
      refine WC.seq fun K22 hK22 => ?_
      obtain ⟨sn, hsn⟩ : ∃ sn : Nat, sp i = (sn : Int) := ⟨(sp i).toNat, by omega⟩
      have hsn2 : sn ≤ 50 := by omega
      have hyl : ys.length ≤ i * 50 := by rw [hys]; exact (owl_len (o := o) (sp := sp) i (fun q hq => (okS1_iff.1 (hok.2.2 q (by omega))).2)).2
      refine WC.region ?_
      refine WL.pure (v := vP b17 1) 12 rfl (Nat.le_of_ble_eq_true rfl) rfl rfl (by kernel_rfl) ?_
      refine WL.pure (v := vI (sp i)) 13 rfl (Nat.le_of_ble_eq_true rfl) rfl rfl (x_load rfl rfl Try.underlying3 rfl (HP.cell hH21 7 rfl rfl)) ?_
      refine WL.pure (v := vI 0) 14 rfl (Nat.le_of_ble_eq_true rfl) rfl rfl (by kernel_rfl) ?_
      refine WL.nil ?_
      refine WQ.then ?_
      refine hK22 _ _ _ ?_
      refine WC.block ?_
      refine WC.loop (fun kk0 ll0 ww0 => ∃ (k : Nat) (zs : List Int) (po : Option Addr) (co : Nat) (p0 : Option Addr) (c0 : Nat) (p1 : Option Addr) (c1 : Nat) (p2 : Option Addr) (c2 : Nat) (p3 : Option Addr) (c3 : Nat), ll0 = [(2, vP b2 0), (3, vP b3 0), (5, vP b17 0), (6, .slice (some ⟨bb, oo, none⟩) N cap), (7, vI (N : Int)), (8, vI (i : Int)), (13, vI (sp i)), (14, vI (k : Int))] ∧ kk0 = sn - k ∧ (k ≤ sn) ∧ (zs = ys ++ List.replicate k (0 : Int)) ∧ HP Tr w ww0 [.cel b2 #[.slice none 0 0, .slice none 0 0, .slice none 0 0, .slice none 0 0, .slice none 0 0] 55, .cel b3 #[.slice po zs.length co, .slice p0 ((posI zs 0).length) c0, .slice p1 ((posI zs 1).length) c1, .slice p2 ((posI zs 2).length) c2, .slice p3 ((posI zs 3).length) c3] 55, rowI' po co zs, rowI' p0 c0 (posI zs 0), rowI' p1 c1 (posI zs 1), rowI' p2 c2 (posI zs 2), rowI' p3 c3 (posI zs 3), .cel b17 #[vI 0, vI (sp i)] 67]) (sn) [(2, vP b2 0), (3, vP b3 0), (5, vP b17 0), (6, .slice (some ⟨bb, oo, none⟩) N cap), (7, vI (N : Int)), (8, vI (i : Int)), (13, vI (sp i)), (14, vI 0)] ⟨rfl, rfl, rfl, rfl, rfl, rfl, rfl, rfl, trivial⟩ ⟨0, ys, po, co, p0, c0, p1, c1, p2, c2, p3, c3, rfl, rfl, Nat.zero_le _, by simp, hH21⟩ ?_
      rintro kk l w24 ⟨k, zs, po, co, p0, c0, p1, c1, p2, c2, p3, c3, rfl, hkk, hk, hzs, hH25⟩ K23 hK23
      have hzl : zs.length = ys.length + k := by rw [hzs]; simp
      refine WC.seq fun K26 hK26 => ?_
      refine WC.region ?_
      by_cases hkl : (k : Int) < sp i
      ·
        refine WL.pure (v := .bool true) 15 rfl (Nat.le_of_ble_eq_true rfl) rfl rfl (x_lss rfl rfl rfl (dT (hkl))) ?_
        refine WL.nil ?_
        refine WQ.then ?_
        refine hK26 _ _ _ ?_
        refine WC.seq fun K27 hK27 => ?_
        refine WC.yes rfl ?_
        refine WC.skip ?_
        refine WQ.then ?_
        refine hK27 _ _ _ ?_
        refine WC.seq fun K28 hK28 => ?_
        refine WC.block ?_
        refine WC.seq fun K29 hK29 => ?_
        obtain ⟨i0, hi0, hz0, hz1, hz2⟩ := infoI
        have hpzl := posI_len zs 0
        refine WC.confG (γ := Nat × Option Addr × Nat × Unit) [(15, .bool true), (2, vP b2 0), (3, vP b3 0), (5, vP b17 0), (6, .slice (some ⟨bb, oo, none⟩) N cap), (7, vI (N : Int)), (8, vI (i : Int)), (13, vI (sp i)), (14, vI (k : Int))] (fun gy => [vP b17 0, vI 0, vP b17 0, vI 0, vP b3 1, vP b3 1, .slice p0 ((posI zs 0).length) c0, vP b3 0, .slice po zs.length co, vI (zs.length : Int), vS gy.1 1 1, .slice gy.2.1 ((posI zs 0 ++ [(zs.length : Int)]).length) gy.2.2.1, vP b3 1, vP b3 1, undef]) (fun gy D wz => HP Tr w wz ([.cel b2 #[.slice none 0 0, .slice none 0 0, .slice none 0 0, .slice none 0 0, .slice none 0 0] 55, (bif D 14 then Ent.cel b3 #[.slice po zs.length co, .slice gy.2.1 ((posI zs 0 ++ [(zs.length : Int)]).length) gy.2.2.1, .slice p1 ((posI zs 1).length) c1, .slice p2 ((posI zs 2).length) c2, .slice p3 ((posI zs 3).length) c3] 55 else Ent.cel b3 #[.slice po zs.length co, .slice p0 ((posI zs 0).length) c0, .slice p1 ((posI zs 1).length) c1, .slice p2 ((posI zs 2).length) c2, .slice p3 ((posI zs 3).length) c3] 55), rowI' po co zs, (bif D 11 then rowI' gy.2.1 gy.2.2.1 (posI zs 0 ++ [(zs.length : Int)]) else rowI' p0 c0 (posI zs 0)), rowI' p1 c1 (posI zs 1), rowI' p2 c2 (posI zs 2), rowI' p3 c3 (posI zs 3), .cel b17 #[vI 0, vI (sp i)] 67] ++ ((bif D 10 then [Ent.cel gy.1 #[vI (zs.length : Int)] 3] else []) ++ []))) (0, none, 0, ()) (by kernel_rfl) ⟨rfl, rfl, rfl, rfl, rfl, rfl, rfl, rfl, rfl, trivial⟩ (by kernel_rfl) (by kernel_rfl) (by kernel_rfl) (fun _ => rfl) (by kernel_rfl) (HP.drew hH25) ?_ ?_
        · refine AllOk.cons ?o0 (AllOk.cons ?o1 (AllOk.cons ?o2 (AllOk.cons ?o3 (AllOk.cons ?o4 (AllOk.cons ?o5 (AllOk.cons ?o6 (AllOk.cons ?o7 (AllOk.cons ?o8 (AllOk.cons ?o9 (AllOk.cons ?o10 (AllOk.cons ?o11 (AllOk.cons ?o12 (AllOk.cons ?o13 (AllOk.cons ?o14 (AllOk.nil _)))))))))))))))
          case o0 =>
            intro gy D wz hDi hdep hclo hW
            exact .inl ⟨rfl, rfl, .inl ⟨gy, wz, fun _ _ => rfl, by kernel_rfl, hW⟩⟩
          case o1 =>
            intro gy D wz hDi hdep hclo hW
            exact .inl ⟨rfl, rfl, .inl ⟨gy, wz, fun _ _ => rfl, x_load rfl rfl Try.underlying3 rfl (HP.cell hW 7 rfl rfl), hW⟩⟩
          case o2 =>
            intro gy D wz hDi hdep hclo hW
            exact .inl ⟨rfl, rfl, .inl ⟨gy, wz, fun _ _ => rfl, by kernel_rfl, hW⟩⟩
          case o3 =>
            intro gy D wz hDi hdep hclo hW
            exact .inl ⟨rfl, rfl, .inl ⟨gy, wz, fun _ _ => rfl, x_load rfl rfl Try.underlying3 rfl (HP.cell hW 7 rfl rfl), hW⟩⟩
          case o4 =>
            intro gy D wz hDi hdep hclo hW
            exact .inl ⟨rfl, rfl, .inl ⟨gy, wz, fun _ _ => rfl, by kernel_rfl, hW⟩⟩
          case o5 =>
            intro gy D wz hDi hdep hclo hW
            exact .inl ⟨rfl, rfl, .inl ⟨gy, wz, fun _ _ => rfl, x_idxArr (0) (1) rfl rfl rfl Try.underlying53 sz23 rfl (by omega) (by omega), hW⟩⟩
          case o6 =>
            intro gy D wz hDi hdep hclo hW
            have d14 : D 14 = false := by
              cases h : D 14 with
              | false => rfl
              | true => exact absurd (hclo 14 _ rfl h ⟨6, .phase⟩ (by simp) rfl) (by rw [hDi]; exact Bool.false_ne_true)
            have hW2 := hW
            simp only [d14, cond_false] at hW2
            exact .inl ⟨rfl, rfl, .inl ⟨gy, wz, fun _ _ => rfl, x_load rfl rfl Try.underlying23 rfl (HP.cell hW2 1 rfl rfl), hW⟩⟩
          case o7 =>
            intro gy D wz hDi hdep hclo hW
            exact .inl ⟨rfl, rfl, .inl ⟨gy, wz, fun _ _ => rfl, by kernel_rfl, hW⟩⟩
          case o8 =>
            intro gy D wz hDi hdep hclo hW
            have d14 : D 14 = false := by
              cases h : D 14 with
              | false => rfl
              | true => exact absurd (hclo 14 _ rfl h ⟨8, .phase⟩ (by simp) rfl) (by rw [hDi]; exact Bool.false_ne_true)
            have hW2 := hW
            simp only [d14, cond_false] at hW2
            exact .inl ⟨rfl, rfl, .inl ⟨gy, wz, fun _ _ => rfl, x_load rfl rfl Try.underlying23 rfl (HP.cell hW2 1 rfl rfl), hW⟩⟩
          case o9 =>
            intro gy D wz hDi hdep hclo hW
            exact .inl ⟨rfl, rfl, .inl ⟨gy, wz, fun _ _ => rfl, by kernel_rfl, hW⟩⟩
          case o10 =>
            intro gy D wz hDi hdep hclo hW
            have d11 : D 11 = false := by
              cases h : D 11 with
              | false => rfl
              | true => exact absurd (hclo 11 _ rfl h ⟨10, .data⟩ (by simp) rfl) (by rw [hDi]; exact Bool.false_ne_true)
            have d14 : D 14 = false := by
              cases h : D 14 with
              | false => rfl
              | true => exact absurd (hclo 14 _ rfl h ⟨10, .phase⟩ (by simp) rfl) (by rw [hDi]; exact Bool.false_ne_true)
            have hW2 := hW
            try simp only [d11, d14, hDi, cond_true, cond_false, List.append_nil, List.nil_append, List.cons_append] at hW2
            refine cf_alloc (c := #[vI (zs.length : Int)]) (T := 3) hW2 (fun b26 => vS b26 1 1) rfl rfl (by kernel_rfl) ?_
            rintro b26 w3 hA
            refine ⟨⟨b26, gy.2.1, gy.2.2.1, ()⟩, fun j hj => ?_, rfl, ?_⟩
            · match j, hj with
              | 0, hj => rfl
              | 1, hj => rfl
              | 2, hj => rfl
              | 3, hj => rfl
              | 4, hj => rfl
              | 5, hj => rfl
              | 6, hj => rfl
              | 7, hj => rfl
              | 8, hj => rfl
              | 9, hj => rfl
              | 10, hj => rw [hDi] at hj; cases hj
              | 11, hj => rfl
              | 12, hj => rfl
              | 13, hj => rfl
              | 14, hj => rfl
              | j + 15, _ => rfl
            · show HP Tr w w3 ([.cel b2 #[.slice none 0 0, .slice none 0 0, .slice none 0 0, .slice none 0 0, .slice none 0 0] 55, (bif D 14 then Ent.cel b3 #[.slice po zs.length co, .slice gy.2.1 ((posI zs 0 ++ [(zs.length : Int)]).length) gy.2.2.1, .slice p1 ((posI zs 1).length) c1, .slice p2 ((posI zs 2).length) c2, .slice p3 ((posI zs 3).length) c3] 55 else Ent.cel b3 #[.slice po zs.length co, .slice p0 ((posI zs 0).length) c0, .slice p1 ((posI zs 1).length) c1, .slice p2 ((posI zs 2).length) c2, .slice p3 ((posI zs 3).length) c3] 55), rowI' po co zs, (bif D 11 then rowI' gy.2.1 gy.2.2.1 (posI zs 0 ++ [(zs.length : Int)]) else rowI' p0 c0 (posI zs 0)), rowI' p1 c1 (posI zs 1), rowI' p2 c2 (posI zs 2), rowI' p3 c3 (posI zs 3), .cel b17 #[vI 0, vI (sp i)] 67] ++ ([Ent.cel b26 #[vI (zs.length : Int)] 3] ++ []))
              try simp only [d11, d14, cond_true, cond_false, List.append_nil, List.nil_append, List.cons_append]
              exact hA
          case o11 =>
            intro gy D wz hDi hdep hclo hW
            have d10 : D 10 = true := hdep ⟨10, .data⟩ (by simp) rfl
            have d14 : D 14 = false := by
              cases h : D 14 with
              | false => rfl
              | true => exact absurd (hclo 14 _ rfl h ⟨11, .data⟩ (by simp) rfl) (by rw [hDi]; exact Bool.false_ne_true)
            have hW2 := hW
            try simp only [d10, d14, hDi, cond_true, cond_false, List.append_nil, List.nil_append, List.cons_append] at hW2
            refine cf_append (news := [vI (zs.length : Int)]) 3 8 hW2 rfl rfl rfl rfl rfl Try.underlying23 hi0 hz0 hz1 hz2 rfl (by decide) rfl rfl rfl rfl (by simp [Value.oneCell']) (by unfold maxLen; omega) (by omega) ?_
            rintro v7 w3 hA
            obtain ⟨pm7, cm7, rfl⟩ := own_row (HP.get hA 3 rfl)
            have e7 : (posI zs 0).length + 1 = (posI zs 0 ++ [(zs.length : Int)]).length := (len1 _ _).symm
            rw [iR_push, e7] at hA
            rw [e7]
            refine ⟨⟨gy.1, pm7, cm7, ()⟩, fun j hj => ?_, rfl, ?_⟩
            · match j, hj with
              | 0, hj => rfl
              | 1, hj => rfl
              | 2, hj => rfl
              | 3, hj => rfl
              | 4, hj => rfl
              | 5, hj => rfl
              | 6, hj => rfl
              | 7, hj => rfl
              | 8, hj => rfl
              | 9, hj => rfl
              | 10, hj => rfl
              | 11, hj => rw [hDi] at hj; cases hj
              | 12, hj => rfl
              | 13, hj => rfl
              | 14, hj => rfl
              | j + 15, _ => rfl
            · show HP Tr w w3 ([.cel b2 #[.slice none 0 0, .slice none 0 0, .slice none 0 0, .slice none 0 0, .slice none 0 0] 55, (bif D 14 then Ent.cel b3 #[.slice po zs.length co, .slice pm7 ((posI zs 0 ++ [(zs.length : Int)]).length) cm7, .slice p1 ((posI zs 1).length) c1, .slice p2 ((posI zs 2).length) c2, .slice p3 ((posI zs 3).length) c3] 55 else Ent.cel b3 #[.slice po zs.length co, .slice p0 ((posI zs 0).length) c0, .slice p1 ((posI zs 1).length) c1, .slice p2 ((posI zs 2).length) c2, .slice p3 ((posI zs 3).length) c3] 55), rowI' po co zs, rowI' pm7 cm7 (posI zs 0 ++ [(zs.length : Int)]), rowI' p1 c1 (posI zs 1), rowI' p2 c2 (posI zs 2), rowI' p3 c3 (posI zs 3), .cel b17 #[vI 0, vI (sp i)] 67] ++ ((bif D 10 then [Ent.cel gy.1 #[vI (zs.length : Int)] 3] else []) ++ []))
              try simp only [d10, d14, cond_true, cond_false, List.append_nil, List.nil_append, List.cons_append]
              exact hA
          case o12 =>
            intro gy D wz hDi hdep hclo hW
            exact .inl ⟨rfl, rfl, .inl ⟨gy, wz, fun _ _ => rfl, by kernel_rfl, hW⟩⟩
          case o13 =>
            intro gy D wz hDi hdep hclo hW
            exact .inl ⟨rfl, rfl, .inl ⟨gy, wz, fun _ _ => rfl, x_idxArr (0) (1) rfl rfl rfl Try.underlying53 sz23 rfl (by omega) (by omega), hW⟩⟩
          case o14 =>
            intro gy D wz hDi hdep hclo hW
            have hW9 := hW
            simp only [hDi, cond_false] at hW9
            have h4 := HP.set (off := 1) (v := .slice gy.2.1 ((posI zs 0 ++ [(zs.length : Int)]).length) gy.2.2.1) hW9 1 rfl
            exact .inl ⟨rfl, rfl, .inr (.inl ⟨_, x_store rfl rfl rfl sz23 rfl (HP.cell hW9 1 rfl rfl) (HP.free hW9 1 rfl), rfl, h4⟩)⟩
        rintro ⟨b26, pm7, cm7, gu⟩ D w36 hall hH37
        simp only [hall 10 (by kernel_rfl), hall 11 (by kernel_rfl), hall 14 (by kernel_rfl), cond_true, List.append_nil, List.nil_append, List.cons_append] at hH37
        clear hall
        refine WQ.sub (l' := [(2, vP b2 0), (3, vP b3 0), (5, vP b17 0), (6, .slice (some ⟨bb, oo, none⟩) N cap), (7, vI (N : Int)), (8, vI (i : Int)), (13, vI (sp i)), (14, vI (k : Int)), (15, .bool true)]) ⟨rfl, rfl, rfl, rfl, rfl, rfl, rfl, rfl, rfl, trivial⟩ ?_
        refine WQ.then ?_
        refine hK29 _ _ _ ?_
        refine WC.region ?_
        refine WL.pure (v := vP b3 0) 30 rfl (Nat.le_of_ble_eq_true rfl) rfl rfl (by kernel_rfl) ?_
        refine WL.pure (v := .slice po zs.length co) 31 rfl (Nat.le_of_ble_eq_true rfl) rfl rfl (x_load rfl rfl Try.underlying23 rfl (HP.cell hH37 1 rfl rfl)) ?_
        refine WL.pure (v := vP b17 0) 32 rfl (Nat.le_of_ble_eq_true rfl) rfl rfl (by kernel_rfl) ?_
        refine WL.pure (v := vI 0) 33 rfl (Nat.le_of_ble_eq_true rfl) rfl rfl (x_load rfl rfl Try.underlying3 rfl (HP.cell hH37 7 rfl rfl)) ?_
        refine WL.alloc (c := #[vI 0]) (T := 3) hH37 34 rfl (by decide) rfl rfl (fun b38 => vS b38 1 1) (by kernel_rfl) (fun b38 w39 hw39 => ?_)
        have hH40 : HP Tr w w39 [.cel b2 #[.slice none 0 0, .slice none 0 0, .slice none 0 0, .slice none 0 0, .slice none 0 0] 55, .cel b3 #[.slice po zs.length co, .slice pm7 ((posI zs 0 ++ [(zs.length : Int)]).length) cm7, .slice p1 ((posI zs 1).length) c1, .slice p2 ((posI zs 2).length) c2, .slice p3 ((posI zs 3).length) c3] 55, rowI' po co zs, rowI' pm7 cm7 (posI zs 0 ++ [(zs.length : Int)]), rowI' p1 c1 (posI zs 1), rowI' p2 c2 (posI zs 2), rowI' p3 c3 (posI zs 3), .cel b17 #[vI 0, vI (sp i)] 67, .cel b26 #[vI (zs.length : Int)] 3, .cel b38 #[vI 0] 3] := hw39.2
        have nb38 := hw39.1
        clear hw39
        refine WL.append (news := [vI 0]) 2 9 hH40 35 rfl (by decide) rfl rfl rfl rfl Try.underlying23 hi0 hz0 hz1 hz2 rfl (by decide) rfl rfl rfl rfl (by simp [Value.oneCell']) (by unfold maxLen; omega) (by omega) ?_
        rintro v8 w8 - hA8
        obtain ⟨po8, co8, rfl⟩ := own_row (HP.get hA8 2 rfl)
        have e8 : zs.length + 1 = (zs ++ [(0 : Int)]).length := (len1 _ _).symm
        rw [iR_push, e8] at hA8
        rw [e8]
        have hH41 : HP Tr w _ [.cel b2 #[.slice none 0 0, .slice none 0 0, .slice none 0 0, .slice none 0 0, .slice none 0 0] 55, .cel b3 #[.slice po zs.length co, .slice pm7 ((posI zs 0 ++ [(zs.length : Int)]).length) cm7, .slice p1 ((posI zs 1).length) c1, .slice p2 ((posI zs 2).length) c2, .slice p3 ((posI zs 3).length) c3] 55, rowI' po8 co8 (zs ++ [(0 : Int)]), rowI' pm7 cm7 (posI zs 0 ++ [(zs.length : Int)]), rowI' p1 c1 (posI zs 1), rowI' p2 c2 (posI zs 2), rowI' p3 c3 (posI zs 3), .cel b17 #[vI 0, vI (sp i)] 67, .cel b26 #[vI (zs.length : Int)] 3, .cel b38 #[vI 0] 3] := hA8
        refine WL.pure (v := vP b3 0) 36 rfl (Nat.le_of_ble_eq_true rfl) rfl rfl (by kernel_rfl) ?_
        refine WL.store (H2 := [.cel b2 #[.slice none 0 0, .slice none 0 0, .slice none 0 0, .slice none 0 0, .slice none 0 0] 55, .cel b3 #[.slice po8 ((zs ++ [(0 : Int)]).length) co8, .slice pm7 ((posI zs 0 ++ [(zs.length : Int)]).length) cm7, .slice p1 ((posI zs 1).length) c1, .slice p2 ((posI zs 2).length) c2, .slice p3 ((posI zs 3).length) c3] 55, rowI' po8 co8 (zs ++ [(0 : Int)]), rowI' pm7 cm7 (posI zs 0 ++ [(zs.length : Int)]), rowI' p1 c1 (posI zs 1), rowI' p2 c2 (posI zs 2), rowI' p3 c3 (posI zs 3), .cel b17 #[vI 0, vI (sp i)] 67, .cel b26 #[vI (zs.length : Int)] 3, .cel b38 #[vI 0] 3]) 1 hH41 rfl rfl rfl rfl rfl rfl sz23 rfl (Nat.le_of_ble_eq_true rfl) rfl rfl ?_
        intro w42 hH43
        refine WL.nil ?_
        refine WQ.inNormal ?_
        refine WQ.then ?_
        refine hK28 _ _ _ ?_
        refine WC.sub (l' := [(2, vP b2 0), (3, vP b3 0), (5, vP b17 0), (6, .slice (some ⟨bb, oo, none⟩) N cap), (7, vI (N : Int)), (8, vI (i : Int)), (13, vI (sp i)), (14, vI (k : Int)), (15, .bool true)]) ⟨rfl, rfl, rfl, rfl, rfl, rfl, rfl, rfl, rfl, trivial⟩ ?_
        refine WC.region ?_
        refine WL.pure (v := vI ((k + 1 : Nat) : Int)) 37 rfl (Nat.le_of_ble_eq_true rfl) rfl rfl (x_add (Z := ((k + 1 : Nat) : Int)) rfl rfl rfl (by omega) (by omega) (by omega)) ?_
        refine WL.pure (v := vI ((k + 1 : Nat) : Int)) 14 rfl (Nat.le_of_ble_eq_true rfl) rfl rfl (by kernel_rfl) ?_
        refine WL.nil ?_
        refine WQ.sub (l' := [(2, vP b2 0), (3, vP b3 0), (5, vP b17 0), (6, .slice (some ⟨bb, oo, none⟩) N cap), (7, vI (N : Int)), (8, vI (i : Int)), (13, vI (sp i)), (14, vI ((k + 1 : Nat) : Int))]) ⟨rfl, rfl, rfl, rfl, rfl, rfl, rfl, rfl, trivial⟩ ?_
        refine WQ.then (hK23 _ _ _ (by omega) ⟨k + 1, (zs ++ [0]), po8, co8, pm7, cm7, p1, c1, p2, c2, p3, c3, rfl, rfl, by omega, by rw [rep_succ, ← List.append_assoc, hzs], (by simp only [posI_same (l := zs) (show (0 : Int) ≠ 1 by decide), posI_same (l := zs) (show (0 : Int) ≠ 2 by decide), posI_same (l := zs) (show (0 : Int) ≠ 3 by decide), posI_add (l := zs) (show (0 : Int) = 0 from rfl)]; exact (HP.drop (HP.drop hH43 9) 8))⟩)
      ·
        refine WL.pure (v := .bool false) 15 rfl (Nat.le_of_ble_eq_true rfl) rfl rfl (x_lss rfl rfl rfl (dF (hkl))) ?_
        refine WL.nil ?_
        refine WQ.then ?_
        refine hK26 _ _ _ ?_
        refine WC.seq fun K44 hK44 => ?_
        refine WC.no rfl ?_
        refine WC.exit ?_
        refine WQ.thenExit ?_
        refine WQ.thenExit ?_
        refine WQ.inExit ?_
        refine WQ.inNormal ?_
        refine WQ.then ?_
        refine hK15 _ _ _ ?_
        refine WC.region ?_
        refine WL.pure (v := vI ((i + 1 : Nat) : Int)) 38 rfl (Nat.le_of_ble_eq_true rfl) rfl rfl (x_add (Z := ((i + 1 : Nat) : Int)) rfl rfl rfl (by omega) (by omega) (by omega)) ?_
        refine WL.pure (v := vI ((i + 1 : Nat) : Int)) 8 rfl (Nat.le_of_ble_eq_true rfl) rfl rfl (by kernel_rfl) ?_
        refine WL.nil ?_
        obtain rfl : k = sn := by omega
        refine WQ.sub (l' := [(2, vP b2 0), (3, vP b3 0), (6, .slice (some ⟨bb, oo, none⟩) N cap), (7, vI (N : Int)), (8, vI ((i + 1 : Nat) : Int))]) ⟨rfl, rfl, rfl, rfl, rfl, trivial⟩ ?_
        refine WQ.then (hK10 _ _ _ (by omega) ⟨i + 1, zs, po, co, p0, c0, p1, c1, p2, c2, p3, c3, rfl, rfl, by omega, by rw [hzs, hys]; show _ = owl o sp i ++ List.replicate (sp i).toNat (o i); rw [ho, hsn, Int.toNat_natCast], (HP.drop hH25 7)⟩)
    ·
      refine WC.region ?_
      refine WL.pure (v := vP bb (oo + i * 2)) 10 rfl (Nat.le_of_ble_eq_true rfl) rfl rfl (x_idx (i) (oo + i * 2) rfl rfl rfl Try.underlying22 sz67 (by omega) (by omega) (by omega)) ?_
      have hcl : World.rangeAt w bb (oo + i * 2) [vI 1, vI (sp i)] := by have q := hrow i (by omega); rwa [ho] at q
      refine WL.pure (v := .agg #[vI 1, vI (sp i)]) 11 rfl (Nat.le_of_ble_eq_true rfl) rfl rfl (x_loadS (cs := [vI 1, vI (sp i)]) rfl rfl Try.underlying67 rfl sz67 (HP.oldRange hH12 trivial hcl)) ?_
      refine WL.alloc (c := #[vI 0, vI 0]) (T := 67) hH12 5 rfl (by decide) rfl rfl (fun b45 => vP b45 0) (by kernel_rfl) (fun b45 w46 hw46 => ?_)
      have hH47 : HP Tr w w46 [.cel b2 #[.slice none 0 0, .slice none 0 0, .slice none 0 0, .slice none 0 0, .slice none 0 0] 55, .cel b3 #[.slice po ys.length co, .slice p0 ((posI ys 0).length) c0, .slice p1 ((posI ys 1).length) c1, .slice p2 ((posI ys 2).length) c2, .slice p3 ((posI ys 3).length) c3] 55, rowI' po co ys, rowI' p0 c0 (posI ys 0), rowI' p1 c1 (posI ys 1), rowI' p2 c2 (posI ys 2), rowI' p3 c3 (posI ys 3), .cel b45 #[vI 0, vI 0] 67] := hw46.2
      have nb45 := hw46.1
      clear hw46
      refine WL.storeS (H2 := [.cel b2 #[.slice none 0 0, .slice none 0 0, .slice none 0 0, .slice none 0 0, .slice none 0 0] 55, .cel b3 #[.slice po ys.length co, .slice p0 ((posI ys 0).length) c0, .slice p1 ((posI ys 1).length) c1, .slice p2 ((posI ys 2).length) c2, .slice p3 ((posI ys 3).length) c3] 55, rowI' po co ys, rowI' p0 c0 (posI ys 0), rowI' p1 c1 (posI ys 1), rowI' p2 c2 (posI ys 2), rowI' p3 c3 (posI ys 3), .cel b45 #[vI 1, vI (sp i)] 67]) 7 hH47 rfl rfl rfl rfl rfl rfl sz67 rfl (Nat.le_of_ble_eq_true rfl) rfl rfl ?_
      intro w48 hH49
      refine WL.nil ?_
      refine WQ.then ?_
      refine hK16 _ _ _ ?_
      refine WC.seq fun K50 hK50 => ?_
      obtain ⟨sn, hsn⟩ : ∃ sn : Nat, sp i = (sn : Int) := ⟨(sp i).toNat, by omega⟩
      have hsn2 : sn ≤ 50 := by omega
      have hyl : ys.length ≤ i * 50 := by rw [hys]; exact (owl_len (o := o) (sp := sp) i (fun q hq => (okS1_iff.1 (hok.2.2 q (by omega))).2)).2
      refine WC.region ?_
      refine WL.pure (v := vP b45 1) 12 rfl (Nat.le_of_ble_eq_true rfl) rfl rfl (by kernel_rfl) ?_
      refine WL.pure (v := vI (sp i)) 13 rfl (Nat.le_of_ble_eq_true rfl) rfl rfl (x_load rfl rfl Try.underlying3 rfl (HP.cell hH49 7 rfl rfl)) ?_
      refine WL.pure (v := vI 0) 14 rfl (Nat.le_of_ble_eq_true rfl) rfl rfl (by kernel_rfl) ?_
      refine WL.nil ?_
      refine WQ.then ?_
      refine hK50 _ _ _ ?_
      refine WC.block ?_
      refine WC.loop (fun kk0 ll0 ww0 => ∃ (k : Nat) (zs : List Int) (po : Option Addr) (co : Nat) (p0 : Option Addr) (c0 : Nat) (p1 : Option Addr) (c1 : Nat) (p2 : Option Addr) (c2 : Nat) (p3 : Option Addr) (c3 : Nat), ll0 = [(2, vP b2 0), (3, vP b3 0), (5, vP b45 0), (6, .slice (some ⟨bb, oo, none⟩) N cap), (7, vI (N : Int)), (8, vI (i : Int)), (13, vI (sp i)), (14, vI (k : Int))] ∧ kk0 = sn - k ∧ (k ≤ sn) ∧ (zs = ys ++ List.replicate k (1 : Int)) ∧ HP Tr w ww0 [.cel b2 #[.slice none 0 0, .slice none 0 0, .slice none 0 0, .slice none 0 0, .slice none 0 0] 55, .cel b3 #[.slice po zs.length co, .slice p0 ((posI zs 0).length) c0, .slice p1 ((posI zs 1).length) c1, .slice p2 ((posI zs 2).length) c2, .slice p3 ((posI zs 3).length) c3] 55, rowI' po co zs, rowI' p0 c0 (posI zs 0), rowI' p1 c1 (posI zs 1), rowI' p2 c2 (posI zs 2), rowI' p3 c3 (posI zs 3), .cel b45 #[vI 1, vI (sp i)] 67]) (sn) [(2, vP b2 0), (3, vP b3 0), (5, vP b45 0), (6, .slice (some ⟨bb, oo, none⟩) N cap), (7, vI (N : Int)), (8, vI (i : Int)), (13, vI (sp i)), (14, vI 0)] ⟨rfl, rfl, rfl, rfl, rfl, rfl, rfl, rfl, trivial⟩ ⟨0, ys, po, co, p0, c0, p1, c1, p2, c2, p3, c3, rfl, rfl, Nat.zero_le _, by simp, hH49⟩ ?_
      rintro kk l w52 ⟨k, zs, po, co, p0, c0, p1, c1, p2, c2, p3, c3, rfl, hkk, hk, hzs, hH53⟩ K51 hK51
      have hzl : zs.length = ys.length + k := by rw [hzs]; simp
      refine WC.seq fun K54 hK54 => ?_
      refine WC.region ?_
      by_cases hkl : (k : Int) < sp i
      ·
        refine WL.pure (v := .bool true) 15 rfl (Nat.le_of_ble_eq_true rfl) rfl rfl (x_lss rfl rfl rfl (dT (hkl))) ?_
        refine WL.nil ?_
        refine WQ.then ?_
        refine hK54 _ _ _ ?_
        refine WC.seq fun K55 hK55 => ?_
        refine WC.yes rfl ?_
        refine WC.skip ?_
        refine WQ.then ?_
        refine hK55 _ _ _ ?_
        refine WC.seq fun K56 hK56 => ?_
        refine WC.block ?_
        refine WC.seq fun K57 hK57 => ?_
        obtain ⟨i0, hi0, hz0, hz1, hz2⟩ := infoI
        have hpzl := posI_len zs 1
        refine WC.confG (γ := Nat × Option Addr × Nat × Unit) [(15, .bool true), (2, vP b2 0), (3, vP b3 0), (5, vP b45 0), (6, .slice (some ⟨bb, oo, none⟩) N cap), (7, vI (N : Int)), (8, vI (i : Int)), (13, vI (sp i)), (14, vI (k : Int))] (fun gy => [vP b45 0, vI 1, vP b45 0, vI 1, vP b3 1, vP b3 2, .slice p1 ((posI zs 1).length) c1, vP b3 0, .slice po zs.length co, vI (zs.length : Int), vS gy.1 1 1, .slice gy.2.1 ((posI zs 1 ++ [(zs.length : Int)]).length) gy.2.2.1, vP b3 1, vP b3 2, undef]) (fun gy D wz => HP Tr w wz ([.cel b2 #[.slice none 0 0, .slice none 0 0, .slice none 0 0, .slice none 0 0, .slice none 0 0] 55, (bif D 14 then Ent.cel b3 #[.slice po zs.length co, .slice p0 ((posI zs 0).length) c0, .slice gy.2.1 ((posI zs 1 ++ [(zs.length : Int)]).length) gy.2.2.1, .slice p2 ((posI zs 2).length) c2, .slice p3 ((posI zs 3).length) c3] 55 else Ent.cel b3 #[.slice po zs.length co, .slice p0 ((posI zs 0).length) c0, .slice p1 ((posI zs 1).length) c1, .slice p2 ((posI zs 2).length) c2, .slice p3 ((posI zs 3).length) c3] 55), rowI' po co zs, rowI' p0 c0 (posI zs 0), (bif D 11 then rowI' gy.2.1 gy.2.2.1 (posI zs 1 ++ [(zs.length : Int)]) else rowI' p1 c1 (posI zs 1)), rowI' p2 c2 (posI zs 2), rowI' p3 c3 (posI zs 3), .cel b45 #[vI 1, vI (sp i)] 67] ++ ((bif D 10 then [Ent.cel gy.1 #[vI (zs.length : Int)] 3] else []) ++ []))) (0, none, 0, ()) (by kernel_rfl) ⟨rfl, rfl, rfl, rfl, rfl, rfl, rfl, rfl, rfl, trivial⟩ (by kernel_rfl) (by kernel_rfl) (by kernel_rfl) (fun _ => rfl) (by kernel_rfl) (HP.drew hH53) ?_ ?_
        · refine AllOk.cons ?o0 (AllOk.cons ?o1 (AllOk.cons ?o2 (AllOk.cons ?o3 (AllOk.cons ?o4 (AllOk.cons ?o5 (AllOk.cons ?o6 (AllOk.cons ?o7 (AllOk.cons ?o8 (AllOk.cons ?o9 (AllOk.cons ?o10 (AllOk.cons ?o11 (AllOk.cons ?o12 (AllOk.cons ?o13 (AllOk.cons ?o14 (AllOk.nil _)))))))))))))))
          case o0 =>
            intro gy D wz hDi hdep hclo hW
            exact .inl ⟨rfl, rfl, .inl ⟨gy, wz, fun _ _ => rfl, by kernel_rfl, hW⟩⟩
          case o1 =>
            intro gy D wz hDi hdep hclo hW
            exact .inl ⟨rfl, rfl, .inl ⟨gy, wz, fun _ _ => rfl, x_load rfl rfl Try.underlying3 rfl (HP.cell hW 7 rfl rfl), hW⟩⟩
          case o2 =>
            intro gy D wz hDi hdep hclo hW
            exact .inl ⟨rfl, rfl, .inl ⟨gy, wz, fun _ _ => rfl, by kernel_rfl, hW⟩⟩
          case o3 =>
            intro gy D wz hDi hdep hclo hW
            exact .inl ⟨rfl, rfl, .inl ⟨gy, wz, fun _ _ => rfl, x_load rfl rfl Try.underlying3 rfl (HP.cell hW 7 rfl rfl), hW⟩⟩
          case o4 =>
            intro gy D wz hDi hdep hclo hW
            exact .inl ⟨rfl, rfl, .inl ⟨gy, wz, fun _ _ => rfl, by kernel_rfl, hW⟩⟩
          case o5 =>
            intro gy D wz hDi hdep hclo hW
            exact .inl ⟨rfl, rfl, .inl ⟨gy, wz, fun _ _ => rfl, x_idxArr (1) (2) rfl rfl rfl Try.underlying53 sz23 rfl (by omega) (by omega), hW⟩⟩
          case o6 =>
            intro gy D wz hDi hdep hclo hW
            have d14 : D 14 = false := by
              cases h : D 14 with
              | false => rfl
              | true => exact absurd (hclo 14 _ rfl h ⟨6, .phase⟩ (by simp) rfl) (by rw [hDi]; exact Bool.false_ne_true)
            have hW2 := hW
            simp only [d14, cond_false] at hW2
            exact .inl ⟨rfl, rfl, .inl ⟨gy, wz, fun _ _ => rfl, x_load rfl rfl Try.underlying23 rfl (HP.cell hW2 1 rfl rfl), hW⟩⟩
          case o7 =>
            intro gy D wz hDi hdep hclo hW
            exact .inl ⟨rfl, rfl, .inl ⟨gy, wz, fun _ _ => rfl, by kernel_rfl, hW⟩⟩
          case o8 =>
            intro gy D wz hDi hdep hclo hW
            have d14 : D 14 = false := by
              cases h : D 14 with
              | false => rfl
              | true => exact absurd (hclo 14 _ rfl h ⟨8, .phase⟩ (by simp) rfl) (by rw [hDi]; exact Bool.false_ne_true)
            have hW2 := hW
            simp only [d14, cond_false] at hW2
            exact .inl ⟨rfl, rfl, .inl ⟨gy, wz, fun _ _ => rfl, x_load rfl rfl Try.underlying23 rfl (HP.cell hW2 1 rfl rfl), hW⟩⟩
          case o9 =>
            intro gy D wz hDi hdep hclo hW
            exact .inl ⟨rfl, rfl, .inl ⟨gy, wz, fun _ _ => rfl, by kernel_rfl, hW⟩⟩
          case o10 =>
            intro gy D wz hDi hdep hclo hW
            have d11 : D 11 = false := by
              cases h : D 11 with
              | false => rfl
              | true => exact absurd (hclo 11 _ rfl h ⟨10, .data⟩ (by simp) rfl) (by rw [hDi]; exact Bool.false_ne_true)
            have d14 : D 14 = false := by
              cases h : D 14 with
              | false => rfl
              | true => exact absurd (hclo 14 _ rfl h ⟨10, .phase⟩ (by simp) rfl) (by rw [hDi]; exact Bool.false_ne_true)
            have hW2 := hW
            try simp only [d11, d14, hDi, cond_true, cond_false, List.append_nil, List.nil_append, List.cons_append] at hW2
            refine cf_alloc (c := #[vI (zs.length : Int)]) (T := 3) hW2 (fun b26 => vS b26 1 1) rfl rfl (by kernel_rfl) ?_
            rintro b26 w3 hA
            refine ⟨⟨b26, gy.2.1, gy.2.2.1, ()⟩, fun j hj => ?_, rfl, ?_⟩
            · match j, hj with
              | 0, hj => rfl
              | 1, hj => rfl
              | 2, hj => rfl
              | 3, hj => rfl
              | 4, hj => rfl
              | 5, hj => rfl
              | 6, hj => rfl
              | 7, hj => rfl
              | 8, hj => rfl
              | 9, hj => rfl
              | 10, hj => rw [hDi] at hj; cases hj
              | 11, hj => rfl
              | 12, hj => rfl
              | 13, hj => rfl
              | 14, hj => rfl
              | j + 15, _ => rfl
            · show HP Tr w w3 ([.cel b2 #[.slice none 0 0, .slice none 0 0, .slice none 0 0, .slice none 0 0, .slice none 0 0] 55, (bif D 14 then Ent.cel b3 #[.slice po zs.length co, .slice p0 ((posI zs 0).length) c0, .slice gy.2.1 ((posI zs 1 ++ [(zs.length : Int)]).length) gy.2.2.1, .slice p2 ((posI zs 2).length) c2, .slice p3 ((posI zs 3).length) c3] 55 else Ent.cel b3 #[.slice po zs.length co, .slice p0 ((posI zs 0).length) c0, .slice p1 ((posI zs 1).length) c1, .slice p2 ((posI zs 2).length) c2, .slice p3 ((posI zs 3).length) c3] 55), rowI' po co zs, rowI' p0 c0 (posI zs 0), (bif D 11 then rowI' gy.2.1 gy.2.2.1 (posI zs 1 ++ [(zs.length : Int)]) else rowI' p1 c1 (posI zs 1)), rowI' p2 c2 (posI zs 2), rowI' p3 c3 (posI zs 3), .cel b45 #[vI 1, vI (sp i)] 67] ++ ([Ent.cel b26 #[vI (zs.length : Int)] 3] ++ []))
              try simp only [d11, d14, cond_true, cond_false, List.append_nil, List.nil_append, List.cons_append]
              exact hA
          case o11 =>
            intro gy D wz hDi hdep hclo hW
            have d10 : D 10 = true := hdep ⟨10, .data⟩ (by simp) rfl
            have d14 : D 14 = false := by
              cases h : D 14 with
              | false => rfl
              | true => exact absurd (hclo 14 _ rfl h ⟨11, .data⟩ (by simp) rfl) (by rw [hDi]; exact Bool.false_ne_true)
            have hW2 := hW
            try simp only [d10, d14, hDi, cond_true, cond_false, List.append_nil, List.nil_append, List.cons_append] at hW2
            refine cf_append (news := [vI (zs.length : Int)]) 4 8 hW2 rfl rfl rfl rfl rfl Try.underlying23 hi0 hz0 hz1 hz2 rfl (by decide) rfl rfl rfl rfl (by simp [Value.oneCell']) (by unfold maxLen; omega) (by omega) ?_
            rintro v7 w3 hA
            obtain ⟨pm7, cm7, rfl⟩ := own_row (HP.get hA 4 rfl)
            have e7 : (posI zs 1).length + 1 = (posI zs 1 ++ [(zs.length : Int)]).length := (len1 _ _).symm
            rw [iR_push, e7] at hA
            rw [e7]
            refine ⟨⟨gy.1, pm7, cm7, ()⟩, fun j hj => ?_, rfl, ?_⟩
            · match j, hj with
              | 0, hj => rfl
              | 1, hj => rfl
              | 2, hj => rfl
              | 3, hj => rfl
              | 4, hj => rfl
              | 5, hj => rfl
              | 6, hj => rfl
              | 7, hj => rfl
              | 8, hj => rfl
              | 9, hj => rfl
              | 10, hj => rfl
              | 11, hj => rw [hDi] at hj; cases hj
              | 12, hj => rfl
              | 13, hj => rfl
              | 14, hj => rfl
              | j + 15, _ => rfl
            · show HP Tr w w3 ([.cel b2 #[.slice none 0 0, .slice none 0 0, .slice none 0 0, .slice none 0 0, .slice none 0 0] 55, (bif D 14 then Ent.cel b3 #[.slice po zs.length co, .slice p0 ((posI zs 0).length) c0, .slice pm7 ((posI zs 1 ++ [(zs.length : Int)]).length) cm7, .slice p2 ((posI zs 2).length) c2, .slice p3 ((posI zs 3).length) c3] 55 else Ent.cel b3 #[.slice po zs.length co, .slice p0 ((posI zs 0).length) c0, .slice p1 ((posI zs 1).length) c1, .slice p2 ((posI zs 2).length) c2, .slice p3 ((posI zs 3).length) c3] 55), rowI' po co zs, rowI' p0 c0 (posI zs 0), rowI' pm7 cm7 (posI zs 1 ++ [(zs.length : Int)]), rowI' p2 c2 (posI zs 2), rowI' p3 c3 (posI zs 3), .cel b45 #[vI 1, vI (sp i)] 67] ++ ((bif D 10 then [Ent.cel gy.1 #[vI (zs.length : Int)] 3] else []) ++ []))
              try simp only [d10, d14, cond_true, cond_false, List.append_nil, List.nil_append, List.cons_append]
              exact hA
          case o12 =>
            intro gy D wz hDi hdep hclo hW
            exact .inl ⟨rfl, rfl, .inl ⟨gy, wz, fun _ _ => rfl, by kernel_rfl, hW⟩⟩
          case o13 =>
            intro gy D wz hDi hdep hclo hW
            exact .inl ⟨rfl, rfl, .inl ⟨gy, wz, fun _ _ => rfl, x_idxArr (1) (2) rfl rfl rfl Try.underlying53 sz23 rfl (by omega) (by omega), hW⟩⟩
          case o14 =>
            intro gy D wz hDi hdep hclo hW
            have hW9 := hW
            simp only [hDi, cond_false] at hW9
            have h4 := HP.set (off := 2) (v := .slice gy.2.1 ((posI zs 1 ++ [(zs.length : Int)]).length) gy.2.2.1) hW9 1 rfl
            exact .inl ⟨rfl, rfl, .inr (.inl ⟨_, x_store rfl rfl rfl sz23 rfl (HP.cell hW9 1 rfl rfl) (HP.free hW9 1 rfl), rfl, h4⟩)⟩
        rintro ⟨b26, pm7, cm7, gu⟩ D w64 hall hH65
        simp only [hall 10 (by kernel_rfl), hall 11 (by kernel_rfl), hall 14 (by kernel_rfl), cond_true, List.append_nil, List.nil_append, List.cons_append] at hH65
        clear hall
        refine WQ.sub (l' := [(2, vP b2 0), (3, vP b3 0), (5, vP b45 0), (6, .slice (some ⟨bb, oo, none⟩) N cap), (7, vI (N : Int)), (8, vI (i : Int)), (13, vI (sp i)), (14, vI (k : Int)), (15, .bool true)]) ⟨rfl, rfl, rfl, rfl, rfl, rfl, rfl, rfl, rfl, trivial⟩ ?_
        refine WQ.then ?_
        refine hK57 _ _ _ ?_
        refine WC.region ?_
        refine WL.pure (v := vP b3 0) 30 rfl (Nat.le_of_ble_eq_true rfl) rfl rfl (by kernel_rfl) ?_
        refine WL.pure (v := .slice po zs.length co) 31 rfl (Nat.le_of_ble_eq_true rfl) rfl rfl (x_load rfl rfl Try.underlying23 rfl (HP.cell hH65 1 rfl rfl)) ?_
        refine WL.pure (v := vP b45 0) 32 rfl (Nat.le_of_ble_eq_true rfl) rfl rfl (by kernel_rfl) ?_
        refine WL.pure (v := vI 1) 33 rfl (Nat.le_of_ble_eq_true rfl) rfl rfl (x_load rfl rfl Try.underlying3 rfl (HP.cell hH65 7 rfl rfl)) ?_
        refine WL.alloc (c := #[vI 1]) (T := 3) hH65 34 rfl (by decide) rfl rfl (fun b66 => vS b66 1 1) (by kernel_rfl) (fun b66 w67 hw67 => ?_)
        have hH68 : HP Tr w w67 [.cel b2 #[.slice none 0 0, .slice none 0 0, .slice none 0 0, .slice none 0 0, .slice none 0 0] 55, .cel b3 #[.slice po zs.length co, .slice p0 ((posI zs 0).length) c0, .slice pm7 ((posI zs 1 ++ [(zs.length : Int)]).length) cm7, .slice p2 ((posI zs 2).length) c2, .slice p3 ((posI zs 3).length) c3] 55, rowI' po co zs, rowI' p0 c0 (posI zs 0), rowI' pm7 cm7 (posI zs 1 ++ [(zs.length : Int)]), rowI' p2 c2 (posI zs 2), rowI' p3 c3 (posI zs 3), .cel b45 #[vI 1, vI (sp i)] 67, .cel b26 #[vI (zs.length : Int)] 3, .cel b66 #[vI 1] 3] := hw67.2
        have nb66 := hw67.1
        clear hw67
        refine WL.append (news := [vI 1]) 2 9 hH68 35 rfl (by decide) rfl rfl rfl rfl Try.underlying23 hi0 hz0 hz1 hz2 rfl (by decide) rfl rfl rfl rfl (by simp [Value.oneCell']) (by unfold maxLen; omega) (by omega) ?_
        rintro v8 w8 - hA8
        obtain ⟨po8, co8, rfl⟩ := own_row (HP.get hA8 2 rfl)
        have e8 : zs.length + 1 = (zs ++ [(1 : Int)]).length := (len1 _ _).symm
        rw [iR_push, e8] at hA8
        rw [e8]
        have hH69 : HP Tr w _ [.cel b2 #[.slice none 0 0, .slice none 0 0, .slice none 0 0, .slice none 0 0, .slice none 0 0] 55, .cel b3 #[.slice po zs.length co, .slice p0 ((posI zs 0).length) c0, .slice pm7 ((posI zs 1 ++ [(zs.length : Int)]).length) cm7, .slice p2 ((posI zs 2).length) c2, .slice p3 ((posI zs 3).length) c3] 55, rowI' po8 co8 (zs ++ [(1 : Int)]), rowI' p0 c0 (posI zs 0), rowI' pm7 cm7 (posI zs 1 ++ [(zs.length : Int)]), rowI' p2 c2 (posI zs 2), rowI' p3 c3 (posI zs 3), .cel b45 #[vI 1, vI (sp i)] 67, .cel b26 #[vI (zs.length : Int)] 3, .cel b66 #[vI 1] 3] := hA8
        refine WL.pure (v := vP b3 0) 36 rfl (Nat.le_of_ble_eq_true rfl) rfl rfl (by kernel_rfl) ?_
        refine WL.store (H2 := [.cel b2 #[.slice none 0 0, .slice none 0 0, .slice none 0 0, .slice none 0 0, .slice none 0 0] 55, .cel b3 #[.slice po8 ((zs ++ [(1 : Int)]).length) co8, .slice p0 ((posI zs 0).length) c0, .slice pm7 ((posI zs 1 ++ [(zs.length : Int)]).length) cm7, .slice p2 ((posI zs 2).length) c2, .slice p3 ((posI zs 3).length) c3] 55, rowI' po8 co8 (zs ++ [(1 : Int)]), rowI' p0 c0 (posI zs 0), rowI' pm7 cm7 (posI zs 1 ++ [(zs.length : Int)]), rowI' p2 c2 (posI zs 2), rowI' p3 c3 (posI zs 3), .cel b45 #[vI 1, vI (sp i)] 67, .cel b26 #[vI (zs.length : Int)] 3, .cel b66 #[vI 1] 3]) 1 hH69 rfl rfl rfl rfl rfl rfl sz23 rfl (Nat.le_of_ble_eq_true rfl) rfl rfl ?_
        intro w70 hH71
        refine WL.nil ?_
        refine WQ.inNormal ?_
        refine WQ.then ?_
        refine hK56 _ _ _ ?_
        refine WC.sub (l' := [(2, vP b2 0), (3, vP b3 0), (5, vP b45 0), (6, .slice (some ⟨bb, oo, none⟩) N cap), (7, vI (N : Int)), (8, vI (i : Int)), (13, vI (sp i)), (14, vI (k : Int)), (15, .bool true)]) ⟨rfl, rfl, rfl, rfl, rfl, rfl, rfl, rfl, rfl, trivial⟩ ?_
        refine WC.region ?_
        refine WL.pure (v := vI ((k + 1 : Nat) : Int)) 37 rfl (Nat.le_of_ble_eq_true rfl) rfl rfl (x_add (Z := ((k + 1 : Nat) : Int)) rfl rfl rfl (by omega) (by omega) (by omega)) ?_
        refine WL.pure (v := vI ((k + 1 : Nat) : Int)) 14 rfl (Nat.le_of_ble_eq_true rfl) rfl rfl (by kernel_rfl) ?_
        refine WL.nil ?_
        refine WQ.sub (l' := [(2, vP b2 0), (3, vP b3 0), (5, vP b45 0), (6, .slice (some ⟨bb, oo, none⟩) N cap), (7, vI (N : Int)), (8, vI (i : Int)), (13, vI (sp i)), (14, vI ((k + 1 : Nat) : Int))]) ⟨rfl, rfl, rfl, rfl, rfl, rfl, rfl, rfl, trivial⟩ ?_
        refine WQ.then (hK51 _ _ _ (by omega) ⟨k + 1, (zs ++ [1]), po8, co8, p0, c0, pm7, cm7, p2, c2, p3, c3, rfl, rfl, by omega, by rw [rep_succ, ← List.append_assoc, hzs], (by simp only [posI_same (l := zs) (show (1 : Int) ≠ 0 by decide), posI_same (l := zs) (show (1 : Int) ≠ 2 by decide), posI_same (l := zs) (show (1 : Int) ≠ 3 by decide), posI_add (l := zs) (show (1 : Int) = 1 from rfl)]; exact (HP.drop (HP.drop hH71 9) 8))⟩)
      ·
        refine WL.pure (v := .bool false) 15 rfl (Nat.le_of_ble_eq_true rfl) rfl rfl (x_lss rfl rfl rfl (dF (hkl))) ?_
        refine WL.nil ?_
        refine WQ.then ?_
        refine hK54 _ _ _ ?_
        refine WC.seq fun K72 hK72 => ?_
        refine WC.no rfl ?_
        refine WC.exit ?_
        refine WQ.thenExit ?_
        refine WQ.thenExit ?_
        refine WQ.inExit ?_
        refine WQ.inNormal ?_
        refine WQ.then ?_
        refine hK15 _ _ _ ?_
        refine WC.region ?_
        refine WL.pure (v := vI ((i + 1 : Nat) : Int)) 38 rfl (Nat.le_of_ble_eq_true rfl) rfl rfl (x_add (Z := ((i + 1 : Nat) : Int)) rfl rfl rfl (by omega) (by omega) (by omega)) ?_
        refine WL.pure (v := vI ((i + 1 : Nat) : Int)) 8 rfl (Nat.le_of_ble_eq_true rfl) rfl rfl (by kernel_rfl) ?_
        refine WL.nil ?_
        obtain rfl : k = sn := by omega
        refine WQ.sub (l' := [(2, vP b2 0), (3, vP b3 0), (6, .slice (some ⟨bb, oo, none⟩) N cap), (7, vI (N : Int)), (8, vI ((i + 1 : Nat) : Int))]) ⟨rfl, rfl, rfl, rfl, rfl, trivial⟩ ?_
        refine WQ.then (hK10 _ _ _ (by omega) ⟨i + 1, zs, po, co, p0, c0, p1, c1, p2, c2, p3, c3, rfl, rfl, by omega, by rw [hzs, hys]; show _ = owl o sp i ++ List.replicate (sp i).toNat (o i); rw [ho, hsn, Int.toNat_natCast], (HP.drop hH53 7)⟩)
    ·
      refine WC.region ?_
      refine WL.pure (v := vP bb (oo + i * 2)) 10 rfl (Nat.le_of_ble_eq_true rfl) rfl rfl (x_idx (i) (oo + i * 2) rfl rfl rfl Try.underlying22 sz67 (by omega) (by omega) (by omega)) ?_
      have hcl : World.rangeAt w bb (oo + i * 2) [vI 2, vI (sp i)] := by have q := hrow i (by omega); rwa [ho] at q
      refine WL.pure (v := .agg #[vI 2, vI (sp i)]) 11 rfl (Nat.le_of_ble_eq_true rfl) rfl rfl (x_loadS (cs := [vI 2, vI (sp i)]) rfl rfl Try.underlying67 rfl sz67 (HP.oldRange hH12 trivial hcl)) ?_
      refine WL.alloc (c := #[vI 0, vI 0]) (T := 67) hH12 5 rfl (by decide) rfl rfl (fun b73 => vP b73 0) (by kernel_rfl) (fun b73 w74 hw74 => ?_)
      have hH75 : HP Tr w w74 [.cel b2 #[.slice none 0 0, .slice none 0 0, .slice none 0 0, .slice none 0 0, .slice none 0 0] 55, .cel b3 #[.slice po ys.length co, .slice p0 ((posI ys 0).length) c0, .slice p1 ((posI ys 1).length) c1, .slice p2 ((posI ys 2).length) c2, .slice p3 ((posI ys 3).length) c3] 55, rowI' po co ys, rowI' p0 c0 (posI ys 0), rowI' p1 c1 (posI ys 1), rowI' p2 c2 (posI ys 2), rowI' p3 c3 (posI ys 3), .cel b73 #[vI 0, vI 0] 67] := hw74.2
      have nb73 := hw74.1
      clear hw74
      refine WL.storeS (H2 := [.cel b2 #[.slice none 0 0, .slice none 0 0, .slice none 0 0, .slice none 0 0, .slice none 0 0] 55, .cel b3 #[.slice po ys.length co, .slice p0 ((posI ys 0).length) c0, .slice p1 ((posI ys 1).length) c1, .slice p2 ((posI ys 2).length) c2, .slice p3 ((posI ys 3).length) c3] 55, rowI' po co ys, rowI' p0 c0 (posI ys 0), rowI' p1 c1 (posI ys 1), rowI' p2 c2 (posI ys 2), rowI' p3 c3 (posI ys 3), .cel b73 #[vI 2, vI (sp i)] 67]) 7 hH75 rfl rfl rfl rfl rfl rfl sz67 rfl (Nat.le_of_ble_eq_true rfl) rfl rfl ?_
      intro w76 hH77
      refine WL.nil ?_
      refine WQ.then ?_
      refine hK16 _ _ _ ?_
      refine WC.seq fun K78 hK78 => ?_
      obtain ⟨sn, hsn⟩ : ∃ sn : Nat, sp i = (sn : Int) := ⟨(sp i).toNat, by omega⟩
      have hsn2 : sn ≤ 50 := by omega
      have hyl : ys.length ≤ i * 50 := by rw [hys]; exact (owl_len (o := o) (sp := sp) i (fun q hq => (okS1_iff.1 (hok.2.2 q (by omega))).2)).2
      refine WC.region ?_
      refine WL.pure (v := vP b73 1) 12 rfl (Nat.le_of_ble_eq_true rfl) rfl rfl (by kernel_rfl) ?_
      refine WL.pure (v := vI (sp i)) 13 rfl (Nat.le_of_ble_eq_true rfl) rfl rfl (x_load rfl rfl Try.underlying3 rfl (HP.cell hH77 7 rfl rfl)) ?_
      refine WL.pure (v := vI 0) 14 rfl (Nat.le_of_ble_eq_true rfl) rfl rfl (by kernel_rfl) ?_
      refine WL.nil ?_
      refine WQ.then ?_
      refine hK78 _ _ _ ?_
      refine WC.block ?_
      refine WC.loop (fun kk0 ll0 ww0 => ∃ (k : Nat) (zs : List Int) (po : Option Addr) (co : Nat) (p0 : Option Addr) (c0 : Nat) (p1 : Option Addr) (c1 : Nat) (p2 : Option Addr) (c2 : Nat) (p3 : Option Addr) (c3 : Nat), ll0 = [(2, vP b2 0), (3, vP b3 0), (5, vP b73 0), (6, .slice (some ⟨bb, oo, none⟩) N cap), (7, vI (N : Int)), (8, vI (i : Int)), (13, vI (sp i)), (14, vI (k : Int))] ∧ kk0 = sn - k ∧ (k ≤ sn) ∧ (zs = ys ++ List.replicate k (2 : Int)) ∧ HP Tr w ww0 [.cel b2 #[.slice none 0 0, .slice none 0 0, .slice none 0 0, .slice none 0 0, .slice none 0 0] 55, .cel b3 #[.slice po zs.length co, .slice p0 ((posI zs 0).length) c0, .slice p1 ((posI zs 1).length) c1, .slice p2 ((posI zs 2).length) c2, .slice p3 ((posI zs 3).length) c3] 55, rowI' po co zs, rowI' p0 c0 (posI zs 0), rowI' p1 c1 (posI zs 1), rowI' p2 c2 (posI zs 2), rowI' p3 c3 (posI zs 3), .cel b73 #[vI 2, vI (sp i)] 67]) (sn) [(2, vP b2 0), (3, vP b3 0), (5, vP b73 0), (6, .slice (some ⟨bb, oo, none⟩) N cap), (7, vI (N : Int)), (8, vI (i : Int)), (13, vI (sp i)), (14, vI 0)] ⟨rfl, rfl, rfl, rfl, rfl, rfl, rfl, rfl, trivial⟩ ⟨0, ys, po, co, p0, c0, p1, c1, p2, c2, p3, c3, rfl, rfl, Nat.zero_le _, by simp, hH77⟩ ?_
      rintro kk l w80 ⟨k, zs, po, co, p0, c0, p1, c1, p2, c2, p3, c3, rfl, hkk, hk, hzs, hH81⟩ K79 hK79
      have hzl : zs.length = ys.length + k := by rw [hzs]; simp
      refine WC.seq fun K82 hK82 => ?_
      refine WC.region ?_
      by_cases hkl : (k : Int) < sp i
      ·
        refine WL.pure (v := .bool true) 15 rfl (Nat.le_of_ble_eq_true rfl) rfl rfl (x_lss rfl rfl rfl (dT (hkl))) ?_
        refine WL.nil ?_
        refine WQ.then ?_
        refine hK82 _ _ _ ?_
        refine WC.seq fun K83 hK83 => ?_
        refine WC.yes rfl ?_
        refine WC.skip ?_
        refine WQ.then ?_
        refine hK83 _ _ _ ?_
        refine WC.seq fun K84 hK84 => ?_
        refine WC.block ?_
        refine WC.seq fun K85 hK85 => ?_
        obtain ⟨i0, hi0, hz0, hz1, hz2⟩ := infoI
        have hpzl := posI_len zs 2
        refine WC.confG (γ := Nat × Option Addr × Nat × Unit) [(15, .bool true), (2, vP b2 0), (3, vP b3 0), (5, vP b73 0), (6, .slice (some ⟨bb, oo, none⟩) N cap), (7, vI (N : Int)), (8, vI (i : Int)), (13, vI (sp i)), (14, vI (k : Int))] (fun gy => [vP b73 0, vI 2, vP b73 0, vI 2, vP b3 1, vP b3 3, .slice p2 ((posI zs 2).length) c2, vP b3 0, .slice po zs.length co, vI (zs.length : Int), vS gy.1 1 1, .slice gy.2.1 ((posI zs 2 ++ [(zs.length : Int)]).length) gy.2.2.1, vP b3 1, vP b3 3, undef]) (fun gy D wz => HP Tr w wz ([.cel b2 #[.slice none 0 0, .slice none 0 0, .slice none 0 0, .slice none 0 0, .slice none 0 0] 55, (bif D 14 then Ent.cel b3 #[.slice po zs.length co, .slice p0 ((posI zs 0).length) c0, .slice p1 ((posI zs 1).length) c1, .slice gy.2.1 ((posI zs 2 ++ [(zs.length : Int)]).length) gy.2.2.1, .slice p3 ((posI zs 3).length) c3] 55 else Ent.cel b3 #[.slice po zs.length co, .slice p0 ((posI zs 0).length) c0, .slice p1 ((posI zs 1).length) c1, .slice p2 ((posI zs 2).length) c2, .slice p3 ((posI zs 3).length) c3] 55), rowI' po co zs, rowI' p0 c0 (posI zs 0), rowI' p1 c1 (posI zs 1), (bif D 11 then rowI' gy.2.1 gy.2.2.1 (posI zs 2 ++ [(zs.length : Int)]) else rowI' p2 c2 (posI zs 2)), rowI' p3 c3 (posI zs 3), .cel b73 #[vI 2, vI (sp i)] 67] ++ ((bif D 10 then [Ent.cel gy.1 #[vI (zs.length : Int)] 3] else []) ++ []))) (0, none, 0, ()) (by kernel_rfl) ⟨rfl, rfl, rfl, rfl, rfl, rfl, rfl, rfl, rfl, trivial⟩ (by kernel_rfl) (by kernel_rfl) (by kernel_rfl) (fun _ => rfl) (by kernel_rfl) (HP.drew hH81) ?_ ?_
        · refine AllOk.cons ?o0 (AllOk.cons ?o1 (AllOk.cons ?o2 (AllOk.cons ?o3 (AllOk.cons ?o4 (AllOk.cons ?o5 (AllOk.cons ?o6 (AllOk.cons ?o7 (AllOk.cons ?o8 (AllOk.cons ?o9 (AllOk.cons ?o10 (AllOk.cons ?o11 (AllOk.cons ?o12 (AllOk.cons ?o13 (AllOk.cons ?o14 (AllOk.nil _)))))))))))))))
          case o0 =>
            intro gy D wz hDi hdep hclo hW
            exact .inl ⟨rfl, rfl, .inl ⟨gy, wz, fun _ _ => rfl, by kernel_rfl, hW⟩⟩
          case o1 =>
            intro gy D wz hDi hdep hclo hW
            exact .inl ⟨rfl, rfl, .inl ⟨gy, wz, fun _ _ => rfl, x_load rfl rfl Try.underlying3 rfl (HP.cell hW 7 rfl rfl), hW⟩⟩
          case o2 =>
            intro gy D wz hDi hdep hclo hW
            exact .inl ⟨rfl, rfl, .inl ⟨gy, wz, fun _ _ => rfl, by kernel_rfl, hW⟩⟩
          case o3 =>
            intro gy D wz hDi hdep hclo hW
            exact .inl ⟨rfl, rfl, .inl ⟨gy, wz, fun _ _ => rfl, x_load rfl rfl Try.underlying3 rfl (HP.cell hW 7 rfl rfl), hW⟩⟩
          case o4 =>
            intro gy D wz hDi hdep hclo hW
            exact .inl ⟨rfl, rfl, .inl ⟨gy, wz, fun _ _ => rfl, by kernel_rfl, hW⟩⟩
          case o5 =>
            intro gy D wz hDi hdep hclo hW
            exact .inl ⟨rfl, rfl, .inl ⟨gy, wz, fun _ _ => rfl, x_idxArr (2) (3) rfl rfl rfl Try.underlying53 sz23 rfl (by omega) (by omega), hW⟩⟩
          case o6 =>
            intro gy D wz hDi hdep hclo hW
            have d14 : D 14 = false := by
              cases h : D 14 with
              | false => rfl
              | true => exact absurd (hclo 14 _ rfl h ⟨6, .phase⟩ (by simp) rfl) (by rw [hDi]; exact Bool.false_ne_true)
            have hW2 := hW
            simp only [d14, cond_false] at hW2
            exact .inl ⟨rfl, rfl, .inl ⟨gy, wz, fun _ _ => rfl, x_load rfl rfl Try.underlying23 rfl (HP.cell hW2 1 rfl rfl), hW⟩⟩
          case o7 =>
            intro gy D wz hDi hdep hclo hW
            exact .inl ⟨rfl, rfl, .inl ⟨gy, wz, fun _ _ => rfl, by kernel_rfl, hW⟩⟩
          case o8 =>
            intro gy D wz hDi hdep hclo hW
            have d14 : D 14 = false := by
              cases h : D 14 with
              | false => rfl
              | true => exact absurd (hclo 14 _ rfl h ⟨8, .phase⟩ (by simp) rfl) (by rw [hDi]; exact Bool.false_ne_true)
            have hW2 := hW
            simp only [d14, cond_false] at hW2
            exact .inl ⟨rfl, rfl, .inl ⟨gy, wz, fun _ _ => rfl, x_load rfl rfl Try.underlying23 rfl (HP.cell hW2 1 rfl rfl), hW⟩⟩
          case o9 =>
            intro gy D wz hDi hdep hclo hW
            exact .inl ⟨rfl, rfl, .inl ⟨gy, wz, fun _ _ => rfl, by kernel_rfl, hW⟩⟩
          case o10 =>
            intro gy D wz hDi hdep hclo hW
            have d11 : D 11 = false := by
              cases h : D 11 with
              | false => rfl
              | true => exact absurd (hclo 11 _ rfl h ⟨10, .data⟩ (by simp) rfl) (by rw [hDi]; exact Bool.false_ne_true)
            have d14 : D 14 = false := by
              cases h : D 14 with
              | false => rfl
              | true => exact absurd (hclo 14 _ rfl h ⟨10, .phase⟩ (by simp) rfl) (by rw [hDi]; exact Bool.false_ne_true)
            have hW2 := hW
            try simp only [d11, d14, hDi, cond_true, cond_false, List.append_nil, List.nil_append, List.cons_append] at hW2
            refine cf_alloc (c := #[vI (zs.length : Int)]) (T := 3) hW2 (fun b26 => vS b26 1 1) rfl rfl (by kernel_rfl) ?_
            rintro b26 w3 hA
            refine ⟨⟨b26, gy.2.1, gy.2.2.1, ()⟩, fun j hj => ?_, rfl, ?_⟩
            · match j, hj with
              | 0, hj => rfl
              | 1, hj => rfl
              | 2, hj => rfl
              | 3, hj => rfl
              | 4, hj => rfl
              | 5, hj => rfl
              | 6, hj => rfl
              | 7, hj => rfl
              | 8, hj => rfl
              | 9, hj => rfl
              | 10, hj => rw [hDi] at hj; cases hj
              | 11, hj => rfl
              | 12, hj => rfl
              | 13, hj => rfl
              | 14, hj => rfl
              | j + 15, _ => rfl
            · show HP Tr w w3 ([.cel b2 #[.slice none 0 0, .slice none 0 0, .slice none 0 0, .slice none 0 0, .slice none 0 0] 55, (bif D 14 then Ent.cel b3 #[.slice po zs.length co, .slice p0 ((posI zs 0).length) c0, .slice p1 ((posI zs 1).length) c1, .slice gy.2.1 ((posI zs 2 ++ [(zs.length : Int)]).length) gy.2.2.1, .slice p3 ((posI zs 3).length) c3] 55 else Ent.cel b3 #[.slice po zs.length co, .slice p0 ((posI zs 0).length) c0, .slice p1 ((posI zs 1).length) c1, .slice p2 ((posI zs 2).length) c2, .slice p3 ((posI zs 3).length) c3] 55), rowI' po co zs, rowI' p0 c0 (posI zs 0), rowI' p1 c1 (posI zs 1), (bif D 11 then rowI' gy.2.1 gy.2.2.1 (posI zs 2 ++ [(zs.length : Int)]) else rowI' p2 c2 (posI zs 2)), rowI' p3 c3 (posI zs 3), .cel b73 #[vI 2, vI (sp i)] 67] ++ ([Ent.cel b26 #[vI (zs.length : Int)] 3] ++ []))
              try simp only [d11, d14, cond_true, cond_false, List.append_nil, List.nil_append, List.cons_append]
              exact hA
          case o11 =>
            intro gy D wz hDi hdep hclo hW
            have d10 : D 10 = true := hdep ⟨10, .data⟩ (by simp) rfl
            have d14 : D 14 = false := by
              cases h : D 14 with
              | false => rfl
              | true => exact absurd (hclo 14 _ rfl h ⟨11, .data⟩ (by simp) rfl) (by rw [hDi]; exact Bool.false_ne_true)
            have hW2 := hW
            try simp only [d10, d14, hDi, cond_true, cond_false, List.append_nil, List.nil_append, List.cons_append] at hW2
            refine cf_append (news := [vI (zs.length : Int)]) 5 8 hW2 rfl rfl rfl rfl rfl Try.underlying23 hi0 hz0 hz1 hz2 rfl (by decide) rfl rfl rfl rfl (by simp [Value.oneCell']) (by unfold maxLen; omega) (by omega) ?_
            rintro v7 w3 hA
            obtain ⟨pm7, cm7, rfl⟩ := own_row (HP.get hA 5 rfl)
            have e7 : (posI zs 2).length + 1 = (posI zs 2 ++ [(zs.length : Int)]).length := (len1 _ _).symm
            rw [iR_push, e7] at hA
            rw [e7]
            refine ⟨⟨gy.1, pm7, cm7, ()⟩, fun j hj => ?_, rfl, ?_⟩
            · match j, hj with
              | 0, hj => rfl
              | 1, hj => rfl
              | 2, hj => rfl
              | 3, hj => rfl
              | 4, hj => rfl
              | 5, hj => rfl
              | 6, hj => rfl
              | 7, hj => rfl
              | 8, hj => rfl
              | 9, hj => rfl
              | 10, hj => rfl
              | 11, hj => rw [hDi] at hj; cases hj
              | 12, hj => rfl
              | 13, hj => rfl
              | 14, hj => rfl
              | j + 15, _ => rfl
            · show HP Tr w w3 ([.cel b2 #[.slice none 0 0, .slice none 0 0, .slice none 0 0, .slice none 0 0, .slice none 0 0] 55, (bif D 14 then Ent.cel b3 #[.slice po zs.length co, .slice p0 ((posI zs 0).length) c0, .slice p1 ((posI zs 1).length) c1, .slice pm7 ((posI zs 2 ++ [(zs.length : Int)]).length) cm7, .slice p3 ((posI zs 3).length) c3] 55 else Ent.cel b3 #[.slice po zs.length co, .slice p0 ((posI zs 0).length) c0, .slice p1 ((posI zs 1).length) c1, .slice p2 ((posI zs 2).length) c2, .slice p3 ((posI zs 3).length) c3] 55), rowI' po co zs, rowI' p0 c0 (posI zs 0), rowI' p1 c1 (posI zs 1), rowI' pm7 cm7 (posI zs 2 ++ [(zs.length : Int)]), rowI' p3 c3 (posI zs 3), .cel b73 #[vI 2, vI (sp i)] 67] ++ ((bif D 10 then [Ent.cel gy.1 #[vI (zs.length : Int)] 3] else []) ++ []))
              try simp only [d10, d14, cond_true, cond_false, List.append_nil, List.nil_append, List.cons_append]
              exact hA
          case o12 =>
            intro gy D wz hDi hdep hclo hW
            exact .inl ⟨rfl, rfl, .inl ⟨gy, wz, fun _ _ => rfl, by kernel_rfl, hW⟩⟩
          case o13 =>
            intro gy D wz hDi hdep hclo hW
            exact .inl ⟨rfl, rfl, .inl ⟨gy, wz, fun _ _ => rfl, x_idxArr (2) (3) rfl rfl rfl Try.underlying53 sz23 rfl (by omega) (by omega), hW⟩⟩
          case o14 =>
            intro gy D wz hDi hdep hclo hW
            have hW9 := hW
            simp only [hDi, cond_false] at hW9
            have h4 := HP.set (off := 3) (v := .slice gy.2.1 ((posI zs 2 ++ [(zs.length : Int)]).length) gy.2.2.1) hW9 1 rfl
            exact .inl ⟨rfl, rfl, .inr (.inl ⟨_, x_store rfl rfl rfl sz23 rfl (HP.cell hW9 1 rfl rfl) (HP.free hW9 1 rfl), rfl, h4⟩)⟩
        rintro ⟨b26, pm7, cm7, gu⟩ D w92 hall hH93
        simp only [hall 10 (by kernel_rfl), hall 11 (by kernel_rfl), hall 14 (by kernel_rfl), cond_true, List.append_nil, List.nil_append, List.cons_append] at hH93
        clear hall
        refine WQ.sub (l' := [(2, vP b2 0), (3, vP b3 0), (5, vP b73 0), (6, .slice (some ⟨bb, oo, none⟩) N cap), (7, vI (N : Int)), (8, vI (i : Int)), (13, vI (sp i)), (14, vI (k : Int)), (15, .bool true)]) ⟨rfl, rfl, rfl, rfl, rfl, rfl, rfl, rfl, rfl, trivial⟩ ?_
        refine WQ.then ?_
        refine hK85 _ _ _ ?_
        refine WC.region ?_
        refine WL.pure (v := vP b3 0) 30 rfl (Nat.le_of_ble_eq_true rfl) rfl rfl (by kernel_rfl) ?_
        refine WL.pure (v := .slice po zs.length co) 31 rfl (Nat.le_of_ble_eq_true rfl) rfl rfl (x_load rfl rfl Try.underlying23 rfl (HP.cell hH93 1 rfl rfl)) ?_
        refine WL.pure (v := vP b73 0) 32 rfl (Nat.le_of_ble_eq_true rfl) rfl rfl (by kernel_rfl) ?_
        refine WL.pure (v := vI 2) 33 rfl (Nat.le_of_ble_eq_true rfl) rfl rfl (x_load rfl rfl Try.underlying3 rfl (HP.cell hH93 7 rfl rfl)) ?_
        refine WL.alloc (c := #[vI 2]) (T := 3) hH93 34 rfl (by decide) rfl rfl (fun b94 => vS b94 1 1) (by kernel_rfl) (fun b94 w95 hw95 => ?_)
        have hH96 : HP Tr w w95 [.cel b2 #[.slice none 0 0, .slice none 0 0, .slice none 0 0, .slice none 0 0, .slice none 0 0] 55, .cel b3 #[.slice po zs.length co, .slice p0 ((posI zs 0).length) c0, .slice p1 ((posI zs 1).length) c1, .slice pm7 ((posI zs 2 ++ [(zs.length : Int)]).length) cm7, .slice p3 ((posI zs 3).length) c3] 55, rowI' po co zs, rowI' p0 c0 (posI zs 0), rowI' p1 c1 (posI zs 1), rowI' pm7 cm7 (posI zs 2 ++ [(zs.length : Int)]), rowI' p3 c3 (posI zs 3), .cel b73 #[vI 2, vI (sp i)] 67, .cel b26 #[vI (zs.length : Int)] 3, .cel b94 #[vI 2] 3] := hw95.2
        have nb94 := hw95.1
        clear hw95
        refine WL.append (news := [vI 2]) 2 9 hH96 35 rfl (by decide) rfl rfl rfl rfl Try.underlying23 hi0 hz0 hz1 hz2 rfl (by decide) rfl rfl rfl rfl (by simp [Value.oneCell']) (by unfold maxLen; omega) (by omega) ?_
        rintro v8 w8 - hA8
        obtain ⟨po8, co8, rfl⟩ := own_row (HP.get hA8 2 rfl)
        have e8 : zs.length + 1 = (zs ++ [(2 : Int)]).length := (len1 _ _).symm
        rw [iR_push, e8] at hA8
        rw [e8]
        have hH97 : HP Tr w _ [.cel b2 #[.slice none 0 0, .slice none 0 0, .slice none 0 0, .slice none 0 0, .slice none 0 0] 55, .cel b3 #[.slice po zs.length co, .slice p0 ((posI zs 0).length) c0, .slice p1 ((posI zs 1).length) c1, .slice pm7 ((posI zs 2 ++ [(zs.length : Int)]).length) cm7, .slice p3 ((posI zs 3).length) c3] 55, rowI' po8 co8 (zs ++ [(2 : Int)]), rowI' p0 c0 (posI zs 0), rowI' p1 c1 (posI zs 1), rowI' pm7 cm7 (posI zs 2 ++ [(zs.length : Int)]), rowI' p3 c3 (posI zs 3), .cel b73 #[vI 2, vI (sp i)] 67, .cel b26 #[vI (zs.length : Int)] 3, .cel b94 #[vI 2] 3] := hA8
        refine WL.pure (v := vP b3 0) 36 rfl (Nat.le_of_ble_eq_true rfl) rfl rfl (by kernel_rfl) ?_
        refine WL.store (H2 := [.cel b2 #[.slice none 0 0, .slice none 0 0, .slice none 0 0, .slice none 0 0, .slice none 0 0] 55, .cel b3 #[.slice po8 ((zs ++ [(2 : Int)]).length) co8, .slice p0 ((posI zs 0).length) c0, .slice p1 ((posI zs 1).length) c1, .slice pm7 ((posI zs 2 ++ [(zs.length : Int)]).length) cm7, .slice p3 ((posI zs 3).length) c3] 55, rowI' po8 co8 (zs ++ [(2 : Int)]), rowI' p0 c0 (posI zs 0), rowI' p1 c1 (posI zs 1), rowI' pm7 cm7 (posI zs 2 ++ [(zs.length : Int)]), rowI' p3 c3 (posI zs 3), .cel b73 #[vI 2, vI (sp i)] 67, .cel b26 #[vI (zs.length : Int)] 3, .cel b94 #[vI 2] 3]) 1 hH97 rfl rfl rfl rfl rfl rfl sz23 rfl (Nat.le_of_ble_eq_true rfl) rfl rfl ?_
        intro w98 hH99
        refine WL.nil ?_
        refine WQ.inNormal ?_
        refine WQ.then ?_
        refine hK84 _ _ _ ?_
        refine WC.sub (l' := [(2, vP b2 0), (3, vP b3 0), (5, vP b73 0), (6, .slice (some ⟨bb, oo, none⟩) N cap), (7, vI (N : Int)), (8, vI (i : Int)), (13, vI (sp i)), (14, vI (k : Int)), (15, .bool true)]) ⟨rfl, rfl, rfl, rfl, rfl, rfl, rfl, rfl, rfl, trivial⟩ ?_
        refine WC.region ?_
        refine WL.pure (v := vI ((k + 1 : Nat) : Int)) 37 rfl (Nat.le_of_ble_eq_true rfl) rfl rfl (x_add (Z := ((k + 1 : Nat) : Int)) rfl rfl rfl (by omega) (by omega) (by omega)) ?_
        refine WL.pure (v := vI ((k + 1 : Nat) : Int)) 14 rfl (Nat.le_of_ble_eq_true rfl) rfl rfl (by kernel_rfl) ?_
        refine WL.nil ?_
        refine WQ.sub (l' := [(2, vP b2 0), (3, vP b3 0), (5, vP b73 0), (6, .slice (some ⟨bb, oo, none⟩) N cap), (7, vI (N : Int)), (8, vI (i : Int)), (13, vI (sp i)), (14, vI ((k + 1 : Nat) : Int))]) ⟨rfl, rfl, rfl, rfl, rfl, rfl, rfl, rfl, trivial⟩ ?_
        refine WQ.then (hK79 _ _ _ (by omega) ⟨k + 1, (zs ++ [2]), po8, co8, p0, c0, p1, c1, pm7, cm7, p3, c3, rfl, rfl, by omega, by rw [rep_succ, ← List.append_assoc, hzs], (by simp only [posI_same (l := zs) (show (2 : Int) ≠ 0 by decide), posI_same (l := zs) (show (2 : Int) ≠ 1 by decide), posI_same (l := zs) (show (2 : Int) ≠ 3 by decide), posI_add (l := zs) (show (2 : Int) = 2 from rfl)]; exact (HP.drop (HP.drop hH99 9) 8))⟩)
      ·
        refine WL.pure (v := .bool false) 15 rfl (Nat.le_of_ble_eq_true rfl) rfl rfl (x_lss rfl rfl rfl (dF (hkl))) ?_
        refine WL.nil ?_
        refine WQ.then ?_
        refine hK82 _ _ _ ?_
        refine WC.seq fun K100 hK100 => ?_
        refine WC.no rfl ?_
        refine WC.exit ?_
        refine WQ.thenExit ?_
        refine WQ.thenExit ?_
        refine WQ.inExit ?_
        refine WQ.inNormal ?_
        refine WQ.then ?_
        refine hK15 _ _ _ ?_
        refine WC.region ?_
        refine WL.pure (v := vI ((i + 1 : Nat) : Int)) 38 rfl (Nat.le_of_ble_eq_true rfl) rfl rfl (x_add (Z := ((i + 1 : Nat) : Int)) rfl rfl rfl (by omega) (by omega) (by omega)) ?_
        refine WL.pure (v := vI ((i + 1 : Nat) : Int)) 8 rfl (Nat.le_of_ble_eq_true rfl) rfl rfl (by kernel_rfl) ?_
        refine WL.nil ?_
        obtain rfl : k = sn := by omega
        refine WQ.sub (l' := [(2, vP b2 0), (3, vP b3 0), (6, .slice (some ⟨bb, oo, none⟩) N cap), (7, vI (N : Int)), (8, vI ((i + 1 : Nat) : Int))]) ⟨rfl, rfl, rfl, rfl, rfl, trivial⟩ ?_
        refine WQ.then (hK10 _ _ _ (by omega) ⟨i + 1, zs, po, co, p0, c0, p1, c1, p2, c2, p3, c3, rfl, rfl, by omega, by rw [hzs, hys]; show _ = owl o sp i ++ List.replicate (sp i).toNat (o i); rw [ho, hsn, Int.toNat_natCast], (HP.drop hH81 7)⟩)
    ·
      refine WC.region ?_
      refine WL.pure (v := vP bb (oo + i * 2)) 10 rfl (Nat.le_of_ble_eq_true rfl) rfl rfl (x_idx (i) (oo + i * 2) rfl rfl rfl Try.underlying22 sz67 (by omega) (by omega) (by omega)) ?_
      have hcl : World.rangeAt w bb (oo + i * 2) [vI 3, vI (sp i)] := by have q := hrow i (by omega); rwa [ho] at q
      refine WL.pure (v := .agg #[vI 3, vI (sp i)]) 11 rfl (Nat.le_of_ble_eq_true rfl) rfl rfl (x_loadS (cs := [vI 3, vI (sp i)]) rfl rfl Try.underlying67 rfl sz67 (HP.oldRange hH12 trivial hcl)) ?_
      refine WL.alloc (c := #[vI 0, vI 0]) (T := 67) hH12 5 rfl (by decide) rfl rfl (fun b101 => vP b101 0) (by kernel_rfl) (fun b101 w102 hw102 => ?_)
      have hH103 : HP Tr w w102 [.cel b2 #[.slice none 0 0, .slice none 0 0, .slice none 0 0, .slice none 0 0, .slice none 0 0] 55, .cel b3 #[.slice po ys.length co, .slice p0 ((posI ys 0).length) c0, .slice p1 ((posI ys 1).length) c1, .slice p2 ((posI ys 2).length) c2, .slice p3 ((posI ys 3).length) c3] 55, rowI' po co ys, rowI' p0 c0 (posI ys 0), rowI' p1 c1 (posI ys 1), rowI' p2 c2 (posI ys 2), rowI' p3 c3 (posI ys 3), .cel b101 #[vI 0, vI 0] 67] := hw102.2
      have nb101 := hw102.1
      clear hw102
      refine WL.storeS (H2 := [.cel b2 #[.slice none 0 0, .slice none 0 0, .slice none 0 0, .slice none 0 0, .slice none 0 0] 55, .cel b3 #[.slice po ys.length co, .slice p0 ((posI ys 0).length) c0, .slice p1 ((posI ys 1).length) c1, .slice p2 ((posI ys 2).length) c2, .slice p3 ((posI ys 3).length) c3] 55, rowI' po co ys, rowI' p0 c0 (posI ys 0), rowI' p1 c1 (posI ys 1), rowI' p2 c2 (posI ys 2), rowI' p3 c3 (posI ys 3), .cel b101 #[vI 3, vI (sp i)] 67]) 7 hH103 rfl rfl rfl rfl rfl rfl sz67 rfl (Nat.le_of_ble_eq_true rfl) rfl rfl ?_
      intro w104 hH105
      refine WL.nil ?_
      refine WQ.then ?_
      refine hK16 _ _ _ ?_
      refine WC.seq fun K106 hK106 => ?_
      obtain ⟨sn, hsn⟩ : ∃ sn : Nat, sp i = (sn : Int) := ⟨(sp i).toNat, by omega⟩
      have hsn2 : sn ≤ 50 := by omega
      have hyl : ys.length ≤ i * 50 := by rw [hys]; exact (owl_len (o := o) (sp := sp) i (fun q hq => (okS1_iff.1 (hok.2.2 q (by omega))).2)).2
      refine WC.region ?_
      refine WL.pure (v := vP b101 1) 12 rfl (Nat.le_of_ble_eq_true rfl) rfl rfl (by kernel_rfl) ?_
      refine WL.pure (v := vI (sp i)) 13 rfl (Nat.le_of_ble_eq_true rfl) rfl rfl (x_load rfl rfl Try.underlying3 rfl (HP.cell hH105 7 rfl rfl)) ?_
      refine WL.pure (v := vI 0) 14 rfl (Nat.le_of_ble_eq_true rfl) rfl rfl (by kernel_rfl) ?_
      refine WL.nil ?_
      refine WQ.then ?_
      refine hK106 _ _ _ ?_
      refine WC.block ?_
      refine WC.loop (fun kk0 ll0 ww0 => ∃ (k : Nat) (zs : List Int) (po : Option Addr) (co : Nat) (p0 : Option Addr) (c0 : Nat) (p1 : Option Addr) (c1 : Nat) (p2 : Option Addr) (c2 : Nat) (p3 : Option Addr) (c3 : Nat), ll0 = [(2, vP b2 0), (3, vP b3 0), (5, vP b101 0), (6, .slice (some ⟨bb, oo, none⟩) N cap), (7, vI (N : Int)), (8, vI (i : Int)), (13, vI (sp i)), (14, vI (k : Int))] ∧ kk0 = sn - k ∧ (k ≤ sn) ∧ (zs = ys ++ List.replicate k (3 : Int)) ∧ HP Tr w ww0 [.cel b2 #[.slice none 0 0, .slice none 0 0, .slice none 0 0, .slice none 0 0, .slice none 0 0] 55, .cel b3 #[.slice po zs.length co, .slice p0 ((posI zs 0).length) c0, .slice p1 ((posI zs 1).length) c1, .slice p2 ((posI zs 2).length) c2, .slice p3 ((posI zs 3).length) c3] 55, rowI' po co zs, rowI' p0 c0 (posI zs 0), rowI' p1 c1 (posI zs 1), rowI' p2 c2 (posI zs 2), rowI' p3 c3 (posI zs 3), .cel b101 #[vI 3, vI (sp i)] 67]) (sn) [(2, vP b2 0), (3, vP b3 0), (5, vP b101 0), (6, .slice (some ⟨bb, oo, none⟩) N cap), (7, vI (N : Int)), (8, vI (i : Int)), (13, vI (sp i)), (14, vI 0)] ⟨rfl, rfl, rfl, rfl, rfl, rfl, rfl, rfl, trivial⟩ ⟨0, ys, po, co, p0, c0, p1, c1, p2, c2, p3, c3, rfl, rfl, Nat.zero_le _, by simp, hH105⟩ ?_
      rintro kk l w108 ⟨k, zs, po, co, p0, c0, p1, c1, p2, c2, p3, c3, rfl, hkk, hk, hzs, hH109⟩ K107 hK107
      have hzl : zs.length = ys.length + k := by rw [hzs]; simp
      refine WC.seq fun K110 hK110 => ?_
      refine WC.region ?_
      by_cases hkl : (k : Int) < sp i
      ·
        refine WL.pure (v := .bool true) 15 rfl (Nat.le_of_ble_eq_true rfl) rfl rfl (x_lss rfl rfl rfl (dT (hkl))) ?_
        refine WL.nil ?_
        refine WQ.then ?_
        refine hK110 _ _ _ ?_
        refine WC.seq fun K111 hK111 => ?_
        refine WC.yes rfl ?_
        refine WC.skip ?_
        refine WQ.then ?_
        refine hK111 _ _ _ ?_
        refine WC.seq fun K112 hK112 => ?_
        refine WC.block ?_
        refine WC.seq fun K113 hK113 => ?_
        obtain ⟨i0, hi0, hz0, hz1, hz2⟩ := infoI
        have hpzl := posI_len zs 3
        refine WC.confG (γ := Nat × Option Addr × Nat × Unit) [(15, .bool true), (2, vP b2 0), (3, vP b3 0), (5, vP b101 0), (6, .slice (some ⟨bb, oo, none⟩) N cap), (7, vI (N : Int)), (8, vI (i : Int)), (13, vI (sp i)), (14, vI (k : Int))] (fun gy => [vP b101 0, vI 3, vP b101 0, vI 3, vP b3 1, vP b3 4, .slice p3 ((posI zs 3).length) c3, vP b3 0, .slice po zs.length co, vI (zs.length : Int), vS gy.1 1 1, .slice gy.2.1 ((posI zs 3 ++ [(zs.length : Int)]).length) gy.2.2.1, vP b3 1, vP b3 4, undef]) (fun gy D wz => HP Tr w wz ([.cel b2 #[.slice none 0 0, .slice none 0 0, .slice none 0 0, .slice none 0 0, .slice none 0 0] 55, (bif D 14 then Ent.cel b3 #[.slice po zs.length co, .slice p0 ((posI zs 0).length) c0, .slice p1 ((posI zs 1).length) c1, .slice p2 ((posI zs 2).length) c2, .slice gy.2.1 ((posI zs 3 ++ [(zs.length : Int)]).length) gy.2.2.1] 55 else Ent.cel b3 #[.slice po zs.length co, .slice p0 ((posI zs 0).length) c0, .slice p1 ((posI zs 1).length) c1, .slice p2 ((posI zs 2).length) c2, .slice p3 ((posI zs 3).length) c3] 55), rowI' po co zs, rowI' p0 c0 (posI zs 0), rowI' p1 c1 (posI zs 1), rowI' p2 c2 (posI zs 2), (bif D 11 then rowI' gy.2.1 gy.2.2.1 (posI zs 3 ++ [(zs.length : Int)]) else rowI' p3 c3 (posI zs 3)), .cel b101 #[vI 3, vI (sp i)] 67] ++ ((bif D 10 then [Ent.cel gy.1 #[vI (zs.length : Int)] 3] else []) ++ []))) (0, none, 0, ()) (by kernel_rfl) ⟨rfl, rfl, rfl, rfl, rfl, rfl, rfl, rfl, rfl, trivial⟩ (by kernel_rfl) (by kernel_rfl) (by kernel_rfl) (fun _ => rfl) (by kernel_rfl) (HP.drew hH109) ?_ ?_
        · refine AllOk.cons ?o0 (AllOk.cons ?o1 (AllOk.cons ?o2 (AllOk.cons ?o3 (AllOk.cons ?o4 (AllOk.cons ?o5 (AllOk.cons ?o6 (AllOk.cons ?o7 (AllOk.cons ?o8 (AllOk.cons ?o9 (AllOk.cons ?o10 (AllOk.cons ?o11 (AllOk.cons ?o12 (AllOk.cons ?o13 (AllOk.cons ?o14 (AllOk.nil _)))))))))))))))
          case o0 =>
            intro gy D wz hDi hdep hclo hW
            exact .inl ⟨rfl, rfl, .inl ⟨gy, wz, fun _ _ => rfl, by kernel_rfl, hW⟩⟩
          case o1 =>
            intro gy D wz hDi hdep hclo hW
            exact .inl ⟨rfl, rfl, .inl ⟨gy, wz, fun _ _ => rfl, x_load rfl rfl Try.underlying3 rfl (HP.cell hW 7 rfl rfl), hW⟩⟩
          case o2 =>
            intro gy D wz hDi hdep hclo hW
            exact .inl ⟨rfl, rfl, .inl ⟨gy, wz, fun _ _ => rfl, by kernel_rfl, hW⟩⟩
          case o3 =>
            intro gy D wz hDi hdep hclo hW
            exact .inl ⟨rfl, rfl, .inl ⟨gy, wz, fun _ _ => rfl, x_load rfl rfl Try.underlying3 rfl (HP.cell hW 7 rfl rfl), hW⟩⟩
          case o4 =>
            intro gy D wz hDi hdep hclo hW
            exact .inl ⟨rfl, rfl, .inl ⟨gy, wz, fun _ _ => rfl, by kernel_rfl, hW⟩⟩
          case o5 =>
            intro gy D wz hDi hdep hclo hW
            exact .inl ⟨rfl, rfl, .inl ⟨gy, wz, fun _ _ => rfl, x_idxArr (3) (4) rfl rfl rfl Try.underlying53 sz23 rfl (by omega) (by omega), hW⟩⟩
          case o6 =>
            intro gy D wz hDi hdep hclo hW
            have d14 : D 14 = false := by
              cases h : D 14 with
              | false => rfl
              | true => exact absurd (hclo 14 _ rfl h ⟨6, .phase⟩ (by simp) rfl) (by rw [hDi]; exact Bool.false_ne_true)
            have hW2 := hW
            simp only [d14, cond_false] at hW2
            exact .inl ⟨rfl, rfl, .inl ⟨gy, wz, fun _ _ => rfl, x_load rfl rfl Try.underlying23 rfl (HP.cell hW2 1 rfl rfl), hW⟩⟩
          case o7 =>
            intro gy D wz hDi hdep hclo hW
            exact .inl ⟨rfl, rfl, .inl ⟨gy, wz, fun _ _ => rfl, by kernel_rfl, hW⟩⟩
          case o8 =>
            intro gy D wz hDi hdep hclo hW
            have d14 : D 14 = false := by
              cases h : D 14 with
              | false => rfl
              | true => exact absurd (hclo 14 _ rfl h ⟨8, .phase⟩ (by simp) rfl) (by rw [hDi]; exact Bool.false_ne_true)
            have hW2 := hW
            simp only [d14, cond_false] at hW2
            exact .inl ⟨rfl, rfl, .inl ⟨gy, wz, fun _ _ => rfl, x_load rfl rfl Try.underlying23 rfl (HP.cell hW2 1 rfl rfl), hW⟩⟩
          case o9 =>
            intro gy D wz hDi hdep hclo hW
            exact .inl ⟨rfl, rfl, .inl ⟨gy, wz, fun _ _ => rfl, by kernel_rfl, hW⟩⟩
          case o10 =>
            intro gy D wz hDi hdep hclo hW
            have d11 : D 11 = false := by
              cases h : D 11 with
              | false => rfl
              | true => exact absurd (hclo 11 _ rfl h ⟨10, .data⟩ (by simp) rfl) (by rw [hDi]; exact Bool.false_ne_true)
            have d14 : D 14 = false := by
              cases h : D 14 with
              | false => rfl
              | true => exact absurd (hclo 14 _ rfl h ⟨10, .phase⟩ (by simp) rfl) (by rw [hDi]; exact Bool.false_ne_true)
            have hW2 := hW
            try simp only [d11, d14, hDi, cond_true, cond_false, List.append_nil, List.nil_append, List.cons_append] at hW2
            refine cf_alloc (c := #[vI (zs.length : Int)]) (T := 3) hW2 (fun b26 => vS b26 1 1) rfl rfl (by kernel_rfl) ?_
            rintro b26 w3 hA
            refine ⟨⟨b26, gy.2.1, gy.2.2.1, ()⟩, fun j hj => ?_, rfl, ?_⟩
            · match j, hj with
              | 0, hj => rfl
              | 1, hj => rfl
              | 2, hj => rfl
              | 3, hj => rfl
              | 4, hj => rfl
              | 5, hj => rfl
              | 6, hj => rfl
              | 7, hj => rfl
              | 8, hj => rfl
              | 9, hj => rfl
              | 10, hj => rw [hDi] at hj; cases hj
              | 11, hj => rfl
              | 12, hj => rfl
              | 13, hj => rfl
              | 14, hj => rfl
              | j + 15, _ => rfl
            · show HP Tr w w3 ([.cel b2 #[.slice none 0 0, .slice none 0 0, .slice none 0 0, .slice none 0 0, .slice none 0 0] 55, (bif D 14 then Ent.cel b3 #[.slice po zs.length co, .slice p0 ((posI zs 0).length) c0, .slice p1 ((posI zs 1).length) c1, .slice p2 ((posI zs 2).length) c2, .slice gy.2.1 ((posI zs 3 ++ [(zs.length : Int)]).length) gy.2.2.1] 55 else Ent.cel b3 #[.slice po zs.length co, .slice p0 ((posI zs 0).length) c0, .slice p1 ((posI zs 1).length) c1, .slice p2 ((posI zs 2).length) c2, .slice p3 ((posI zs 3).length) c3] 55), rowI' po co zs, rowI' p0 c0 (posI zs 0), rowI' p1 c1 (posI zs 1), rowI' p2 c2 (posI zs 2), (bif D 11 then rowI' gy.2.1 gy.2.2.1 (posI zs 3 ++ [(zs.length : Int)]) else rowI' p3 c3 (posI zs 3)), .cel b101 #[vI 3, vI (sp i)] 67] ++ ([Ent.cel b26 #[vI (zs.length : Int)] 3] ++ []))
              try simp only [d11, d14, cond_true, cond_false, List.append_nil, List.nil_append, List.cons_append]
              exact hA
          case o11 =>
            intro gy D wz hDi hdep hclo hW
            have d10 : D 10 = true := hdep ⟨10, .data⟩ (by simp) rfl
            have d14 : D 14 = false := by
              cases h : D 14 with
              | false => rfl
              | true => exact absurd (hclo 14 _ rfl h ⟨11, .data⟩ (by simp) rfl) (by rw [hDi]; exact Bool.false_ne_true)
            have hW2 := hW
            try simp only [d10, d14, hDi, cond_true, cond_false, List.append_nil, List.nil_append, List.cons_append] at hW2
            refine cf_append (news := [vI (zs.length : Int)]) 6 8 hW2 rfl rfl rfl rfl rfl Try.underlying23 hi0 hz0 hz1 hz2 rfl (by decide) rfl rfl rfl rfl (by simp [Value.oneCell']) (by unfold maxLen; omega) (by omega) ?_
            rintro v7 w3 hA
            obtain ⟨pm7, cm7, rfl⟩ := own_row (HP.get hA 6 rfl)
            have e7 : (posI zs 3).length + 1 = (posI zs 3 ++ [(zs.length : Int)]).length := (len1 _ _).symm
            rw [iR_push, e7] at hA
            rw [e7]
            refine ⟨⟨gy.1, pm7, cm7, ()⟩, fun j hj => ?_, rfl, ?_⟩
            · match j, hj with
              | 0, hj => rfl
              | 1, hj => rfl
              | 2, hj => rfl
              | 3, hj => rfl
              | 4, hj => rfl
              | 5, hj => rfl
              | 6, hj => rfl
              | 7, hj => rfl
              | 8, hj => rfl
              | 9, hj => rfl
              | 10, hj => rfl
              | 11, hj => rw [hDi] at hj; cases hj
              | 12, hj => rfl
              | 13, hj => rfl
              | 14, hj => rfl
              | j + 15, _ => rfl
            · show HP Tr w w3 ([.cel b2 #[.slice none 0 0, .slice none 0 0, .slice none 0 0, .slice none 0 0, .slice none 0 0] 55, (bif D 14 then Ent.cel b3 #[.slice po zs.length co, .slice p0 ((posI zs 0).length) c0, .slice p1 ((posI zs 1).length) c1, .slice p2 ((posI zs 2).length) c2, .slice pm7 ((posI zs 3 ++ [(zs.length : Int)]).length) cm7] 55 else Ent.cel b3 #[.slice po zs.length co, .slice p0 ((posI zs 0).length) c0, .slice p1 ((posI zs 1).length) c1, .slice p2 ((posI zs 2).length) c2, .slice p3 ((posI zs 3).length) c3] 55), rowI' po co zs, rowI' p0 c0 (posI zs 0), rowI' p1 c1 (posI zs 1), rowI' p2 c2 (posI zs 2), rowI' pm7 cm7 (posI zs 3 ++ [(zs.length : Int)]), .cel b101 #[vI 3, vI (sp i)] 67] ++ ((bif D 10 then [Ent.cel gy.1 #[vI (zs.length : Int)] 3] else []) ++ []))
              try simp only [d10, d14, cond_true, cond_false, List.append_nil, List.nil_append, List.cons_append]
              exact hA
          case o12 =>
            intro gy D wz hDi hdep hclo hW
            exact .inl ⟨rfl, rfl, .inl ⟨gy, wz, fun _ _ => rfl, by kernel_rfl, hW⟩⟩
          case o13 =>
            intro gy D wz hDi hdep hclo hW
            exact .inl ⟨rfl, rfl, .inl ⟨gy, wz, fun _ _ => rfl, x_idxArr (3) (4) rfl rfl rfl Try.underlying53 sz23 rfl (by omega) (by omega), hW⟩⟩
          case o14 =>
            intro gy D wz hDi hdep hclo hW
            have hW9 := hW
            simp only [hDi, cond_false] at hW9
            have h4 := HP.set (off := 4) (v := .slice gy.2.1 ((posI zs 3 ++ [(zs.length : Int)]).length) gy.2.2.1) hW9 1 rfl
            exact .inl ⟨rfl, rfl, .inr (.inl ⟨_, x_store rfl rfl rfl sz23 rfl (HP.cell hW9 1 rfl rfl) (HP.free hW9 1 rfl), rfl, h4⟩)⟩
        rintro ⟨b26, pm7, cm7, gu⟩ D w120 hall hH121
        simp only [hall 10 (by kernel_rfl), hall 11 (by kernel_rfl), hall 14 (by kernel_rfl), cond_true, List.append_nil, List.nil_append, List.cons_append] at hH121
        clear hall
        refine WQ.sub (l' := [(2, vP b2 0), (3, vP b3 0), (5, vP b101 0), (6, .slice (some ⟨bb, oo, none⟩) N cap), (7, vI (N : Int)), (8, vI (i : Int)), (13, vI (sp i)), (14, vI (k : Int)), (15, .bool true)]) ⟨rfl, rfl, rfl, rfl, rfl, rfl, rfl, rfl, rfl, trivial⟩ ?_
        refine WQ.then ?_
        refine hK113 _ _ _ ?_
        refine WC.region ?_
        refine WL.pure (v := vP b3 0) 30 rfl (Nat.le_of_ble_eq_true rfl) rfl rfl (by kernel_rfl) ?_
        refine WL.pure (v := .slice po zs.length co) 31 rfl (Nat.le_of_ble_eq_true rfl) rfl rfl (x_load rfl rfl Try.underlying23 rfl (HP.cell hH121 1 rfl rfl)) ?_
        refine WL.pure (v := vP b101 0) 32 rfl (Nat.le_of_ble_eq_true rfl) rfl rfl (by kernel_rfl) ?_
        refine WL.pure (v := vI 3) 33 rfl (Nat.le_of_ble_eq_true rfl) rfl rfl (x_load rfl rfl Try.underlying3 rfl (HP.cell hH121 7 rfl rfl)) ?_
        refine WL.alloc (c := #[vI 3]) (T := 3) hH121 34 rfl (by decide) rfl rfl (fun b122 => vS b122 1 1) (by kernel_rfl) (fun b122 w123 hw123 => ?_)
        have hH124 : HP Tr w w123 [.cel b2 #[.slice none 0 0, .slice none 0 0, .slice none 0 0, .slice none 0 0, .slice none 0 0] 55, .cel b3 #[.slice po zs.length co, .slice p0 ((posI zs 0).length) c0, .slice p1 ((posI zs 1).length) c1, .slice p2 ((posI zs 2).length) c2, .slice pm7 ((posI zs 3 ++ [(zs.length : Int)]).length) cm7] 55, rowI' po co zs, rowI' p0 c0 (posI zs 0), rowI' p1 c1 (posI zs 1), rowI' p2 c2 (posI zs 2), rowI' pm7 cm7 (posI zs 3 ++ [(zs.length : Int)]), .cel b101 #[vI 3, vI (sp i)] 67, .cel b26 #[vI (zs.length : Int)] 3, .cel b122 #[vI 3] 3] := hw123.2
        have nb122 := hw123.1
        clear hw123
        refine WL.append (news := [vI 3]) 2 9 hH124 35 rfl (by decide) rfl rfl rfl rfl Try.underlying23 hi0 hz0 hz1 hz2 rfl (by decide) rfl rfl rfl rfl (by simp [Value.oneCell']) (by unfold maxLen; omega) (by omega) ?_
        rintro v8 w8 - hA8
        obtain ⟨po8, co8, rfl⟩ := own_row (HP.get hA8 2 rfl)
        have e8 : zs.length + 1 = (zs ++ [(3 : Int)]).length := (len1 _ _).symm
        rw [iR_push, e8] at hA8
        rw [e8]
        have hH125 : HP Tr w _ [.cel b2 #[.slice none 0 0, .slice none 0 0, .slice none 0 0, .slice none 0 0, .slice none 0 0] 55, .cel b3 #[.slice po zs.length co, .slice p0 ((posI zs 0).length) c0, .slice p1 ((posI zs 1).length) c1, .slice p2 ((posI zs 2).length) c2, .slice pm7 ((posI zs 3 ++ [(zs.length : Int)]).length) cm7] 55, rowI' po8 co8 (zs ++ [(3 : Int)]), rowI' p0 c0 (posI zs 0), rowI' p1 c1 (posI zs 1), rowI' p2 c2 (posI zs 2), rowI' pm7 cm7 (posI zs 3 ++ [(zs.length : Int)]), .cel b101 #[vI 3, vI (sp i)] 67, .cel b26 #[vI (zs.length : Int)] 3, .cel b122 #[vI 3] 3] := hA8
        refine WL.pure (v := vP b3 0) 36 rfl (Nat.le_of_ble_eq_true rfl) rfl rfl (by kernel_rfl) ?_
        refine WL.store (H2 := [.cel b2 #[.slice none 0 0, .slice none 0 0, .slice none 0 0, .slice none 0 0, .slice none 0 0] 55, .cel b3 #[.slice po8 ((zs ++ [(3 : Int)]).length) co8, .slice p0 ((posI zs 0).length) c0, .slice p1 ((posI zs 1).length) c1, .slice p2 ((posI zs 2).length) c2, .slice pm7 ((posI zs 3 ++ [(zs.length : Int)]).length) cm7] 55, rowI' po8 co8 (zs ++ [(3 : Int)]), rowI' p0 c0 (posI zs 0), rowI' p1 c1 (posI zs 1), rowI' p2 c2 (posI zs 2), rowI' pm7 cm7 (posI zs 3 ++ [(zs.length : Int)]), .cel b101 #[vI 3, vI (sp i)] 67, .cel b26 #[vI (zs.length : Int)] 3, .cel b122 #[vI 3] 3]) 1 hH125 rfl rfl rfl rfl rfl rfl sz23 rfl (Nat.le_of_ble_eq_true rfl) rfl rfl ?_
        intro w126 hH127
        refine WL.nil ?_
        refine WQ.inNormal ?_
        refine WQ.then ?_
        refine hK112 _ _ _ ?_
        refine WC.sub (l' := [(2, vP b2 0), (3, vP b3 0), (5, vP b101 0), (6, .slice (some ⟨bb, oo, none⟩) N cap), (7, vI (N : Int)), (8, vI (i : Int)), (13, vI (sp i)), (14, vI (k : Int)), (15, .bool true)]) ⟨rfl, rfl, rfl, rfl, rfl, rfl, rfl, rfl, rfl, trivial⟩ ?_
        refine WC.region ?_
        refine WL.pure (v := vI ((k + 1 : Nat) : Int)) 37 rfl (Nat.le_of_ble_eq_true rfl) rfl rfl (x_add (Z := ((k + 1 : Nat) : Int)) rfl rfl rfl (by omega) (by omega) (by omega)) ?_
        refine WL.pure (v := vI ((k + 1 : Nat) : Int)) 14 rfl (Nat.le_of_ble_eq_true rfl) rfl rfl (by kernel_rfl) ?_
        refine WL.nil ?_
        refine WQ.sub (l' := [(2, vP b2 0), (3, vP b3 0), (5, vP b101 0), (6, .slice (some ⟨bb, oo, none⟩) N cap), (7, vI (N : Int)), (8, vI (i : Int)), (13, vI (sp i)), (14, vI ((k + 1 : Nat) : Int))]) ⟨rfl, rfl, rfl, rfl, rfl, rfl, rfl, rfl, trivial⟩ ?_
        refine WQ.then (hK107 _ _ _ (by omega) ⟨k + 1, (zs ++ [3]), po8, co8, p0, c0, p1, c1, p2, c2, pm7, cm7, rfl, rfl, by omega, by rw [rep_succ, ← List.append_assoc, hzs], (by simp only [posI_same (l := zs) (show (3 : Int) ≠ 0 by decide), posI_same (l := zs) (show (3 : Int) ≠ 1 by decide), posI_same (l := zs) (show (3 : Int) ≠ 2 by decide), posI_add (l := zs) (show (3 : Int) = 3 from rfl)]; exact (HP.drop (HP.drop hH127 9) 8))⟩)
      ·
        refine WL.pure (v := .bool false) 15 rfl (Nat.le_of_ble_eq_true rfl) rfl rfl (x_lss rfl rfl rfl (dF (hkl))) ?_
        refine WL.nil ?_
        refine WQ.then ?_
        refine hK110 _ _ _ ?_
        refine WC.seq fun K128 hK128 => ?_
        refine WC.no rfl ?_
        refine WC.exit ?_
        refine WQ.thenExit ?_
        refine WQ.thenExit ?_
        refine WQ.inExit ?_
        refine WQ.inNormal ?_
        refine WQ.then ?_
        refine hK15 _ _ _ ?_
        refine WC.region ?_
        refine WL.pure (v := vI ((i + 1 : Nat) : Int)) 38 rfl (Nat.le_of_ble_eq_true rfl) rfl rfl (x_add (Z := ((i + 1 : Nat) : Int)) rfl rfl rfl (by omega) (by omega) (by omega)) ?_
        refine WL.pure (v := vI ((i + 1 : Nat) : Int)) 8 rfl (Nat.le_of_ble_eq_true rfl) rfl rfl (by kernel_rfl) ?_
        refine WL.nil ?_
        obtain rfl : k = sn := by omega
        refine WQ.sub (l' := [(2, vP b2 0), (3, vP b3 0), (6, .slice (some ⟨bb, oo, none⟩) N cap), (7, vI (N : Int)), (8, vI ((i + 1 : Nat) : Int))]) ⟨rfl, rfl, rfl, rfl, rfl, trivial⟩ ?_
        refine WQ.then (hK10 _ _ _ (by omega) ⟨i + 1, zs, po, co, p0, c0, p1, c1, p2, c2, p3, c3, rfl, rfl, by omega, by rw [hzs, hys]; show _ = owl o sp i ++ List.replicate (sp i).toNat (o i); rw [ho, hsn, Int.toNat_natCast], (HP.drop hH109 7)⟩)
  ·
    refine WL.pure (v := .bool false) 9 rfl (Nat.le_of_ble_eq_true rfl) rfl rfl (x_lss rfl rfl rfl (dF (hlt))) ?_
    refine WL.nil ?_
    refine WQ.then ?_
    refine hK13 _ _ _ ?_
    refine WC.seq fun K129 hK129 => ?_
    refine WC.no rfl ?_
    refine WC.exit ?_
    refine WQ.thenExit ?_
    refine WQ.thenExit ?_
    refine WQ.inExit ?_
    refine WQ.then ?_
    refine hK8 _ _ _ ?_
    refine WC.seq fun K130 hK130 => ?_
    refine WC.region ?_
    refine WL.pure (v := .agg #[.slice po ys.length co, .slice p0 ((posI ys 0).length) c0, .slice p1 ((posI ys 1).length) c1, .slice p2 ((posI ys 2).length) c2, .slice p3 ((posI ys 3).length) c3]) 39 rfl (Nat.le_of_ble_eq_true rfl) rfl rfl (x_loadS (cs := [.slice po ys.length co, .slice p0 ((posI ys 0).length) c0, .slice p1 ((posI ys 1).length) c1, .slice p2 ((posI ys 2).length) c2, .slice p3 ((posI ys 3).length) c3]) rfl rfl Try.underlying55 rfl sz55 (HP.range hH12 1 rfl rfl)) ?_
    refine WL.storeS (H2 := [.cel b2 #[.slice po ys.length co, .slice p0 ((posI ys 0).length) c0, .slice p1 ((posI ys 1).length) c1, .slice p2 ((posI ys 2).length) c2, .slice p3 ((posI ys 3).length) c3] 55, .cel b3 #[.slice po ys.length co, .slice p0 ((posI ys 0).length) c0, .slice p1 ((posI ys 1).length) c1, .slice p2 ((posI ys 2).length) c2, .slice p3 ((posI ys 3).length) c3] 55, rowI' po co ys, rowI' p0 c0 (posI ys 0), rowI' p1 c1 (posI ys 1), rowI' p2 c2 (posI ys 2), rowI' p3 c3 (posI ys 3)]) 0 hH12 rfl rfl rfl rfl rfl rfl sz55 rfl (Nat.le_of_ble_eq_true rfl) rfl rfl ?_
    intro w131 hH132
    refine WL.nil ?_
    refine WQ.then ?_
    refine hK130 _ _ _ ?_
    refine WC.ret ?_
    refine WQ.retC 2 55 rfl rfl (HP.loadRow hH132 0 rfl Try.underlying55 rfl sz55) ?_
    obtain rfl : i = N := by omega
    have hlen := owl_len (o := o) (sp := sp) i (fun q hq => (okS1_iff.1 (hok.2.2 q (by omega))).2)
    rw [← hys] at hlen
    refine ⟨mkW po p0 p1 p2 p3 ys.length (posI ys 0).length (posI ys 1).length (posI ys 2).length (posI ys 3).length co c0 c1 c2 c3, rfl, ?_, HP.below hH132⟩
    rw [← hys]
    refine ⟨rfl, fun m hm => ?_, fun m hm => ?_, by omega, by omega⟩
    · rcases (show m = 0 ∨ m = 1 ∨ m = 2 ∨ m = 3 by omega) with rfl | rfl | rfl | rfl <;> rfl
    · rcases (show m = 0 ∨ m = 1 ∨ m = 2 ∨ m = 3 by omega) with rfl | rfl | rfl | rfl
      · exact row_in (HP.get hH132 3 rfl)
      · exact row_in (HP.get hH132 4 rfl)
      · exact row_in (HP.get hH132 5 rfl)
      · exact row_in (HP.get hH132 6 rfl)
end Bs
end Go.Proofs.Yteckbfebemofmaa
